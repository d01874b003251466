/- Part 4 of the proof of PseudoParts: M1, M2, P1, P2, P3, FwQA, FwSD. Own lemmas; no conditions. -/
import Derived.Test.YtmnkngmmfnncoaaGreatPseudoPartsPart3
set_option linter.unusedSimpArgs false
set_option linter.unnecessarySimpa false
set_option linter.unusedVariables false
namespace Go.Proofs.YtmnkngmmfnncoaaGreat
open Go Go.FW
set_option linter.unusedSimpArgs false
set_option linter.unusedVariables false
set_option maxRecDepth 100000
theorem Qj2 {a : List Int} (hl : a.length < 2 ^ 42) : Qe Tryz.prog 186 [PV.mono a] (· = PV.mono (Qb0 a)) := by
  refine Qf Qk Tryz.func186 rfl Q89 (by simp [Q4j]) fun C hP => ?_; simp only [Q4j]
  simp +decide (disch := first | omega | rfl | (simp +decide only [go_sem, ↓reduceIte] <;> rfl) | fail) only [go_sem, ↓reduceIte]
  refine Qx (by repeat (first | exact Qv | exact Qq | exact Qr | exact Qs | apply Qp | apply Qu | apply Qy | apply Q7 | apply Q8 | apply Qn)) [(3, 3), (6, 17)] [] (fun n J hp => n ≤ a.length ∧ Qey a n = Qb0 a ∧ J 3 = .int .i64 n ∧ hp = hp0) a.length ?_ ?_
  · refine ⟨Nat.le_refl _, rfl, ?_⟩
    simp +decide (disch := first | omega | rfl | (simp +decide only [go_sem, ↓reduceIte] <;> rfl) | fail) only [go_sem, ↓reduceIte]
  rintro n J _ ⟨hn, hc, h3, rfl⟩
  simp +decide (disch := first | omega | rfl | (simp +decide only [go_sem, ↓reduceIte, h3] <;> rfl) | fail) only [go_sem, ↓reduceIte, h3]
  refine Qap (fun hg => ?_) (fun hg => ?_)
  · obtain _ | n := n
    · omega
    have e : ((n + 1 : Nat) : Int) - 1 = n := by omega
    simp only [Qey] at hc
    simp +decide (disch := first | omega | rfl | (simp +decide only [go_sem, ↓reduceIte, h3, e] <;> rfl) | fail) only [go_sem, ↓reduceIte, h3, e]
    refine Qb (fun hz => ?_) (fun hz => ?_)
    · rw [if_pos (by simp [hz, show n < a.length by omega])] at hc
      simp +decide (disch := first | omega | rfl | (simp +decide only [go_sem, ↓reduceIte, h3, e] <;> rfl) | fail) only [go_sem, ↓reduceIte, h3, e]
      refine Ql n (by omega) ⟨by omega, hc, ?_⟩
      simp +decide (disch := first | omega | rfl | (simp +decide only [go_sem, ↓reduceIte] <;> rfl) | fail) only [go_sem, ↓reduceIte]
    · rw [if_neg (by simpa [show n < a.length by omega] using hz)] at hc
      simp +decide (disch := first | omega | rfl | (simp +decide only [go_sem, ↓reduceIte, h3, e] <;> rfl) | fail) only [go_sem, ↓reduceIte, h3, e]
      refine Qb (fun h => by omega) (fun h => ?_)
      simp +decide (disch := first | omega | rfl | (simp +decide only [go_sem, ↓reduceIte, h3, e] <;> rfl) | fail) only [go_sem, ↓reduceIte, h3, e]
      exact Qc (congrArg PV.mono hc) rfl
  · obtain rfl : n = 0 := by omega
    simp +decide (disch := first | omega | rfl | (simp +decide only [go_sem, ↓reduceIte, h3] <;> rfl) | fail) only [go_sem, ↓reduceIte, h3]
    exact Qci (Qrw (by rw [← hc]; rfl)) rfl
theorem Qlz {a : List Int} (hl : a.length ≤ 1048576) (hb : ∀ x ∈ a, 0 ≤ x ∧ x ≤ 1099511627776) : Qe Tryz.prog 193 [PV.mono a] (· = .int .i64 (Qfa a)) := by
  refine Qf Qk Tryz.func193 rfl Q9a (by simp [Q4k]) fun C hP => ?_; simp only [Q4k]
  simp +decide (disch := first | omega | rfl | (simp +decide only [go_sem, ↓reduceIte] <;> rfl) | fail) only [go_sem, ↓reduceIte]
  refine Qx (by repeat (first | exact Qv | exact Qq | exact Qr | exact Qs | apply Qp | apply Qu | apply Qy | apply Q7 | apply Q8 | apply Qn)) [(3, 3), (5, 5), (8, 15)] [] (fun k J hp => ∃ (i : Nat) (s : Int), k = a.length - i ∧ i ≤ a.length ∧ 0 ≤ s ∧ s ≤ 1099511627776 * i ∧ s + (a.drop i).sum = Qfa a ∧ J 8 = .int .i64 (i : Nat) ∧ J 3 = .int .i64 s ∧ hp = hp0) a.length ?_ ?_
  · refine ⟨0, 0, rfl, by omega, by omega, by omega, by simp [Qfa], ?_⟩
    simp +decide (disch := first | omega | rfl | (simp +decide only [go_sem, ↓reduceIte] <;> rfl) | fail) only [go_sem, ↓reduceIte]
    simp
  rintro _ J _ ⟨i, s, rfl, hi, hs0, hs1, hsum, h8, h3, rfl⟩
  simp +decide (disch := first | omega | rfl | (simp +decide only [go_sem, ↓reduceIte, h8, h3] <;> rfl) | fail) only [go_sem, ↓reduceIte, h8, h3]
  refine Qb (fun hg => ?_) (fun hg => ?_)
  · have hi' : i < a.length := by omega
    have hx := hb _ (List.getElem_mem hi')
    rw [List.drop_eq_getElem_cons hi', List.sum_cons] at hsum
    generalize hxx : a[i] = x at *
    simp +decide (disch := first | omega | rfl | (simp +decide only [go_sem, ↓reduceIte, h8, h3, hxx] <;> rfl) | fail) only [go_sem, ↓reduceIte, h8, h3, hxx]
    refine Ql (a.length - (i + 1)) (by omega) ⟨i + 1, s + x, rfl, by omega, by omega, by push_cast; omega, by omega, ?_⟩
    simp +decide (disch := first | omega | rfl | (simp +decide only [go_sem, ↓reduceIte] <;> rfl) | fail) only [go_sem, ↓reduceIte]
  · rw [List.drop_of_length_le (by omega), List.sum_nil, Int.add_zero] at hsum
    simp +decide (disch := first | omega | rfl | (simp +decide only [go_sem, ↓reduceIte, h3] <;> rfl) | fail) only [go_sem, ↓reduceIte, h3]
    exact Qc (by rw [hsum]) rfl
theorem Qp8 {a : List Int} {v : Int} (hl : a.length < 2 ^ 42) : Qe Tryz.prog 130 [PV.mono a, .int .i64 v] (· = .int .i64 (if v < 0 then 0 else eN a v.toNat)) := by
  refine Qf Qk Tryz.func130 rfl Q9b (by simp [Q4l]) fun C hP => ?_; simp only [Q4l]
  simp +decide (disch := first | omega | rfl | (simp +decide only [go_sem, ↓reduceIte] <;> rfl) | fail) only [go_sem, ↓reduceIte]
  refine Qad (fun h1 => ?_) (fun h1 => ?_)
  · simp +decide (disch := first | omega | rfl | (simp +decide only [go_sem, ↓reduceIte] <;> rfl) | fail) only [go_sem, ↓reduceIte]
    exact Qc (by rw [if_pos h1]) rfl
  · obtain ⟨n, rfl⟩ : ∃ n : Nat, v = n := ⟨v.toNat, by omega⟩
    rw [if_neg h1]
    simp +decide (disch := first | omega | rfl | (simp +decide only [go_sem, ↓reduceIte] <;> rfl) | fail) only [go_sem, ↓reduceIte]
    refine Qb (fun h2 => ?_) (fun h2 => ?_)
    · simp +decide (disch := first | omega | rfl | (simp +decide only [go_sem, ↓reduceIte] <;> rfl) | fail) only [go_sem, ↓reduceIte]
      exact Qc (by rw [Qbz (by omega)]) rfl
    · have hn : n < a.length := by omega
      simp +decide (disch := first | omega | rfl | (simp +decide only [go_sem, ↓reduceIte] <;> rfl) | fail) only [go_sem, ↓reduceIte]
      exact Qc (by rw [Qcy hn]) rfl
theorem Qhg {a : List Int} {i : Nat} (hl : a.length < 2 ^ 42) : Qe Tryz.prog 130 [PV.mono a, .int .i64 i] (· = .int .i64 (eN a i)) := by
  have := Qp8 (v := i) hl
  rwa [if_neg (by omega), Int.toNat_natCast] at this
end Go.Proofs.YtmnkngmmfnncoaaGreat
namespace Go.Proofs.YtmnkngmmfnncoaaGreat
open Go Go.FW
set_option linter.unusedSimpArgs false
set_option linter.unusedVariables false
set_option maxRecDepth 100000
theorem Qkl {a b : List Int} {f : Nat} {g : Int → Int → Int} (hla : a.length < 2 ^ 40) (hlb : b.length < 2 ^ 40) (hf : ∀ i, Qe Tryz.prog f [.int .i64 (eN a i), .int .i64 (eN b i)] (· = .int .i64 (g (eN a i) (eN b i)))) :
    Qe Tryz.prog 191 [PV.mono a, PV.mono b, .fn f [] []] (· = PV.mono (Qfn g a b)) := by
  refine Qf Qk Tryz.func191 rfl Q88 (by simp [Q4i]) fun C hP => ?_; simp only [Q4i]
  simp +decide (disch := first | omega | rfl | (simp +decide only [go_sem, ↓reduceIte] <;> rfl) | fail) only [go_sem, ↓reduceIte]
  refine Qx (by repeat (first | exact Qv | exact Qq | exact Qr | exact Qs | apply Qp | apply Qu | apply Qy | apply Q7 | apply Q8 | apply Qn)) [(8, 10), (19, 45)] [] (fun k J hp => ∃ i, k = max a.length b.length - i ∧ i ≤ max a.length b.length ∧ J 19 = .int .i64 (i : Nat) ∧ hp = Qo hp0 16 ⟨1, 3, Qfj ((Qfn g a b).take i ++ List.replicate (max a.length b.length - i) 0), false⟩) (max a.length b.length) ?_ ?_
  · refine ⟨0, rfl, by omega, ?_⟩
    simp +decide (disch := first | omega | rfl | (simp +decide only [go_sem, ↓reduceIte] <;> rfl) | fail) only [go_sem, ↓reduceIte]
    simp
  rintro _ J _ ⟨i, rfl, hi, h19, rfl⟩
  simp +decide (disch := first | omega | rfl | (simp +decide only [go_sem, ↓reduceIte, h19] <;> rfl) | fail) only [go_sem, ↓reduceIte, h19]
  refine Qb (fun hg => ?_) (fun hg => ?_)
  · have hi' : i < max a.length b.length := by omega
    have hfi := hf i
    have htl : ((Qfn g a b).take i).length = i := by rw [List.length_take, Qcm]; omega
    have hset := fun v => Q0c (v := v) (z := (0 : Int)) htl (show 0 < max a.length b.length - i by omega)
    have hlen : i < ((Qfn g a b).take i ++ List.replicate (max a.length b.length - i) (0 : Int)).length := by rw [List.length_append, htl, List.length_replicate]; omega
    have htk := Q0d (g := g) hi'
    have fin : ∀ x y, x = eN a i → y = eN b i → Qe Tryz.prog f [.int .i64 x, .int .i64 y] (· = .int .i64 (g (eN a i) (eN b i))) := by rintro _ _ rfl rfl; exact hfi
    simp +decide (disch := first | omega | rfl | (simp +decide only [go_sem, ↓reduceIte, h19] <;> rfl) | fail) only [go_sem, ↓reduceIte, h19]
    refine Qb (fun h1 => ?_) (fun h1 => ?_)
    · have h1' : i < a.length := by omega
      simp +decide (disch := first | omega | rfl | (simp +decide only [go_sem, ↓reduceIte, h19] <;> rfl) | fail) only [go_sem, ↓reduceIte, h19]
      refine Qb (fun h2 => ?_) (fun h2 => ?_)
      · have h2' : i < b.length := by omega
        simp +decide (disch := first | omega | rfl | (simp +decide only [go_sem, ↓reduceIte, h19] <;> rfl) | fail) only [go_sem, ↓reduceIte, h19]
        refine Qa hP (fin _ _ (Qcy h1').symm (Qcy h2').symm) rfl rfl rfl ?_
        simp +decide (disch := first | omega | rfl | (simp +decide only [go_sem, ↓reduceIte, h19, hset, ← htk] <;> rfl) | fail) only [go_sem, ↓reduceIte, h19, hset, ← htk]
        refine Ql (max a.length b.length - (i + 1)) (by omega) ⟨i + 1, rfl, by omega, ?_⟩
        simp +decide (disch := first | omega | rfl | (simp +decide only [go_sem, ↓reduceIte, Nat.sub_sub] <;> rfl) | fail) only [go_sem, ↓reduceIte, Nat.sub_sub]
      · simp +decide (disch := first | omega | rfl | (simp +decide only [go_sem, ↓reduceIte, h19] <;> rfl) | fail) only [go_sem, ↓reduceIte, h19]
        refine Qa hP (fin _ _ (Qcy h1').symm (Qbz (by omega)).symm) rfl rfl rfl ?_
        simp +decide (disch := first | omega | rfl | (simp +decide only [go_sem, ↓reduceIte, h19, hset, ← htk] <;> rfl) | fail) only [go_sem, ↓reduceIte, h19, hset, ← htk]
        refine Ql (max a.length b.length - (i + 1)) (by omega) ⟨i + 1, rfl, by omega, ?_⟩
        simp +decide (disch := first | omega | rfl | (simp +decide only [go_sem, ↓reduceIte, Nat.sub_sub] <;> rfl) | fail) only [go_sem, ↓reduceIte, Nat.sub_sub]
    · simp +decide (disch := first | omega | rfl | (simp +decide only [go_sem, ↓reduceIte, h19] <;> rfl) | fail) only [go_sem, ↓reduceIte, h19]
      refine Qb (fun h2 => ?_) (fun h2 => by omega)
      have h2' : i < b.length := by omega
      simp +decide (disch := first | omega | rfl | (simp +decide only [go_sem, ↓reduceIte, h19] <;> rfl) | fail) only [go_sem, ↓reduceIte, h19]
      refine Qa hP (fin _ _ (Qbz (by omega)).symm (Qcy h2').symm) rfl rfl rfl ?_
      simp +decide (disch := first | omega | rfl | (simp +decide only [go_sem, ↓reduceIte, h19, hset, ← htk] <;> rfl) | fail) only [go_sem, ↓reduceIte, h19, hset, ← htk]
      refine Ql (max a.length b.length - (i + 1)) (by omega) ⟨i + 1, rfl, by omega, ?_⟩
      simp +decide (disch := first | omega | rfl | (simp +decide only [go_sem, ↓reduceIte, Nat.sub_sub] <;> rfl) | fail) only [go_sem, ↓reduceIte, Nat.sub_sub]
  · obtain rfl : i = max a.length b.length := by omega
    simp +decide (disch := first | omega | rfl | (simp +decide only [go_sem, ↓reduceIte, Qg, List.contains_cons, List.contains_nil, List.flatMap_cons, List.flatMap_nil, List.append_nil] <;> rfl) | fail) only [go_sem, ↓reduceIte, Qg, List.contains_cons, List.contains_nil, List.flatMap_cons, List.flatMap_nil, List.append_nil]
    exact Qc (by simp [List.take_of_length_le, Qcm]) rfl
theorem Qvq {x y : Int} (h1 : -9223372036854775808 ≤ x + y) (h2 : x + y ≤ 9223372036854775807) : Qe Tryz.prog 219 [.int .i64 x, .int .i64 y] (· = .int .i64 (x + y)) := by
  refine Qf Qk Tryz.func219 rfl Q9e (by simp [Q4o]) fun C hP => ?_; simp only [Q4o]
  simp +decide (disch := first | omega | rfl | (simp +decide only [go_sem, ↓reduceIte] <;> rfl) | fail) only [go_sem, ↓reduceIte]
  exact Qc rfl rfl
theorem Qx3 {k : Nat} {a b : List Int} (ha : MB k a) (hb : MB k b) (hk : k ≤ 1099511627776) : Qe Tryz.prog 194 [PV.mono a, PV.mono b] (· = PV.mono (Qbs a b)) := by
  have h1 := ha.len
  have h2 := hb.len
  have hz := Qcm (· + ·) a b
  refine Qf Qk Tryz.func194 rfl Q9d (by simp [Q4n]) fun C hP => ?_; simp only [Q4n]
  simp +decide (disch := first | omega | rfl | (simp +decide only [go_sem, ↓reduceIte] <;> rfl) | fail) only [go_sem, ↓reduceIte]
  refine Qa hP (Qkl (f := 219) (g := (· + ·)) (by omega) (by omega) (fun i => Qvq (by have := ha.eN i; have := hb.eN i; omega) (by have := ha.eN i; have := hb.eN i; omega))) rfl rfl rfl ?_
  simp +decide (disch := first | omega | rfl | (simp +decide only [go_sem, ↓reduceIte] <;> rfl) | fail) only [go_sem, ↓reduceIte]
  refine Qa hP (Qj2 (by omega)) rfl rfl rfl ?_
  simp +decide (disch := first | omega | rfl | (simp +decide only [go_sem, ↓reduceIte] <;> rfl) | fail) only [go_sem, ↓reduceIte]
  exact Qc rfl rfl
theorem Qvr {a : List Int} (hl : a.length < 2 ^ 42) : Qe Tryz.prog 128 [PV.mono a] (· = .int .i64 ((Qb0 a).length - 1)) := by
  have := Qc6 a
  refine Qf Qk Tryz.func128 rfl Q9c (by simp [Q4m]) fun C hP => ?_; simp only [Q4m]
  simp +decide (disch := first | omega | rfl | (simp +decide only [go_sem, ↓reduceIte] <;> rfl) | fail) only [go_sem, ↓reduceIte]
  refine Qa hP (Qj2 hl) rfl rfl rfl ?_
  simp +decide (disch := first | omega | rfl | (simp +decide only [go_sem, ↓reduceIte] <;> rfl) | fail) only [go_sem, ↓reduceIte]
  exact Qc rfl rfl
theorem Qll {k : Nat} {a b : List Int} {o : Int} (ha : MB k a) (hb : MB k b) (hk : k ≤ 1099511627776) : Qe Tryz.prog 140 [PV.mono a, PV.mono b, .int .i64 o] (· = .int .i64 (Qeo o a b)) := by
  have h1 := ha.len
  have h2 := hb.len
  have hda : ∀ x ∈ a, 0 ≤ x ∧ x ≤ 1099511627776 := fun x hx => by have := ha.lo x hx; have := ha.hi x hx; omega
  have hdb : ∀ x ∈ b, 0 ≤ x ∧ x ≤ 1099511627776 := fun x hx => by have := hb.lo x hx; have := hb.hi x hx; omega
  refine Qf Qk Tryz.func140 rfl Q9f (by simp [Q4p]) fun C hP => ?_; simp only [Q4p]
  simp +decide (disch := first | omega | rfl | (simp +decide only [go_sem, ↓reduceIte] <;> rfl) | fail) only [go_sem, ↓reduceIte]
  refine Qb (fun ho => ?_) (fun ho => ?_)
  · simp +decide (disch := first | omega | rfl | (simp +decide only [go_sem, ↓reduceIte] <;> rfl) | fail) only [go_sem, ↓reduceIte]
    refine Qa hP (Qlz (by omega) hda) rfl rfl rfl ?_
    simp +decide (disch := first | omega | rfl | (simp +decide only [go_sem, ↓reduceIte] <;> rfl) | fail) only [go_sem, ↓reduceIte]
    refine Qa hP (Qlz (by omega) hdb) rfl rfl rfl ?_
    simp +decide (disch := first | omega | rfl | (simp +decide only [go_sem, ↓reduceIte] <;> rfl) | fail) only [go_sem, ↓reduceIte]
    refine Qb (fun hd => ?_) (fun hd => ?_)
    · have hord : Qeo o a b = Qbu (Qfa a) (Qfa b) := by unfold Qeo; rw [if_pos ⟨ho, hd⟩]
      simp +decide (disch := first | omega | rfl | (simp +decide only [go_sem, ↓reduceIte] <;> rfl) | fail) only [go_sem, ↓reduceIte]
      refine Qb (fun h5 => ?_) (fun h5 => ?_)
      · simp +decide (disch := first | omega | rfl | (simp +decide only [go_sem, ↓reduceIte] <;> rfl) | fail) only [go_sem, ↓reduceIte]
        exact Qc (by rw [hord, Qbu, if_pos h5]) rfl
      · simp +decide (disch := first | omega | rfl | (simp +decide only [go_sem, ↓reduceIte] <;> rfl) | fail) only [go_sem, ↓reduceIte]
        exact Qc (by rw [hord, Qbu, if_neg h5, if_pos (by omega)]) rfl
    have hord : Qeo o a b = Qac a b := by unfold Qeo; rw [if_neg (fun h => hd h.2)]
    simp +decide (disch := first | omega | rfl | (simp +decide only [go_sem, ↓reduceIte] <;> rfl) | fail) only [go_sem, ↓reduceIte]
    refine Qx (by repeat (first | exact Qv | exact Qq | exact Qr | exact Qs | apply Qp | apply Qu | apply Qy | apply Q7 | apply Q8 | apply Qn)) [(6, 6), (9, 11), (30, 45)] [] (fun n J hp => n ≤ max a.length b.length ∧ Qbj a b n = Qac a b ∧ J 9 = .int .i64 ((n : Int) - 1) ∧ hp = hp0) (max a.length b.length) ?_ ?_
    · refine ⟨by omega, rfl, ?_⟩
      simp +decide (disch := first | omega | rfl | (simp +decide only [go_sem, ↓reduceIte] <;> rfl) | fail) only [go_sem, ↓reduceIte]
    rintro n J _ ⟨hn, hc, h9, rfl⟩
    simp +decide (disch := first | omega | rfl | (simp +decide only [go_sem, ↓reduceIte, h9] <;> rfl) | fail) only [go_sem, ↓reduceIte, h9]
    refine Qb (fun hg => ?_) (fun hg => ?_)
    · obtain _ | n := n
      · omega
      have e : ((n + 1 : Nat) : Int) - 1 = n := by omega
      rw [Qbj] at hc
      simp +decide (disch := first | omega | rfl | (simp +decide only [go_sem, ↓reduceIte, h9, e] <;> rfl) | fail) only [go_sem, ↓reduceIte, h9, e]
      refine Qa hP (Qhg (by omega)) rfl rfl rfl ?_
      simp +decide (disch := first | omega | rfl | (simp +decide only [go_sem, ↓reduceIte, h9, e] <;> rfl) | fail) only [go_sem, ↓reduceIte, h9, e]
      refine Qa hP (Qhg (by omega)) rfl rfl rfl ?_
      simp +decide (disch := first | omega | rfl | (simp +decide only [go_sem, ↓reduceIte, h9, e] <;> rfl) | fail) only [go_sem, ↓reduceIte, h9, e]
      refine Qb (fun h4 => ?_) (fun h4 => ?_)
      · rw [if_neg h4] at hc
        simp +decide (disch := first | omega | rfl | (simp +decide only [go_sem, ↓reduceIte, h9, e] <;> rfl) | fail) only [go_sem, ↓reduceIte, h9, e]
        refine Qb (fun h5 => ?_) (fun h5 => ?_)
        · simp +decide (disch := first | omega | rfl | (simp +decide only [go_sem, ↓reduceIte, h9, e] <;> rfl) | fail) only [go_sem, ↓reduceIte, h9, e]
          exact Qc (by rw [hord, ← hc, Qbu, if_pos h5]) rfl
        · simp +decide (disch := first | omega | rfl | (simp +decide only [go_sem, ↓reduceIte, h9, e] <;> rfl) | fail) only [go_sem, ↓reduceIte, h9, e]
          exact Qc (by rw [hord, ← hc, Qbu, if_neg h5, if_pos (by omega)]) rfl
      · rw [if_pos (by omega)] at hc
        simp +decide (disch := first | omega | rfl | (simp +decide only [go_sem, ↓reduceIte, h9, e] <;> rfl) | fail) only [go_sem, ↓reduceIte, h9, e]
        refine Ql n (by omega) ⟨by omega, hc, ?_⟩
        simp +decide (disch := first | omega | rfl | (simp +decide only [go_sem, ↓reduceIte] <;> rfl) | fail) only [go_sem, ↓reduceIte]
    · obtain rfl : n = 0 := by omega
      simp +decide (disch := first | omega | rfl | (simp +decide only [go_sem, ↓reduceIte] <;> rfl) | fail) only [go_sem, ↓reduceIte]
      exact Qc (by rw [hord, ← hc]; rfl) rfl
  · have hord : Qeo o a b = Qac a b := by unfold Qeo; rw [if_neg (fun h => ho h.1)]
    simp +decide (disch := first | omega | rfl | (simp +decide only [go_sem, ↓reduceIte] <;> rfl) | fail) only [go_sem, ↓reduceIte]
    refine Qx (by repeat (first | exact Qv | exact Qq | exact Qr | exact Qs | apply Qp | apply Qu | apply Qy | apply Q7 | apply Q8 | apply Qn)) [(6, 6), (9, 11), (30, 45)] [] (fun n J hp => n ≤ max a.length b.length ∧ Qbj a b n = Qac a b ∧ J 9 = .int .i64 ((n : Int) - 1) ∧ hp = hp0) (max a.length b.length) ?_ ?_
    · refine ⟨by omega, rfl, ?_⟩
      simp +decide (disch := first | omega | rfl | (simp +decide only [go_sem, ↓reduceIte] <;> rfl) | fail) only [go_sem, ↓reduceIte]
    rintro n J _ ⟨hn, hc, h9, rfl⟩
    simp +decide (disch := first | omega | rfl | (simp +decide only [go_sem, ↓reduceIte, h9] <;> rfl) | fail) only [go_sem, ↓reduceIte, h9]
    refine Qb (fun hg => ?_) (fun hg => ?_)
    · obtain _ | n := n
      · omega
      have e : ((n + 1 : Nat) : Int) - 1 = n := by omega
      rw [Qbj] at hc
      simp +decide (disch := first | omega | rfl | (simp +decide only [go_sem, ↓reduceIte, h9, e] <;> rfl) | fail) only [go_sem, ↓reduceIte, h9, e]
      refine Qa hP (Qhg (by omega)) rfl rfl rfl ?_
      simp +decide (disch := first | omega | rfl | (simp +decide only [go_sem, ↓reduceIte, h9, e] <;> rfl) | fail) only [go_sem, ↓reduceIte, h9, e]
      refine Qa hP (Qhg (by omega)) rfl rfl rfl ?_
      simp +decide (disch := first | omega | rfl | (simp +decide only [go_sem, ↓reduceIte, h9, e] <;> rfl) | fail) only [go_sem, ↓reduceIte, h9, e]
      refine Qb (fun h4 => ?_) (fun h4 => ?_)
      · rw [if_neg h4] at hc
        simp +decide (disch := first | omega | rfl | (simp +decide only [go_sem, ↓reduceIte, h9, e] <;> rfl) | fail) only [go_sem, ↓reduceIte, h9, e]
        refine Qb (fun h5 => ?_) (fun h5 => ?_)
        · simp +decide (disch := first | omega | rfl | (simp +decide only [go_sem, ↓reduceIte, h9, e] <;> rfl) | fail) only [go_sem, ↓reduceIte, h9, e]
          exact Qc (by rw [hord, ← hc, Qbu, if_pos h5]) rfl
        · simp +decide (disch := first | omega | rfl | (simp +decide only [go_sem, ↓reduceIte, h9, e] <;> rfl) | fail) only [go_sem, ↓reduceIte, h9, e]
          exact Qc (by rw [hord, ← hc, Qbu, if_neg h5, if_pos (by omega)]) rfl
      · rw [if_pos (by omega)] at hc
        simp +decide (disch := first | omega | rfl | (simp +decide only [go_sem, ↓reduceIte, h9, e] <;> rfl) | fail) only [go_sem, ↓reduceIte, h9, e]
        refine Ql n (by omega) ⟨by omega, hc, ?_⟩
        simp +decide (disch := first | omega | rfl | (simp +decide only [go_sem, ↓reduceIte] <;> rfl) | fail) only [go_sem, ↓reduceIte]
    · obtain rfl : n = 0 := by omega
      simp +decide (disch := first | omega | rfl | (simp +decide only [go_sem, ↓reduceIte] <;> rfl) | fail) only [go_sem, ↓reduceIte]
      exact Qc (by rw [hord, ← hc]; rfl) rfl
end Go.Proofs.YtmnkngmmfnncoaaGreat
namespace Go.Proofs.YtmnkngmmfnncoaaGreat
open Go Go.FW
set_option linter.unusedSimpArgs false
set_option linter.unusedVariables false
set_option maxRecDepth 100000
theorem Qaen {a b : Rat} {k : Nat} (ha : rs a ≤ k) (hb : rs b ≤ k) (hk : k < 2 ^ 36) : Qe Tryz.prog 37 [PV.rat a, PV.rat b] (· = PV.rat (a + b)) := by
  have := Qr5 (Qcd ha) (Qcd hb) hk
  rwa [Qcq, Qcq] at this
theorem Qaeo {a b : Rat} {k : Nat} (ha : rs a ≤ k) (hb : rs b ≤ k) (hk : k < 2 ^ 36) : Qe Tryz.prog 38 [PV.rat a, PV.rat b] (· = PV.rat (a * b)) := by
  have := Q0q (Qcd ha) (Qcd hb) hk
  rwa [Qcq, Qcq] at this
theorem Qms {a : Rat} (ha : rs a < 2 ^ 36) : Qe Tryz.prog 36 [PV.rat a] (· = .int .i64 (Qip a)) := by
  have := Qx2 (Qcd (Nat.le_refl (rs a))) ha
  rwa [Qcq] at this
theorem Qx4 {s t : Tm} {E : Nat} (hs : MB E s.2) (ht : MB E t.2) (hE : E ≤ 2 ^ 38) : Qe Tryz.prog 152 [PV.term s, PV.term t] (· = .int .i64 (Qac s.2 t.2)) := by
  refine Qf Qk Tryz.func152 rfl Q9k (by simp [Q4u]) fun C hP => ?_; simp only [Q4u]
  simp +decide (disch := first | omega | rfl | (simp +decide only [go_sem, ↓reduceIte] <;> rfl) | fail) only [go_sem, ↓reduceIte]
  refine Qa hP (Qll (o := 0) hs ht (by omega)) rfl rfl rfl ?_
  simp +decide (disch := first | omega | rfl | (simp +decide only [go_sem, ↓reduceIte] <;> rfl) | fail) only [go_sem, ↓reduceIte]
  exact Qc (by rw [Qmn]) rfl
theorem Qun {s t : Tm} {k : Nat} (hs : rs s.1 ≤ k) (ht : rs t.1 ≤ k) (hk : k < 2 ^ 34) : Qe Tryz.prog 153 [PV.term s, PV.term t] (· = .tup [PV.term (s.1 + t.1, s.2), .bool (decide (¬ s.1 + t.1 = 0))]) := by
  have hr := Qp0 s.1 t.1
  refine Qf Qk Tryz.func153 rfl Q9l (by simp [Q4v]) fun C hP => ?_; simp only [Q4v]
  simp +decide (disch := first | omega | rfl | (simp +decide only [go_sem, ↓reduceIte] <;> rfl) | fail) only [go_sem, ↓reduceIte]
  refine Qa hP (Qaen (a := s.1) (b := t.1) hs ht (by omega)) rfl rfl rfl ?_
  simp +decide (disch := first | omega | rfl | (simp +decide only [go_sem, ↓reduceIte] <;> rfl) | fail) only [go_sem, ↓reduceIte]
  refine Qa hP (Qms (a := s.1 + t.1) (by omega)) rfl rfl rfl ?_
  simp +decide (disch := first | omega | rfl | (simp +decide only [go_sem, ↓reduceIte] <;> rfl) | fail) only [go_sem, ↓reduceIte]
  refine Qje ?_
  simp +decide (disch := first | omega | rfl | (simp +decide only [go_sem, ↓reduceIte] <;> rfl) | fail) only [go_sem, ↓reduceIte]
  exact Qe9 rfl rfl rfl (Q3 _) (Qew (congrArg PV.bool (decide_eq_decide.2 (not_congr Qbe))))
theorem Ql0 {c : Rat} {m : List Int} (hc : rs c < 2 ^ 36) : Qe Tryz.prog 181 [PV.rat c, PV.mono m] (· = PV.poly (if c = 0 then [] else [(c, m)])) := by
  refine Qf Qk Tryz.func181 rfl Q9m (by simp [Q4w]) fun C hP => ?_; simp only [Q4w]
  simp +decide (disch := first | omega | rfl | (simp +decide only [go_sem, ↓reduceIte] <;> rfl) | fail) only [go_sem, ↓reduceIte]
  refine Qa hP (Qms (a := c) hc) rfl rfl rfl ?_
  simp +decide (disch := first | omega | rfl | (simp +decide only [go_sem, ↓reduceIte] <;> rfl) | fail) only [go_sem, ↓reduceIte]
  refine Qb (fun h0 => ?_) (fun h0 => ?_)
  · rw [if_pos (Qbe.1 h0)]
    simp +decide (disch := first | omega | rfl | (simp +decide only [go_sem, ↓reduceIte] <;> rfl) | fail) only [go_sem, ↓reduceIte]
    exact Qci Qud rfl
  · rw [if_neg (fun h => h0 (Qbe.2 h))]
    simp +decide (disch := first | omega | rfl | (simp +decide only [go_sem, ↓reduceIte, Qg, List.contains_cons, List.contains_nil, List.flatMap_cons, List.flatMap_nil, List.append_nil] <;> rfl) | fail) only [go_sem, ↓reduceIte, Qg, List.contains_cons, List.contains_nil, List.flatMap_cons, List.flatMap_nil, List.append_nil]
    exact Qc rfl rfl
theorem Quo {p q : List Tm} {K E : Nat} (hp : PB K E p) (hq : PB K E q) (hK : K ≤ 2 ^ 33) (hE : E ≤ 2 ^ 38) (hlp : p.length ≤ 2 ^ 36) (hlq : q.length ≤ 2 ^ 36) :
    Qe Tryz.prog 151 [PV.poly p, PV.poly q, .fn 152 [] [], .fn 153 [] []] (· = PV.poly (Q4 p q)) := by
  refine Qf Qk Tryz.func151 rfl Q9j (by simp [Q4t]) fun C hP => ?_; simp only [Q4t]
  simp +decide (disch := first | omega | rfl | (simp +decide only [go_sem, ↓reduceIte] <;> rfl) | fail) only [go_sem, ↓reduceIte]
  refine Qx (by repeat (first | exact Qv | exact Qq | exact Qr | exact Qs | apply Qp | apply Qu | apply Qy | apply Q7 | apply Q8 | apply Qn)) [(9, 14), (21, 86)] [13, 20, 57, 58, 71, 72, 83, 84] (fun n J hp => ∃ i k out, n = (p.length - i) + (q.length - k) ∧ i ≤ p.length ∧ k ≤ q.length ∧ out.length ≤ i + k ∧ out ++ Q4 (p.drop i) (q.drop k) = Q4 p q ∧
    J 9 = .ms 20 out.length ∧ J 10 = .int .i64 (i : Nat) ∧ J 11 = .int .i64 (k : Nat) ∧ hp 20 = some ⟨4, 133, out.map PV.term, false⟩) (p.length + q.length) ?_ ?_
  · refine ⟨0, 0, [], by omega, by omega, by omega, by simp, rfl, ?_⟩
    simp +decide (disch := first | omega | rfl | (simp +decide only [go_sem, ↓reduceIte] <;> rfl) | fail) only [go_sem, ↓reduceIte]
    simp
  rintro _ J h ⟨i, k, out, rfl, hi, hk, hol, hpad, h9, h10, h11, hh⟩
  simp +decide (disch := first | omega | rfl | (simp +decide only [go_sem, ↓reduceIte, h9, h10, h11] <;> rfl) | fail) only [go_sem, ↓reduceIte, h9, h10, h11]
  refine Qap (fun hg => ?_) (fun hg => ?_)
  · have hi' : i < p.length := by omega
    simp +decide (disch := first | omega | rfl | (simp +decide only [go_sem, ↓reduceIte, h9, h10, h11] <;> rfl) | fail) only [go_sem, ↓reduceIte, h9, h10, h11]
    refine Qb (fun hg2 => ?_) (fun hg2 => ?_)
    · have hk' : k < q.length := by omega
      have htp := hp.get hi'
      have htq := hq.get hk'
      rw [Qrx hi' hk'] at hpad
      have c1 := htp.c
      have c2 := htq.c
      generalize hx : p[i] = x at *
      generalize hy : q[k] = y at *
      simp +decide (disch := first | omega | rfl | (simp +decide only [go_sem, ↓reduceIte, h9, h10, h11, hx, hy] <;> rfl) | fail) only [go_sem, ↓reduceIte, h9, h10, h11, hx, hy]
      refine Qa hP (Qx4 (s := x) (t := y) htp.m htq.m hE) rfl rfl rfl ?_
      simp +decide (disch := first | omega | rfl | (simp +decide only [go_sem, ↓reduceIte, h9, h10, h11, hx, hy] <;> rfl) | fail) only [go_sem, ↓reduceIte, h9, h10, h11, hx, hy]
      refine Qb (fun hc => ?_) (fun hc => ?_)
      · rw [if_pos hc] at hpad
        simp +decide (disch := first | omega | rfl | (simp +decide only [go_sem, ↓reduceIte, h9, h10, h11, hx, hy] <;> rfl) | fail) only [go_sem, ↓reduceIte, h9, h10, h11, hx, hy]
        rw [Qaa (f := PV.term) (y := x) (xs := out) (ty' := 133) (fz := false) (by simp +decide (disch := first | omega | rfl | (simp +decide only [go_sem, ↓reduceIte, hh] <;> rfl) | fail) only [go_sem, ↓reduceIte, hh]) (by simp +decide (disch := first | omega | rfl | (simp +decide only [go_sem, ↓reduceIte] <;> rfl) | fail) only [go_sem, ↓reduceIte] <;> rfl) (by omega) rfl (by omega) (by omega)]
        simp +decide (disch := first | omega | rfl | (simp +decide only [go_sem, ↓reduceIte, h9, h10, h11, hx, hy] <;> rfl) | fail) only [go_sem, ↓reduceIte, h9, h10, h11, hx, hy]
        refine Ql ((p.length - (i + 1)) + (q.length - k)) (by omega) ⟨i + 1, k, out ++ [x], rfl, by omega, hk, by simp; omega, by simpa using hpad, ?_⟩
        simp +decide (disch := first | omega | rfl | (simp +decide only [go_sem, ↓reduceIte, h9, h10, h11] <;> rfl) | fail) only [go_sem, ↓reduceIte, h9, h10, h11]
        simp
      rw [if_neg hc] at hpad
      simp +decide (disch := first | omega | rfl | (simp +decide only [go_sem, ↓reduceIte, h9, h10, h11, hx, hy] <;> rfl) | fail) only [go_sem, ↓reduceIte, h9, h10, h11, hx, hy]
      refine Qb (fun hc2 => ?_) (fun hc2 => ?_)
      · rw [if_pos hc2] at hpad
        simp +decide (disch := first | omega | rfl | (simp +decide only [go_sem, ↓reduceIte, h9, h10, h11, hx, hy] <;> rfl) | fail) only [go_sem, ↓reduceIte, h9, h10, h11, hx, hy]
        rw [Qaa (f := PV.term) (y := y) (xs := out) (ty' := 133) (fz := false) (by simp +decide (disch := first | omega | rfl | (simp +decide only [go_sem, ↓reduceIte, hh] <;> rfl) | fail) only [go_sem, ↓reduceIte, hh]) (by simp +decide (disch := first | omega | rfl | (simp +decide only [go_sem, ↓reduceIte] <;> rfl) | fail) only [go_sem, ↓reduceIte] <;> rfl) (by omega) rfl (by omega) (by omega)]
        simp +decide (disch := first | omega | rfl | (simp +decide only [go_sem, ↓reduceIte, h9, h10, h11, hx, hy] <;> rfl) | fail) only [go_sem, ↓reduceIte, h9, h10, h11, hx, hy]
        refine Ql ((p.length - i) + (q.length - (k + 1))) (by omega) ⟨i, k + 1, out ++ [y], rfl, hi, by omega, by simp; omega, by simpa using hpad, ?_⟩
        simp +decide (disch := first | omega | rfl | (simp +decide only [go_sem, ↓reduceIte, h9, h10, h11] <;> rfl) | fail) only [go_sem, ↓reduceIte, h9, h10, h11]
        simp
      rw [if_neg hc2] at hpad
      simp +decide (disch := first | omega | rfl | (simp +decide only [go_sem, ↓reduceIte, h9, h10, h11, hx, hy] <;> rfl) | fail) only [go_sem, ↓reduceIte, h9, h10, h11, hx, hy]
      refine Qea ?_ ?_
      all_goals
        simp +decide (disch := first | omega | rfl | (simp +decide only [go_sem, ↓reduceIte, h9, h10, h11, hx, hy] <;> rfl) | fail) only [go_sem, ↓reduceIte, h9, h10, h11, hx, hy]
        refine Qa hP (Qun (s := x) (t := y) (k := 2 ^ 33) (by omega) (by omega) (by omega)) rfl rfl rfl ?_
        simp +decide (disch := first | omega | rfl | (simp +decide only [go_sem, ↓reduceIte, h9, h10, h11, hx, hy] <;> rfl) | fail) only [go_sem, ↓reduceIte, h9, h10, h11, hx, hy]
        refine Qb (fun hz => ?_) (fun hz => ?_)
        · rw [if_neg hz] at hpad
          simp +decide (disch := first | omega | rfl | (simp +decide only [go_sem, ↓reduceIte, h9, h10, h11, hx, hy] <;> rfl) | fail) only [go_sem, ↓reduceIte, h9, h10, h11, hx, hy]
          rw [Qaa (f := PV.term) (y := (x.1 + y.1, x.2)) (xs := out) (ty' := 133) (fz := false) (by simp +decide (disch := first | omega | rfl | (simp +decide only [go_sem, ↓reduceIte, hh] <;> rfl) | fail) only [go_sem, ↓reduceIte, hh]) (by simp +decide (disch := first | omega | rfl | (simp +decide only [go_sem, ↓reduceIte] <;> rfl) | fail) only [go_sem, ↓reduceIte] <;> rfl) (by omega) rfl (by omega) (by omega)]
          simp +decide (disch := first | omega | rfl | (simp +decide only [go_sem, ↓reduceIte, h9, h10, h11, hx, hy] <;> rfl) | fail) only [go_sem, ↓reduceIte, h9, h10, h11, hx, hy]
          refine Ql ((p.length - (i + 1)) + (q.length - (k + 1))) (by omega) ⟨i + 1, k + 1, out ++ [(x.1 + y.1, x.2)], rfl, by omega, by omega, by simp; omega, by simpa using hpad, ?_⟩
          simp +decide (disch := first | omega | rfl | (simp +decide only [go_sem, ↓reduceIte, h9, h10, h11] <;> rfl) | fail) only [go_sem, ↓reduceIte, h9, h10, h11]
          simp
        · rw [if_pos (Decidable.not_not.1 hz)] at hpad
          simp +decide (disch := first | omega | rfl | (simp +decide only [go_sem, ↓reduceIte, h9, h10, h11, hx, hy] <;> rfl) | fail) only [go_sem, ↓reduceIte, h9, h10, h11, hx, hy]
          refine Ql ((p.length - (i + 1)) + (q.length - (k + 1))) (by omega) ⟨i + 1, k + 1, out, rfl, by omega, by omega, by omega, hpad, ?_⟩
          simp +decide (disch := first | omega | rfl | (simp +decide only [go_sem, ↓reduceIte, h9, h10, h11, hh] <;> rfl) | fail) only [go_sem, ↓reduceIte, h9, h10, h11, hh]
    · have hfin : (out ++ p.drop i ++ q.drop k).take (out.length + (p.drop i).length + (q.drop k).length) = Q4 p q := by
        rw [List.take_of_length_le (by simp; omega), ← hpad, List.drop_of_length_le (by omega : q.length ≤ k), Qcc, List.append_nil]
      simp +decide (disch := first | omega | rfl | (simp +decide only [go_sem, ↓reduceIte, h9, h10, h11] <;> rfl) | fail) only [go_sem, ↓reduceIte, h9, h10, h11]
      rw [Qcr (f := PV.term) (xs := out) (ys := p.drop i) (by simp +decide (disch := first | omega | rfl | (simp +decide only [go_sem, ↓reduceIte, hh] <;> rfl) | fail) only [go_sem, ↓reduceIte, hh]) rfl (by omega) (by simp; omega) (by simp; omega)]
      simp +decide (disch := first | omega | rfl | (simp +decide only [go_sem, ↓reduceIte, h9, h10, h11] <;> rfl) | fail) only [go_sem, ↓reduceIte, h9, h10, h11]
      rw [Qcr (f := PV.term) (xs := out ++ p.drop i) (ys := q.drop k) (by simp +decide (disch := first | omega | rfl | (simp +decide only [go_sem, ↓reduceIte] <;> rfl) | fail) only [go_sem, ↓reduceIte]) (by simp) (by omega) (by simp; omega) (by simp; omega)]
      simp +decide (disch := first | omega | rfl | (simp +decide only [go_sem, ↓reduceIte, h9, h10, h11, Qg, List.contains_cons, List.contains_nil, List.flatMap_cons, List.flatMap_nil, List.append_nil] <;> rfl) | fail) only [go_sem, ↓reduceIte, h9, h10, h11, Qg, List.contains_cons, List.contains_nil, List.flatMap_cons, List.flatMap_nil, List.append_nil]
      exact Qc (by rw [← List.map_take, hfin]) rfl
  · have hfin : (out ++ p.drop i ++ q.drop k).take (out.length + (p.drop i).length + (q.drop k).length) = Q4 p q := by
      rw [List.take_of_length_le (by simp; omega), ← hpad, List.drop_of_length_le (by omega : p.length ≤ i), Qfo, List.append_nil]
    simp +decide (disch := first | omega | rfl | (simp +decide only [go_sem, ↓reduceIte, h9, h10, h11] <;> rfl) | fail) only [go_sem, ↓reduceIte, h9, h10, h11]
    rw [Qcr (f := PV.term) (xs := out) (ys := p.drop i) (by simp +decide (disch := first | omega | rfl | (simp +decide only [go_sem, ↓reduceIte, hh] <;> rfl) | fail) only [go_sem, ↓reduceIte, hh]) rfl (by omega) (by simp; omega) (by simp; omega)]
    simp +decide (disch := first | omega | rfl | (simp +decide only [go_sem, ↓reduceIte, h9, h10, h11] <;> rfl) | fail) only [go_sem, ↓reduceIte, h9, h10, h11]
    rw [Qcr (f := PV.term) (xs := out ++ p.drop i) (ys := q.drop k) (by simp +decide (disch := first | omega | rfl | (simp +decide only [go_sem, ↓reduceIte] <;> rfl) | fail) only [go_sem, ↓reduceIte]) (by simp) (by omega) (by simp; omega) (by simp; omega)]
    simp +decide (disch := first | omega | rfl | (simp +decide only [go_sem, ↓reduceIte, h9, h10, h11, Qg, List.contains_cons, List.contains_nil, List.flatMap_cons, List.flatMap_nil, List.append_nil] <;> rfl) | fail) only [go_sem, ↓reduceIte, h9, h10, h11, Qg, List.contains_cons, List.contains_nil, List.flatMap_cons, List.flatMap_nil, List.append_nil]
    exact Qc (by rw [← List.map_take, hfin]) rfl
theorem Qlm {p q : List Tm} {K E : Nat} (hp : PB K E p) (hq : PB K E q) (hK : K ≤ 2 ^ 33) (hE : E ≤ 2 ^ 38) (hlp : p.length ≤ 2 ^ 36) (hlq : q.length ≤ 2 ^ 36) :
    Qe Tryz.prog 75 [PV.poly p, PV.poly q] (· = PV.poly (Q4 p q)) := by
  refine Qf Qk Tryz.func75 rfl Qac6 (by simp [c75]) fun C hP => ?_; simp only [c75]
  simp +decide (disch := first | omega | rfl | (simp +decide only [go_sem, ↓reduceIte] <;> rfl) | fail) only [go_sem, ↓reduceIte]
  refine Qa hP (Quo hp hq hK hE hlp hlq) rfl rfl rfl ?_
  simp +decide (disch := first | omega | rfl | (simp +decide only [go_sem, ↓reduceIte] <;> rfl) | fail) only [go_sem, ↓reduceIte]
  exact Qc rfl rfl
end Go.Proofs.YtmnkngmmfnncoaaGreat
namespace Go.Proofs.YtmnkngmmfnncoaaGreat
open Go Go.FW
set_option linter.unusedSimpArgs false
set_option linter.unusedVariables false
set_option maxRecDepth 100000
theorem Qp9 {K E : Nat} (hE : E ≤ 2 ^ 38) : ∀ (n : Nat) (l : List (List Tm)), l.length ≤ n → (∀ p ∈ l, PB K E p) → l.length * K ≤ 2 ^ 33 → l.length ≤ 2 ^ 36 → Qla l ≤ 2 ^ 36 → Qe Tryz.prog 142 [PV.polys l] (· = PV.poly (Qb3 l)) := by
  intro n
  induction n with
  | zero =>
    intro l hl _ _ _ _
    have : l = [] := List.length_eq_zero_iff.1 (by omega)
    subst this
    refine Qf Qk Tryz.func142 rfl Qwr (by simp [Qum]) fun C hP => ?_; simp only [Qum]
    simp +decide (disch := first | omega | rfl | (simp +decide only [go_sem, ↓reduceIte, List.map_nil, List.length_nil] <;> rfl) | fail) only [go_sem, ↓reduceIte, List.map_nil, List.length_nil]
    exact Qci (Qhe (by rw [Qb3])) rfl
  | succ n ih =>
    intro l hl hb hK hll hpl
    refine Qf Qk Tryz.func142 rfl Qwr (by simp [Qum]) fun C hP => ?_; simp only [Qum]
    simp +decide (disch := first | omega | rfl | (simp +decide only [go_sem, ↓reduceIte] <;> rfl) | fail) only [go_sem, ↓reduceIte]
    refine Qb (fun h0 => ?_) (fun h0 => ?_)
    · have : l = [] := List.length_eq_zero_iff.1 (by omega)
      subst this
      simp +decide (disch := first | omega | rfl | (simp +decide only [go_sem, ↓reduceIte] <;> rfl) | fail) only [go_sem, ↓reduceIte]
      exact Qci (Qhe (by rw [Qb3])) rfl
    simp +decide (disch := first | omega | rfl | (simp +decide only [go_sem, ↓reduceIte] <;> rfl) | fail) only [go_sem, ↓reduceIte]
    refine Qb (fun h1 => ?_) (fun h1 => ?_)
    · obtain ⟨p, rfl⟩ : ∃ p, l = [p] := List.length_eq_one_iff.1 (by omega)
      simp +decide (disch := first | omega | rfl | (simp +decide only [go_sem, ↓reduceIte, List.map_cons, List.map_nil] <;> rfl) | fail) only [go_sem, ↓reduceIte, List.map_cons, List.map_nil]
      exact Qc (by rw [Qb3]; rfl) rfl
    have h2 : 2 ≤ l.length := by omega
    have hs := Qp2 l (l.length / 2)
    have e : (2 : Int) = ((2 : Nat) : Int) := rfl
    have hq : ∀ d fr hp K, Qas .quo false (.int .i64 (l.length : Int)) (.int .i64 2) d fr hp K = K (upd fr d (.int .i64 ((l.length / 2 : Nat) : Int))) hp := fun d fr hp K => by
      rw [e, Qq9 (by omega) (by omega)]
    have b1 := Qlb (K := K) (E := E) _ (l.take (l.length / 2)) (Nat.le_refl _) (fun p hp => hb p (List.mem_of_mem_take hp))
    have b2 := Qlb (K := K) (E := E) _ (l.drop (l.length / 2)) (Nat.le_refl _) (fun p hp => hb p (List.mem_of_mem_drop hp))
    have l1 : (l.take (l.length / 2)).length * K ≤ l.length * K := Nat.mul_le_mul_right _ (by rw [List.length_take]; omega)
    have l2 : (l.drop (l.length / 2)).length * K ≤ l.length * K := Nat.mul_le_mul_right _ (by rw [List.length_drop]; omega)
    simp +decide (disch := first | omega | rfl | (simp +decide only [go_sem, ↓reduceIte, hq] <;> rfl) | fail) only [go_sem, ↓reduceIte, hq]
    refine Qa hP (ih (l.take (l.length / 2)) (by rw [List.length_take]; omega) (fun p hp => hb p (List.mem_of_mem_take hp)) (by omega) (by rw [List.length_take]; omega) (by omega)) rfl rfl rfl ?_
    simp +decide (disch := first | omega | rfl | (simp +decide only [go_sem, ↓reduceIte, hq] <;> rfl) | fail) only [go_sem, ↓reduceIte, hq]
    refine Qa hP (ih (l.drop (l.length / 2)) (by rw [List.length_drop]; omega) (fun p hp => hb p (List.mem_of_mem_drop hp)) (by omega) (by rw [List.length_drop]; omega) (by omega)) rfl rfl rfl ?_
    simp +decide (disch := first | omega | rfl | (simp +decide only [go_sem, ↓reduceIte, hq] <;> rfl) | fail) only [go_sem, ↓reduceIte, hq]
    refine Qa hP (Qlm (b1.1.mono (K' := l.length * K) l1 (Nat.le_refl _)) (b2.1.mono l2 (Nat.le_refl _)) hK hE (by omega) (by omega)) rfl rfl rfl ?_
    simp +decide (disch := first | omega | rfl | (simp +decide only [go_sem, ↓reduceIte] <;> rfl) | fail) only [go_sem, ↓reduceIte]
    exact Qc (by rw [Qhc h2]) rfl
theorem Qvs {p : List Tm} {t : Tm} {i : Nat} (h : i < p.length) : Qaj (p.take (i + 1)) t = Qaj (p.take i) t ++ (if p[i].1 * t.1 = 0 then [] else [(p[i].1 * t.1, Qbs p[i].2 t.2)]) := by
  rw [List.take_succ_eq_append_getElem h, Qaj, List.filterMap_append, Qaj]
  congr 1
  simp only [List.filterMap_cons, List.filterMap_nil]
  split <;> split <;> simp_all
theorem Qit {p : List Tm} {t : Tm} {K E : Nat} (hp : PB K E p) (ht : TB K E t) (hK : K ≤ 2 ^ 33) (hE : E ≤ 2 ^ 38) (hlp : p.length ≤ 2 ^ 36) :
    Qe Tryz.prog 141 [PV.poly p, PV.term t] (· = PV.poly (Qaj p t)) := by
  refine Qf Qk Tryz.func141 rfl Q9r (by simp [Q41]) fun C hP => ?_; simp only [Q41]
  simp +decide (disch := first | omega | rfl | (simp +decide only [go_sem, ↓reduceIte] <;> rfl) | fail) only [go_sem, ↓reduceIte]
  refine Qx (by repeat (first | exact Qv | exact Qq | exact Qr | exact Qs | apply Qp | apply Qu | apply Qy | apply Q7 | apply Q8 | apply Qn)) [(5, 5), (7, 8), (14, 36)] [7, 8, 11, 34, 35] (fun n J hp => ∃ i, n = p.length - i ∧ i ≤ p.length ∧ J 5 = .ms 11 (Qaj (p.take i) t).length ∧ J 14 = .int .i64 (i : Nat) ∧ hp 3 = some ⟨4, 133, [PV.term t], false⟩ ∧ hp 11 = some ⟨4, 133, (Qaj (p.take i) t).map PV.term, false⟩) p.length ?_ ?_
  · refine ⟨0, rfl, by omega, ?_⟩
    simp +decide (disch := first | omega | rfl | (simp +decide only [go_sem, ↓reduceIte] <;> rfl) | fail) only [go_sem, ↓reduceIte]
    simp [Qaj]
  rintro _ J h ⟨i, rfl, hi, h5, h14, hh3, hh11⟩
  simp +decide (disch := first | omega | rfl | (simp +decide only [go_sem, ↓reduceIte, h5, h14] <;> rfl) | fail) only [go_sem, ↓reduceIte, h5, h14]
  refine Qb (fun hg => ?_) (fun hg => ?_)
  · have hi' : i < p.length := by omega
    have htp := hp.get hi'
    have htk := Qvs (t := t) hi'
    have hlen := Qhl (p.take i) t
    rw [List.length_take] at hlen
    have c1 := htp.c
    have c2 := ht.c
    have hrm := Qt6 p[i].1 t.1
    generalize hx : p[i] = x at *
    simp +decide (disch := first | omega | rfl | (simp +decide only [go_sem, ↓reduceIte, h5, h14, hh3, hx] <;> rfl) | fail) only [go_sem, ↓reduceIte, h5, h14, hh3, hx]
    refine Qa hP (Qaeo (a := x.1) (b := t.1) (k := 2 ^ 33) (by omega) (by omega) (by omega)) rfl rfl rfl ?_
    simp +decide (disch := first | omega | rfl | (simp +decide only [go_sem, ↓reduceIte, h5, h14, hh3, hx] <;> rfl) | fail) only [go_sem, ↓reduceIte, h5, h14, hh3, hx]
    refine Qa hP (Qms (a := x.1 * t.1) (by omega)) rfl rfl rfl ?_
    simp +decide (disch := first | omega | rfl | (simp +decide only [go_sem, ↓reduceIte, h5, h14, hh3, hx] <;> rfl) | fail) only [go_sem, ↓reduceIte, h5, h14, hh3, hx]
    refine Qb (fun hz => ?_) (fun hz => ?_)
    · rw [if_neg (fun h => hz (Qbe.2 h))] at htk
      simp +decide (disch := first | omega | rfl | (simp +decide only [go_sem, ↓reduceIte, h5, h14, hh3, hx] <;> rfl) | fail) only [go_sem, ↓reduceIte, h5, h14, hh3, hx]
      refine Qa hP (Qx3 htp.m ht.m (by omega)) rfl rfl rfl ?_
      simp +decide (disch := first | omega | rfl | (simp +decide only [go_sem, ↓reduceIte, h5, h14, hh3, hx] <;> rfl) | fail) only [go_sem, ↓reduceIte, h5, h14, hh3, hx]
      rw [Qaa (f := PV.term) (y := (x.1 * t.1, Qbs x.2 t.2)) (xs := Qaj (p.take i) t) (ty' := 133) (fz := false) (by simp +decide (disch := first | omega | rfl | (simp +decide only [go_sem, ↓reduceIte, hh11] <;> rfl) | fail) only [go_sem, ↓reduceIte, hh11]) (by simp +decide (disch := first | omega | rfl | (simp +decide only [go_sem, ↓reduceIte] <;> rfl) | fail) only [go_sem, ↓reduceIte] <;> rfl) (by omega) rfl (by omega) (by omega)]
      rw [← htk]
      simp +decide (disch := first | omega | rfl | (simp +decide only [go_sem, ↓reduceIte, h5, h14, hh3, hx] <;> rfl) | fail) only [go_sem, ↓reduceIte, h5, h14, hh3, hx]
      refine Ql (p.length - (i + 1)) (by omega) ⟨i + 1, rfl, by omega, ?_⟩
      rw [htk]
      simp +decide (disch := first | omega | rfl | (simp +decide only [go_sem, ↓reduceIte, h5, h14, hh3, List.length_append] <;> rfl) | fail) only [go_sem, ↓reduceIte, h5, h14, hh3, List.length_append]
    · rw [if_pos (Qbe.1 (Decidable.not_not.1 hz)), List.append_nil] at htk
      simp +decide (disch := first | omega | rfl | (simp +decide only [go_sem, ↓reduceIte, h5, h14, hh3, hx] <;> rfl) | fail) only [go_sem, ↓reduceIte, h5, h14, hh3, hx]
      refine Ql (p.length - (i + 1)) (by omega) ⟨i + 1, rfl, by omega, ?_⟩
      rw [htk]
      simp +decide (disch := first | omega | rfl | (simp +decide only [go_sem, ↓reduceIte, h5, h14, hh3, hh11] <;> rfl) | fail) only [go_sem, ↓reduceIte, h5, h14, hh3, hh11]
  · obtain rfl : i = p.length := by omega
    rw [List.take_length] at h5 hh11
    simp +decide (disch := first | omega | rfl | (simp +decide only [go_sem, ↓reduceIte, h5, hh11, Qg, List.contains_cons, List.contains_nil, List.flatMap_cons, List.flatMap_nil, List.append_nil] <;> rfl) | fail) only [go_sem, ↓reduceIte, h5, hh11, Qg, List.contains_cons, List.contains_nil, List.flatMap_cons, List.flatMap_nil, List.append_nil]
    exact Qc (by simp [List.take_of_length_le]) rfl
theorem Qhx {p q : List Tm} {K E : Nat} (hp : PB K E p) (hq : PB K E q) (hE : E ≤ 2 ^ 37) (hlp : p.length ≤ 2 ^ 30) (hlq : q.length ≤ 2 ^ 30) (hlm : p.length * q.length ≤ 2 ^ 36) (hK : min p.length q.length * (K + K) ≤ 2 ^ 33) (hK2 : K ≤ 2 ^ 33) :
    Qe Tryz.prog 68 [PV.poly p, PV.poly q] (· = PV.poly (Qco p q)) := by
  have main : ∀ (p q : List Tm), PB K E p → PB K E q → p.length ≤ 2 ^ 30 → q.length ≤ 2 ^ 30 → p.length * q.length ≤ 2 ^ 36 → p.length * (K + K) ≤ 2 ^ 33 → p.length ≤ q.length → True := fun _ _ _ _ _ _ _ _ _ => trivial
  refine Qf Qk Tryz.func68 rfl Qac7 (by simp [c68]) fun C hP => ?_; simp only [c68]
  simp +decide (disch := first | omega | rfl | (simp +decide only [go_sem, ↓reduceIte] <;> rfl) | fail) only [go_sem, ↓reduceIte]
  refine Qb (fun hg => ?_) (fun hg => ?_)
  · have hfin : Qgx q p = Qco p q := by rw [Qco, if_pos (by omega)]
    have hK3 : q.length * (K + K) ≤ 2 ^ 33 := by rw [Nat.min_eq_right (by omega)] at hK; exact hK
    have hlm2 : q.length * p.length ≤ 2 ^ 36 := by rw [Nat.mul_comm]; exact hlm
    simp +decide (disch := first | omega | rfl | (simp +decide only [go_sem, ↓reduceIte] <;> rfl) | fail) only [go_sem, ↓reduceIte]
    refine Qx (by repeat (first | exact Qv | exact Qq | exact Qr | exact Qs | apply Qp | apply Qu | apply Qy | apply Q7 | apply Q8 | apply Qn)) [(5, 5), (7, 7), (20, 30)] [7, 17, 28, 29] (fun n J hp => ∃ i, n = q.length - i ∧ i ≤ q.length ∧ J 5 = .ms 17 i ∧ J 20 = .int .i64 (i : Nat) ∧ hp 17 = some ⟨1, 65, ((q.take i).map (Qaj p)).map PV.poly, false⟩) q.length ?_ ?_
    · refine ⟨0, rfl, by omega, ?_⟩
      simp +decide (disch := first | omega | rfl | (simp +decide only [go_sem, ↓reduceIte] <;> rfl) | fail) only [go_sem, ↓reduceIte]
      simp
    rintro _ J h ⟨i, rfl, hi, h5, h20, hh⟩
    simp +decide (disch := first | omega | rfl | (simp +decide only [go_sem, ↓reduceIte, h5, h20] <;> rfl) | fail) only [go_sem, ↓reduceIte, h5, h20]
    refine Qb (fun hg2 => ?_) (fun hg2 => ?_)
    · have hi' : i < q.length := by omega
      have htp := hq.get hi'
      have htk : (q.take (i + 1)).map (Qaj p) = (q.take i).map (Qaj p) ++ [Qaj p q[i]] := by
        rw [List.take_succ_eq_append_getElem hi', List.map_append]; rfl
      generalize hx : q[i] = x at *
      simp +decide (disch := first | omega | rfl | (simp +decide only [go_sem, ↓reduceIte, h5, h20, hx] <;> rfl) | fail) only [go_sem, ↓reduceIte, h5, h20, hx]
      refine Qa hP (Qit (t := x) hp htp hK2 (by omega) (by omega)) rfl rfl rfl ?_
      simp +decide (disch := first | omega | rfl | (simp +decide only [go_sem, ↓reduceIte, h5, h20, hx] <;> rfl) | fail) only [go_sem, ↓reduceIte, h5, h20, hx]
      rw [Qaa (f := PV.poly) (y := Qaj p x) (xs := (q.take i).map (Qaj p)) (ty' := 65) (fz := false) (by simp +decide (disch := first | omega | rfl | (simp +decide only [go_sem, ↓reduceIte, hh] <;> rfl) | fail) only [go_sem, ↓reduceIte, hh]) (by simp +decide (disch := first | omega | rfl | (simp +decide only [go_sem, ↓reduceIte] <;> rfl) | fail) only [go_sem, ↓reduceIte] <;> rfl) (by omega) (by simp; omega) (by omega) (by omega)]
      rw [← htk]
      simp +decide (disch := first | omega | rfl | (simp +decide only [go_sem, ↓reduceIte, h5, h20, hx] <;> rfl) | fail) only [go_sem, ↓reduceIte, h5, h20, hx]
      refine Ql (q.length - (i + 1)) (by omega) ⟨i + 1, rfl, by omega, ?_⟩
      simp +decide (disch := first | omega | rfl | (simp +decide only [go_sem, ↓reduceIte, h5, h20] <;> rfl) | fail) only [go_sem, ↓reduceIte, h5, h20]
    · obtain rfl : i = q.length := by omega
      rw [List.take_length] at hh
      have hpl := Qgn q p
      simp +decide (disch := first | omega | rfl | (simp +decide only [go_sem, ↓reduceIte, h5, hh] <;> rfl) | fail) only [go_sem, ↓reduceIte, h5, hh]
      refine Qbr hP (Qp9 (K := K + K) (E := E + E) (by omega) _ (q.map (Qaj p)) (Nat.le_refl _) (fun x hx => by
        obtain ⟨t, ht, rfl⟩ := List.mem_map.1 hx
        exact Qjh hp (hq t ht)) (by rw [List.length_map]; omega) (by rw [List.length_map]; omega) (by omega)) (by simp +decide (disch := first | omega | rfl | (simp +decide only [go_sem, ↓reduceIte, hh, Qg, List.contains_cons, List.contains_nil, List.flatMap_cons, List.flatMap_nil, List.append_nil] <;> rfl) | fail) only [go_sem, ↓reduceIte, hh, Qg, List.contains_cons, List.contains_nil, List.flatMap_cons, List.flatMap_nil, List.append_nil]; simp [List.take_of_length_le]) rfl ?_
      simp +decide (disch := first | omega | rfl | (simp +decide only [go_sem, ↓reduceIte] <;> rfl) | fail) only [go_sem, ↓reduceIte]
      exact Qc (congrArg PV.poly hfin) rfl
  · have hfin : Qgx p q = Qco p q := by rw [Qco, if_neg (by omega)]
    have hK3 : p.length * (K + K) ≤ 2 ^ 33 := by rw [Nat.min_eq_left (by omega)] at hK; exact hK
    simp +decide (disch := first | omega | rfl | (simp +decide only [go_sem, ↓reduceIte] <;> rfl) | fail) only [go_sem, ↓reduceIte]
    refine Qx (by repeat (first | exact Qv | exact Qq | exact Qr | exact Qs | apply Qp | apply Qu | apply Qy | apply Q7 | apply Q8 | apply Qn)) [(5, 5), (7, 7), (20, 30)] [7, 17, 28, 29] (fun n J hp => ∃ i, n = p.length - i ∧ i ≤ p.length ∧ J 5 = .ms 17 i ∧ J 20 = .int .i64 (i : Nat) ∧ hp 17 = some ⟨1, 65, ((p.take i).map (Qaj q)).map PV.poly, false⟩) p.length ?_ ?_
    · refine ⟨0, rfl, by omega, ?_⟩
      simp +decide (disch := first | omega | rfl | (simp +decide only [go_sem, ↓reduceIte] <;> rfl) | fail) only [go_sem, ↓reduceIte]
      simp
    rintro _ J h ⟨i, rfl, hi, h5, h20, hh⟩
    simp +decide (disch := first | omega | rfl | (simp +decide only [go_sem, ↓reduceIte, h5, h20] <;> rfl) | fail) only [go_sem, ↓reduceIte, h5, h20]
    refine Qb (fun hg2 => ?_) (fun hg2 => ?_)
    · have hi' : i < p.length := by omega
      have htp := hp.get hi'
      have htk : (p.take (i + 1)).map (Qaj q) = (p.take i).map (Qaj q) ++ [Qaj q p[i]] := by
        rw [List.take_succ_eq_append_getElem hi', List.map_append]; rfl
      generalize hx : p[i] = x at *
      simp +decide (disch := first | omega | rfl | (simp +decide only [go_sem, ↓reduceIte, h5, h20, hx] <;> rfl) | fail) only [go_sem, ↓reduceIte, h5, h20, hx]
      refine Qa hP (Qit (t := x) hq htp hK2 (by omega) (by omega)) rfl rfl rfl ?_
      simp +decide (disch := first | omega | rfl | (simp +decide only [go_sem, ↓reduceIte, h5, h20, hx] <;> rfl) | fail) only [go_sem, ↓reduceIte, h5, h20, hx]
      rw [Qaa (f := PV.poly) (y := Qaj q x) (xs := (p.take i).map (Qaj q)) (ty' := 65) (fz := false) (by simp +decide (disch := first | omega | rfl | (simp +decide only [go_sem, ↓reduceIte, hh] <;> rfl) | fail) only [go_sem, ↓reduceIte, hh]) (by simp +decide (disch := first | omega | rfl | (simp +decide only [go_sem, ↓reduceIte] <;> rfl) | fail) only [go_sem, ↓reduceIte] <;> rfl) (by omega) (by simp; omega) (by omega) (by omega)]
      rw [← htk]
      simp +decide (disch := first | omega | rfl | (simp +decide only [go_sem, ↓reduceIte, h5, h20, hx] <;> rfl) | fail) only [go_sem, ↓reduceIte, h5, h20, hx]
      refine Ql (p.length - (i + 1)) (by omega) ⟨i + 1, rfl, by omega, ?_⟩
      simp +decide (disch := first | omega | rfl | (simp +decide only [go_sem, ↓reduceIte, h5, h20] <;> rfl) | fail) only [go_sem, ↓reduceIte, h5, h20]
    · obtain rfl : i = p.length := by omega
      rw [List.take_length] at hh
      have hpl := Qgn p q
      simp +decide (disch := first | omega | rfl | (simp +decide only [go_sem, ↓reduceIte, h5, hh] <;> rfl) | fail) only [go_sem, ↓reduceIte, h5, hh]
      refine Qbr hP (Qp9 (K := K + K) (E := E + E) (by omega) _ (p.map (Qaj q)) (Nat.le_refl _) (fun x hx => by
        obtain ⟨t, ht, rfl⟩ := List.mem_map.1 hx
        exact Qjh hq (hp t ht)) (by rw [List.length_map]; omega) (by rw [List.length_map]; omega) (by omega)) (by simp +decide (disch := first | omega | rfl | (simp +decide only [go_sem, ↓reduceIte, hh, Qg, List.contains_cons, List.contains_nil, List.flatMap_cons, List.flatMap_nil, List.append_nil] <;> rfl) | fail) only [go_sem, ↓reduceIte, hh, Qg, List.contains_cons, List.contains_nil, List.flatMap_cons, List.flatMap_nil, List.append_nil]; simp [List.take_of_length_le]) rfl ?_
      simp +decide (disch := first | omega | rfl | (simp +decide only [go_sem, ↓reduceIte] <;> rfl) | fail) only [go_sem, ↓reduceIte]
      exact Qc (congrArg PV.poly hfin) rfl
end Go.Proofs.YtmnkngmmfnncoaaGreat
namespace Go.Proofs.YtmnkngmmfnncoaaGreat
open Go Go.FW
set_option linter.unusedSimpArgs false
set_option linter.unusedVariables false
set_option maxRecDepth 100000
theorem Qiu {p : List Tm} {a : Rat} {K E : Nat} (hp : PB K E p) (ha : rs a + 1 ≤ K) (hK : K ≤ 2 ^ 33) (hE : E ≤ 2 ^ 38) (hlp : p.length ≤ 2 ^ 36) : Qe Tryz.prog 70 [PV.poly p, PV.rat a] (· = PV.poly (Qcp p a)) := by
  refine Qf Qk Tryz.func70 rfl Qac8 (by simp [c70]) fun C hP => ?_; simp only [c70]
  simp +decide (disch := first | omega | rfl | (simp +decide only [go_sem, ↓reduceIte] <;> rfl) | fail) only [go_sem, ↓reduceIte]
  refine Qa hP (Qms (a := a) (by omega)) rfl rfl rfl ?_
  simp +decide (disch := first | omega | rfl | (simp +decide only [go_sem, ↓reduceIte] <;> rfl) | fail) only [go_sem, ↓reduceIte]
  refine Qb (fun h0 => ?_) (fun h0 => ?_)
  · simp +decide (disch := first | omega | rfl | (simp +decide only [go_sem, ↓reduceIte] <;> rfl) | fail) only [go_sem, ↓reduceIte]
    exact Qci (Qhe (by rw [Qcp, if_pos (Qbe.1 h0)])) rfl
  · simp +decide (disch := first | omega | rfl | (simp +decide only [go_sem, ↓reduceIte] <;> rfl) | fail) only [go_sem, ↓reduceIte]
    refine Qa hP ((Qit (t := (a, [])) hp (TB.num ha) hK hE hlp).le (args' := [PV.poly p, .agg [.bool (decide (a.num < 0)), PV.num a.num.natAbs, PV.num a.den, .nilS]]) ⟨Q3 _, ⟨rfl, Qd7 _, Qd7 _, trivial, trivial⟩, trivial⟩) rfl rfl rfl ?_
    simp +decide (disch := first | omega | rfl | (simp +decide only [go_sem, ↓reduceIte] <;> rfl) | fail) only [go_sem, ↓reduceIte]
    exact Qc (by rw [Qcp, if_neg (fun h => h0 (Qbe.2 h))]) rfl
theorem Qx5 {p : List Tm} {K E : Nat} (hp : PB K E p) (hK2 : 2 ≤ K) (hK : K ≤ 2 ^ 33) (hE : E ≤ 2 ^ 38) (hlp : p.length ≤ 2 ^ 36) : Qe Tryz.prog 182 [PV.poly p] (· = PV.poly (Qo1 p)) := by
  have h1 := Q7b
  refine Qf Qk Tryz.func182 rfl Q9p (by simp [Q4z]) fun C hP => ?_; simp only [Q4z]
  simp +decide (disch := first | omega | rfl | (simp +decide only [go_sem, ↓reduceIte] <;> rfl) | fail) only [go_sem, ↓reduceIte]
  refine Qa hP (Qmr (x := -1) (by omega) (by omega)) rfl rfl rfl ?_
  simp +decide (disch := first | omega | rfl | (simp +decide only [go_sem, ↓reduceIte] <;> rfl) | fail) only [go_sem, ↓reduceIte]
  refine Qa hP (Qiu (a := ((-1 : Int) : Rat)) hp (by have : ((-1 : Int) : Rat) = -1 := rfl; rw [this]; omega) hK hE hlp) rfl rfl rfl ?_
  simp +decide (disch := first | omega | rfl | (simp +decide only [go_sem, ↓reduceIte] <;> rfl) | fail) only [go_sem, ↓reduceIte]
  exact Qc rfl rfl
theorem Qhy {p q : List Tm} {K E : Nat} (hp : PB K E p) (hq : PB K E q) (hK2 : 2 ≤ K) (hK : K ≤ 2 ^ 32) (hE : E ≤ 2 ^ 38) (hlp : p.length ≤ 2 ^ 36) (hlq : q.length ≤ 2 ^ 36) : Qe Tryz.prog 124 [PV.poly p, PV.poly q] (· = PV.poly (Qiq p q)) := by
  have hl := Qly q (-1)
  refine Qf Qk Tryz.func124 rfl Q9q (by simp [Q40]) fun C hP => ?_; simp only [Q40]
  simp +decide (disch := first | omega | rfl | (simp +decide only [go_sem, ↓reduceIte] <;> rfl) | fail) only [go_sem, ↓reduceIte]
  refine Qa hP (Qx5 hq hK2 (by omega) hE hlq) rfl rfl rfl ?_
  simp +decide (disch := first | omega | rfl | (simp +decide only [go_sem, ↓reduceIte] <;> rfl) | fail) only [go_sem, ↓reduceIte]
  refine Qa hP (Qlm (hp.mono (K' := K + 2) (by omega) (Nat.le_refl _)) (Q72 hq) (by omega) hE hlp (by show (Qcp q (-1)).length ≤ _; omega)) rfl rfl rfl ?_
  simp +decide (disch := first | omega | rfl | (simp +decide only [go_sem, ↓reduceIte] <;> rfl) | fail) only [go_sem, ↓reduceIte]
  exact Qc rfl rfl
theorem Qx6 {n : Bool} {a d : List Nat} {k : Nat} (hp : Raw k n a d) (hk : k < 2 ^ 36) : Qe Tryz.prog 37 [PV.rr n a d, PV.rat ((0 : Int) : Rat)] (· = PV.rat (rv n a d)) := by
  have h0 : rs ((0 : Int) : Rat) ≤ k := by have := rs_0; have := hp.k1; have e : ((0 : Int) : Rat) = 0 := rfl; rw [e]; omega
  have := Qr5 hp (Qcd h0) hk
  rw [Qcq] at this
  have e : rv n a d + ((0 : Int) : Rat) = rv n a d := Rat.add_zero _
  rwa [e] at this
theorem Qup {n : Bool} {a d : List Nat} {k : Nat} (hp : Raw k n a d) (hk : k < 2 ^ 36) : Qe Tryz.prog 123 [PV.rr n a d] (· = PV.poly (Qmo (rv n a d))) := by
  have hr := hp.rs
  refine Qf Qk Tryz.func123 rfl Q9n (by simp [Q4x]) fun C hP => ?_; simp only [Q4x]
  simp +decide (disch := first | omega | rfl | (simp +decide only [go_sem, ↓reduceIte] <;> rfl) | fail) only [go_sem, ↓reduceIte]
  refine Qa hP (Qmr (x := 0) (by omega) (by omega)) rfl rfl rfl ?_
  simp +decide (disch := first | omega | rfl | (simp +decide only [go_sem, ↓reduceIte] <;> rfl) | fail) only [go_sem, ↓reduceIte]
  refine Qa hP (Qx6 hp hk) rfl rfl rfl ?_
  simp +decide (disch := first | omega | rfl | (simp +decide only [go_sem, ↓reduceIte] <;> rfl) | fail) only [go_sem, ↓reduceIte]
  refine Qa hP ((Ql0 (c := rv n a d) (m := []) (by omega)).le (args' := [PV.rat (rv n a d), .nilS]) ⟨Q3 _, trivial, trivial⟩) rfl rfl rfl ?_
  simp +decide (disch := first | omega | rfl | (simp +decide only [go_sem, ↓reduceIte] <;> rfl) | fail) only [go_sem, ↓reduceIte]
  exact Qc rfl rfl
theorem Qqa {v : Int} (h1 : -9223372036854775808 ≤ v) (h2 : v < 9223372036854775807) : Qe Tryz.prog 122 [.int .i64 v] (· = PV.poly (Qa0 v)) := by
  refine Qf Qk Tryz.func122 rfl Q9o (by simp [Q4y]) fun C hP => ?_; simp only [Q4y]
  simp +decide (disch := first | omega | rfl | (simp +decide only [go_sem, ↓reduceIte] <;> rfl) | fail) only [go_sem, ↓reduceIte]
  refine Qad (fun h => ?_) (fun h => ?_)
  · simp +decide (disch := first | omega | rfl | (simp +decide only [go_sem, ↓reduceIte] <;> rfl) | fail) only [go_sem, ↓reduceIte]
    exact Qci (Qhe (by rw [Qa0, if_pos (.inl h)])) rfl
  obtain ⟨n, rfl⟩ : ∃ n : Nat, v = n := ⟨v.toNat, by omega⟩
  simp +decide (disch := first | omega | rfl | (simp +decide only [go_sem, ↓reduceIte] <;> rfl) | fail) only [go_sem, ↓reduceIte]
  refine Qb (fun h => ?_) (fun h => ?_)
  · simp +decide (disch := first | omega | rfl | (simp +decide only [go_sem, ↓reduceIte] <;> rfl) | fail) only [go_sem, ↓reduceIte]
    exact Qci (Qhe (by rw [Qa0, if_pos (.inr h)])) rfl
  have hset : (List.replicate (n + 1) (0 : Int)).set n 1 = Qjx n := by
    rw [List.replicate_succ', Qjx, List.set_append_right _ _ (by simp)]; simp
  have hl : n < (List.replicate (n + 1) (0 : Int)).length := by simp
  have hr := Q3b
  simp +decide (disch := first | omega | rfl | (simp +decide only [go_sem, ↓reduceIte, hset] <;> rfl) | fail) only [go_sem, ↓reduceIte, hset]
  refine Qa hP (Qmr (x := 1) (by omega) (by omega)) rfl rfl rfl ?_
  simp +decide (disch := first | omega | rfl | (simp +decide only [go_sem, ↓reduceIte] <;> rfl) | fail) only [go_sem, ↓reduceIte]
  refine Qbr hP (Ql0 (c := ((1 : Int) : Rat)) (m := Qjx n) (by have : ((1 : Int) : Rat) = 1 := rfl; rw [this]; omega)) (by simp +decide (disch := first | omega | rfl | (simp +decide only [go_sem, ↓reduceIte, Qg, List.contains_cons, List.contains_nil, List.flatMap_cons, List.flatMap_nil, List.append_nil] <;> rfl) | fail) only [go_sem, ↓reduceIte, Qg, List.contains_cons, List.contains_nil, List.flatMap_cons, List.flatMap_nil, List.append_nil]; simp [Qjx, List.take_of_length_le]) rfl ?_
  simp +decide (disch := first | omega | rfl | (simp +decide only [go_sem, ↓reduceIte] <;> rfl) | fail) only [go_sem, ↓reduceIte]
  refine Qc ?_ rfl
  rw [Qa0, if_neg (show ¬ ((n : Int) < 0 ∨ 64 ≤ (n : Int)) by omega), Int.toNat_natCast]
  rfl
end Go.Proofs.YtmnkngmmfnncoaaGreat
namespace Go.FW
open Go
def pev (φ : List Int → Rat) : List Tm → Rat
  | [] => 0
  | t :: p => t.1 * φ t.2 + pev φ p
theorem Qcj (φ : List Int → Rat) : pev φ [] = 0 := rfl
theorem Qam (φ : List Int → Rat) (t : Tm) (p : List Tm) : pev φ (t :: p) = t.1 * φ t.2 + pev φ p := rfl
theorem Qx7 (φ : List Int → Rat) : ∀ (p q : List Tm), pev φ (p ++ q) = pev φ p + pev φ q
  | [], q => by rw [List.nil_append, Qcj]; grind
  | t :: p, q => by rw [List.cons_append, Qam, Qam, Qx7 φ p q]; grind
theorem Qhh {φ ψ : List Int → Rat} : ∀ {p : List Tm}, (∀ t ∈ p, φ t.2 = ψ t.2) → pev φ p = pev ψ p
  | [], _ => rfl
  | t :: p, h => by
    rw [Qam, Qam, h t (by simp), Qhh (p := p) (fun x hx => h x (by simp [hx]))]
theorem Qws (φ ψ : List Int → Rat) : ∀ (p : List Tm), pev (fun m => φ m + ψ m) p = pev φ p + pev ψ p
  | [] => by simp only [Qcj]; grind
  | t :: p => by simp only [Qam]; rw [Qws φ ψ p]; grind
theorem Quq (c : Rat) (φ : List Int → Rat) : ∀ (p : List Tm), pev (fun m => c * φ m) p = c * pev φ p
  | [] => by simp only [Qcj]; grind
  | t :: p => by simp only [Qam]; rw [Quq c φ p]; grind
theorem Qur : ∀ (p : List Tm), pev (fun _ => 0) p = 0
  | [] => rfl
  | t :: p => by simp only [Qam]; rw [Qur p]; grind
theorem Qus (ψ : List Int → List Int → Rat) (q : List Tm) : ∀ (p : List Tm), pev (fun m => pev (fun n => ψ m n) q) p = pev (fun n => pev (fun m => ψ m n) p) q
  | [] => by simp only [Qcj]; rw [Qur]
  | t :: p => by
    simp only [Qam]
    rw [Qus ψ q p, Qws (fun n => t.1 * ψ t.2 n), Quq]
def Can (p : List Tm) : Prop := ∀ t ∈ p, t.2.getLast? ≠ some 0
def NZ (p : List Tm) : Prop := ∀ t ∈ p, t.1 ≠ 0
structure Nrm (p : List Tm) : Prop where
  c : Can p
  z : NZ p
  s : Qa6 p
theorem Can.cons {t : Tm} {p : List Tm} : Can (t :: p) ↔ t.2.getLast? ≠ some 0 ∧ Can p := by simp [Can]
theorem NZ.cons {t : Tm} {p : List Tm} : NZ (t :: p) ↔ t.1 ≠ 0 ∧ NZ p := by simp [NZ]
theorem Nrm.nil : Nrm [] := ⟨by simp [Can], by simp [NZ], trivial⟩
theorem Nrm.tail {t : Tm} {p : List Tm} (h : Nrm (t :: p)) : Nrm p := ⟨(Can.cons.1 h.c).2, (NZ.cons.1 h.z).2, h.s.2⟩
theorem Nrm.one {t : Tm} (h : t.1 ≠ 0) (hm : t.2.getLast? ≠ some 0) : Nrm [t] := ⟨by simpa [Can] using hm, by simpa [NZ] using h, ⟨by simp, trivial⟩⟩
theorem PVd.nrm {p : List Tm} (h : PVd p) : Nrm p := ⟨fun t ht => Qn7 (h.t t ht).m, fun t ht => (h.t t ht).c, h.s⟩
theorem Qr8 {E : Nat} {a : List Int} (h : MB E a) (hE : E ≤ 1048576) (hl : a.getLast? ≠ some 0) : Qbx a = true := by
  simp only [Qbx, Bool.and_eq_true, decide_eq_true_eq, List.all_eq_true]
  exact ⟨h.len, hl, fun x hx => ⟨h.lo x hx, by have := h.hi x hx; omega⟩⟩
theorem Qln {φ : List Int → Rat} : ∀ {p q : List Tm}, Can p → Can q → pev φ (Q4 p q) = pev φ p + pev φ q := by
  intro p q
  induction p, q using Q4.induct with
  | case1 q => rw [Q4, Qcj]; intros; grind
  | case2 p h => rw [Qcc, Qcj]; intros; grind
  | case3 c m p d l q h ih =>
    intro hp hq
    rw [Q4, if_pos h, Qam, Qam, ih (Can.cons.1 hp).2 hq]; grind
  | case4 c m p d l q h1 h2 ih =>
    intro hp hq
    rw [Q4, if_neg h1, if_pos h2, Qam, ih hp (Can.cons.1 hq).2, Qam φ (d, l)]; grind
  | case5 c m p d l q h1 h2 h3 ih =>
    intro hp hq
    have e := Qlc h1 h2 (Can.cons.1 hp).1 (Can.cons.1 hq).1
    rw [Q4, if_neg h1, if_neg h2, if_pos h3, ih (Can.cons.1 hp).2 (Can.cons.1 hq).2, Qam, Qam]
    subst e
    have : c * φ m + d * φ m = 0 := by rw [← Rat.add_mul, h3]; grind
    grind
  | case6 c m p d l q h1 h2 h3 ih =>
    intro hp hq
    have e := Qlc h1 h2 (Can.cons.1 hp).1 (Can.cons.1 hq).1
    rw [Q4, if_neg h1, if_neg h2, if_neg h3, Qam, ih (Can.cons.1 hp).2 (Can.cons.1 hq).2, Qam, Qam]
    subst e
    grind
theorem Qgo : ∀ {p q : List Tm} {t : Tm}, t ∈ Q4 p q → (∃ s ∈ p, s.2 = t.2) ∨ (∃ s ∈ q, s.2 = t.2) := by
  intro p q
  induction p, q using Q4.induct with
  | case1 q => rw [Q4]; intro t ht; exact Or.inr ⟨t, ht, rfl⟩
  | case2 p h => rw [Qcc]; intro t ht; exact Or.inl ⟨t, ht, rfl⟩
  | case3 c m p d l q h ih =>
    intro t ht
    rw [Q4, if_pos h] at ht
    rcases List.mem_cons.1 ht with rfl | ht
    · exact Or.inl ⟨_, by simp, rfl⟩
    · rcases ih ht with ⟨s, h1, h2⟩ | h1
      · exact Or.inl ⟨s, by simp [h1], h2⟩
      · exact Or.inr h1
  | case4 c m p d l q h1 h2 ih =>
    intro t ht
    rw [Q4, if_neg h1, if_pos h2] at ht
    rcases List.mem_cons.1 ht with rfl | ht
    · exact Or.inr ⟨_, by simp, rfl⟩
    · rcases ih ht with h3 | ⟨s, h3, h4⟩
      · exact Or.inl h3
      · exact Or.inr ⟨s, by simp [h3], h4⟩
  | case5 c m p d l q h1 h2 h3 ih =>
    intro t ht
    rw [Q4, if_neg h1, if_neg h2, if_pos h3] at ht
    rcases ih ht with ⟨s, h4, h5⟩ | ⟨s, h4, h5⟩
    · exact Or.inl ⟨s, by simp [h4], h5⟩
    · exact Or.inr ⟨s, by simp [h4], h5⟩
  | case6 c m p d l q h1 h2 h3 ih =>
    intro t ht
    rw [Q4, if_neg h1, if_neg h2, if_neg h3] at ht
    rcases List.mem_cons.1 ht with rfl | ht
    · exact Or.inl ⟨(c, m), by simp, rfl⟩
    · rcases ih ht with ⟨s, h4, h5⟩ | ⟨s, h4, h5⟩
      · exact Or.inl ⟨s, by simp [h4], h5⟩
      · exact Or.inr ⟨s, by simp [h4], h5⟩
theorem Qut {p q : List Tm} (hp : Can p) (hq : Can q) : Can (Q4 p q) := fun t ht => by
  rcases Qgo ht with ⟨s, h1, h2⟩ | ⟨s, h1, h2⟩
  · rw [← h2]; exact hp s h1
  · rw [← h2]; exact hq s h1
theorem Q9s : ∀ {p q : List Tm}, NZ p → NZ q → NZ (Q4 p q) := by
  intro p q
  induction p, q using Q4.induct with
  | case1 q => rw [Q4]; exact fun _ h => h
  | case2 p h => rw [Qcc]; exact fun h _ => h
  | case3 c m p d l q h ih =>
    intro hp hq
    rw [Q4, if_pos h, NZ.cons]
    exact ⟨(NZ.cons.1 hp).1, ih (NZ.cons.1 hp).2 hq⟩
  | case4 c m p d l q h1 h2 ih =>
    intro hp hq
    rw [Q4, if_neg h1, if_pos h2, NZ.cons]
    exact ⟨(NZ.cons.1 hq).1, ih hp (NZ.cons.1 hq).2⟩
  | case5 c m p d l q h1 h2 h3 ih =>
    intro hp hq
    rw [Q4, if_neg h1, if_neg h2, if_pos h3]
    exact ih (NZ.cons.1 hp).2 (NZ.cons.1 hq).2
  | case6 c m p d l q h1 h2 h3 ih =>
    intro hp hq
    rw [Q4, if_neg h1, if_neg h2, if_neg h3, NZ.cons]
    exact ⟨h3, ih (NZ.cons.1 hp).2 (NZ.cons.1 hq).2⟩
theorem Qx8 {a b c : List Int} (h : Qac a b = 0) (h2 : 0 < Qac b c) : 0 < Qac a c := by
  have e : ∀ i, eN a i = eN b i := by
    intro i
    have := (Qjf a b _).1 h
    by_cases hi : i < max a.length b.length
    · exact this i hi
    · rw [Qbz (by omega), Qbz (by omega)]
  rw [Qxs e (fun _ => rfl)]; exact h2
theorem Qvt : ∀ {p q : List Tm}, Qa6 p → Qa6 q → Qa6 (Q4 p q) := by
  intro p q
  induction p, q using Q4.induct with
  | case1 q => rw [Q4]; exact fun _ h => h
  | case2 p h => rw [Qcc]; exact fun h _ => h
  | case3 c m p d l q h ih =>
    intro hp hq
    rw [Q4, if_pos h]
    refine ⟨fun t ht => ?_, ih hp.2 hq⟩
    rcases Qgo ht with ⟨s, h1, h2⟩ | ⟨s, h1, h2⟩
    · rw [← h2]; exact hp.1 s h1
    · rw [← h2]
      rcases List.mem_cons.1 h1 with rfl | h1
      · exact h
      · exact Qde h (hq.1 s h1)
  | case4 c m p d l q h1 h2 ih =>
    intro hp hq
    rw [Q4, if_neg h1, if_pos h2]
    have h2' : 0 < Qac l m := by have := Qgl m l; omega
    refine ⟨fun t ht => ?_, ih hp hq.2⟩
    rcases Qgo ht with ⟨s, h3, h4⟩ | ⟨s, h3, h4⟩
    · rw [← h4]
      rcases List.mem_cons.1 h3 with rfl | h3
      · exact h2'
      · exact Qde h2' (hp.1 s h3)
    · rw [← h4]; exact hq.1 s h3
  | case5 c m p d l q h1 h2 h3 ih =>
    intro hp hq
    rw [Q4, if_neg h1, if_neg h2, if_pos h3]
    exact ih hp.2 hq.2
  | case6 c m p d l q h1 h2 h3 ih =>
    intro hp hq
    rw [Q4, if_neg h1, if_neg h2, if_neg h3]
    refine ⟨fun t ht => ?_, ih hp.2 hq.2⟩
    rcases Qgo ht with ⟨s, h4, h5⟩ | ⟨s, h4, h5⟩
    · rw [← h5]; exact hp.1 s h4
    · rw [← h5]; exact Qx8 (b := l) (by show Qac m l = 0; omega) (hq.1 s h4)
theorem Qlo {p q : List Tm} (hp : Nrm p) (hq : Nrm q) : Nrm (Q4 p q) := ⟨Qut hp.c hq.c, Q9s hp.z hq.z, Qvt hp.s hq.s⟩
def ind (m : List Int) : List Int → Rat := fun n => if n = m then 1 else 0
theorem Qgy {m : List Int} : ∀ {p : List Tm}, (∀ t ∈ p, t.2 ≠ m) → pev (ind m) p = 0
  | [], _ => rfl
  | t :: p, h => by
    rw [Qam, Qgy (p := p) (fun x hx => h x (by simp [hx])), ind, if_neg (h t (by simp))]; grind
theorem Qjj {a b : List Int} (h : 0 < Qac a b) : b ≠ a := by rintro rfl; rw [Qjg] at h; omega
theorem Qel {t : Tm} {p : List Tm} (h : Qa6 (t :: p)) : pev (ind t.2) (t :: p) = t.1 := by
  rw [Qam, Qgy (fun s hs => Qjj (h.1 s hs)), ind, if_pos rfl]; grind
theorem Qwt : ∀ {p q : List Tm}, Nrm p → Nrm q → (∀ φ, pev φ p = pev φ q) → p = q
  | [], [], _, _, _ => rfl
  | [], t :: q, _, hq, h => by
    have := h (ind t.2)
    rw [Qel hq.s, Qcj] at this
    exact absurd this.symm (hq.z t (by simp))
  | t :: p, [], hp, _, h => by
    have := h (ind t.2)
    rw [Qel hp.s, Qcj] at this
    exact absurd this (hp.z t (by simp))
  | s :: p, t :: q, hp, hq, h => by
    by_cases h1 : 0 < Qac s.2 t.2
    · have := h (ind s.2)
      rw [Qel hp.s, Qgy (fun x hx => ?_)] at this
      · exact absurd this (hp.z s (by simp))
      · rcases List.mem_cons.1 hx with rfl | hx
        · exact Qjj h1
        · exact Qjj (Qde h1 (hq.s.1 x hx))
    · by_cases h2 : Qac s.2 t.2 < 0
      · have h2' : 0 < Qac t.2 s.2 := by have := Qgl s.2 t.2; omega
        have := h (ind t.2)
        rw [Qel hq.s, Qgy (fun x hx => ?_)] at this
        · exact absurd this.symm (hq.z t (by simp))
        · rcases List.mem_cons.1 hx with rfl | hx
          · exact Qjj h2'
          · exact Qjj (Qde h2' (hp.s.1 x hx))
      · have e := Qlc h1 h2 (hp.c s (by simp)) (hq.c t (by simp))
        have e2 := h (ind s.2)
        rw [Qel hp.s, e, Qel hq.s] at e2
        have e3 : s = t := Prod.ext e2 e
        subst e3
        rw [Qwt hp.tail hq.tail (fun φ => by have := h φ; rw [Qam, Qam] at this; grind)]
theorem Q0s {φ : List Int → Rat} : ∀ (n : Nat) (l : List (List Tm)), l.length ≤ n → (∀ p ∈ l, Can p) → Can (Qb3 l) ∧ pev φ (Qb3 l) = (l.map (pev φ)).sum := by
  intro n
  induction n with
  | zero =>
    intro l hl _
    have : l = [] := List.length_eq_zero_iff.1 (by omega)
    subst this
    rw [Qb3]; exact ⟨Nrm.nil.c, rfl⟩
  | succ n ih =>
    intro l hl h
    match l, h with
    | [], _ => rw [Qb3]; exact ⟨Nrm.nil.c, rfl⟩
    | [p], h => rw [Qb3]; exact ⟨h p (by simp), by simp; grind⟩
    | p :: q :: r, h =>
      rw [Qhc (by simp)]
      generalize hL : p :: q :: r = L at *
      have hlen : 2 ≤ L.length := by rw [← hL]; simp
      obtain ⟨a1, a2⟩ := ih (L.take (L.length / 2)) (by rw [List.length_take]; omega) (fun x hx => h x (List.mem_of_mem_take hx))
      obtain ⟨b1, b2⟩ := ih (L.drop (L.length / 2)) (by rw [List.length_drop]; omega) (fun x hx => h x (List.mem_of_mem_drop hx))
      refine ⟨Qut a1 b1, ?_⟩
      rw [Qln a1 b1, a2, b2, ← List.sum_append, ← List.map_append, List.take_append_drop]
theorem Q42 : ∀ (n : Nat) (l : List (List Tm)), l.length ≤ n → (∀ p ∈ l, Nrm p) → Nrm (Qb3 l) := by
  intro n
  induction n with
  | zero =>
    intro l hl _
    have : l = [] := List.length_eq_zero_iff.1 (by omega)
    subst this
    rw [Qb3]; exact Nrm.nil
  | succ n ih =>
    intro l hl h
    match l, h with
    | [], _ => rw [Qb3]; exact Nrm.nil
    | [p], h => rw [Qb3]; exact h p (by simp)
    | p :: q :: r, h =>
      rw [Qhc (by simp)]
      generalize hL : p :: q :: r = L at *
      have hlen : 2 ≤ L.length := by rw [← hL]; simp
      exact Qlo (ih (L.take (L.length / 2)) (by rw [List.length_take]; omega) (fun x hx => h x (List.mem_of_mem_take hx)))
        (ih (L.drop (L.length / 2)) (by rw [List.length_drop]; omega) (fun x hx => h x (List.mem_of_mem_drop hx)))
theorem Qlp (φ : List Int → Rat) (t : Tm) : ∀ (p : List Tm), pev φ (Qaj p t) = t.1 * pev (fun m => φ (Qbs m t.2)) p
  | [] => by rw [Qaj, List.filterMap_nil, Qcj, Qcj]; grind
  | s :: p => by
    have ih := Qlp φ t p
    rw [Qaj] at ih ⊢
    rw [List.filterMap_cons]
    by_cases h : s.1 * t.1 = 0
    · simp only [h, if_true, Qam]
      rw [ih]
      have : t.1 * (s.1 * φ (Qbs s.2 t.2)) = (s.1 * t.1) * φ (Qbs s.2 t.2) := by grind
      rw [Rat.mul_add, this, h]; grind
    · simp only [h, if_false, Qam]
      rw [ih]; grind
theorem Qqb (p : List Tm) (t : Tm) : Can (Qaj p t) := by
  intro x hx
  simp only [Qaj, List.mem_filterMap] at hx
  obtain ⟨y, hy, h⟩ := hx
  split at h
  · cases h
  · cases h; exact Qfs _ _
theorem Q0t (p : List Tm) (t : Tm) : NZ (Qaj p t) := by
  intro x hx
  simp only [Qaj, List.mem_filterMap] at hx
  obtain ⟨y, hy, h⟩ := hx
  split at h
  · cases h
  · rename_i h0; cases h; exact h0
theorem Ql1 (t : Tm) : ∀ (p : List Tm), Qa6 p → Qa6 (Qaj p t)
  | [], _ => trivial
  | s :: p, hp => by
    have ih := Ql1 t p hp.2
    rw [Qaj] at ih ⊢
    rw [List.filterMap_cons]
    split
    · exact ih
    · rename_i b hb
      split at hb
      · cases hb
      · cases hb
        refine ⟨fun x hx => ?_, ih⟩
        simp only [List.mem_filterMap] at hx
        obtain ⟨y, hy, h⟩ := hx
        split at h
        · cases h
        · cases h
          simp only [Qoz]
          exact hp.1 y hy
theorem Qqc {p : List Tm} (t : Tm) (hp : Qa6 p) : Nrm (Qaj p t) := ⟨Qqb _ _, Q0t _ _, Ql1 t p hp⟩
theorem Qqd (φ : List Int → Rat) (q : List Tm) : ∀ (p : List Tm), ((p.map (Qaj q)).map (pev φ)).sum = pev (fun m => pev (fun n => φ (Qbs m n)) q) p
  | [] => rfl
  | t :: p => by
    rw [List.map_cons, List.map_cons, List.sum_cons, Qqd φ q p, Qlp, Qam]
    congr 2
    exact Qhh fun s _ => by rw [Qd4]
theorem Qr9 (φ : List Int → Rat) (p q : List Tm) : pev φ (Qgx p q) = pev (fun m => pev (fun n => φ (Qbs m n)) q) p := by
  rw [Qgx, (Q0s (φ := φ) _ _ (Nat.le_refl _) ?_).2, Qqd]
  intro x hx
  obtain ⟨t, _, rfl⟩ := List.mem_map.1 hx
  exact Qqb _ _
theorem Q43 (φ : List Int → Rat) (p q : List Tm) : pev φ (Qco p q) = pev (fun m => pev (fun n => φ (Qbs m n)) q) p := by
  unfold Qco
  split
  · rw [Qr9, Qus (fun m n => φ (Qbs m n))]
    exact Qhh fun s _ => Qhh fun t _ => by rw [Qd4]
  · exact Qr9 φ p q
theorem Qsa {p q : List Tm} (hq : Qa6 q) : Nrm (Qgx p q) := Q42 _ _ (Nat.le_refl _) fun x hx => by
  obtain ⟨t, _, rfl⟩ := List.mem_map.1 hx
  exact Qqc t hq
theorem Qo5 {p q : List Tm} (hp : Qa6 p) (hq : Qa6 q) : Nrm (Qco p q) := by
  unfold Qco
  split
  · exact Qsa hp
  · exact Qsa hq
theorem Qx9 (φ : List Int → Rat) {p : List Tm} (hp : Can p) (a : Rat) : pev φ (Qcp p a) = a * pev φ p := by
  unfold Qcp
  split
  · rename_i h; rw [h, Qcj]; grind
  · rw [Qlp]
    congr 1
    exact Qhh fun s hs => by rw [Quc (hp s hs)]
theorem Qqe {p : List Tm} (hp : Qa6 p) (a : Rat) : Nrm (Qcp p a) := by
  unfold Qcp
  split
  · exact Nrm.nil
  · exact Qqc _ hp
theorem Q44 (φ : List Int → Rat) {p : List Tm} (hp : Can p) : pev φ (Qo1 p) = - pev φ p := by
  rw [Qo1, Qx9 φ hp]; grind
theorem Q45 (φ : List Int → Rat) {p q : List Tm} (hp : Can p) (hq : Nrm q) : pev φ (Qiq p q) = pev φ p - pev φ q := by
  rw [Qiq, Qln hp (show Can (Qo1 q) from (Qqe hq.s _).c), Q44 φ hq.c]; grind
theorem Q46 {p q : List Tm} (hp : Nrm p) (hq : Nrm q) : Nrm (Qiq p q) := Qlo hp (Qqe hq.s _)
end Go.FW
namespace Go.FW
open Go
variable {C : Ctx} {fr : Fr} {hp : HP} {w : World} {K R : Qh}
theorem Qvu {e by_ ty d : Nat} (h0 : 0 < e) : Qdw e by_ ty .nilS (.sl e []) d fr hp K = K (upd (Qan d fr) d (.ms d 0)) (Qo hp d ⟨e, ty, [], false⟩) := by
  have := Qht (fr := fr) (hp := hp) (K := K) (e := e) (by_ := by_) (ty := ty) (d := d) (x := .sl e []) (ys := []) rfl h0 (by simp) (by simp)
  simpa using this
end Go.FW
namespace Go.FW
open Go
theorem Qrj {m : List Int} {c : Rat} : ∀ {u v : List Tm}, (∀ t ∈ u, 0 < Qac t.2 m) → (∀ t ∈ v, Qac t.2 m < 0) → Q4 (u ++ v) [(c, m)] = u ++ (c, m) :: v
  | [], [], _, _ => by rw [List.nil_append, Qfo]; rfl
  | [], t :: v, _, hv => by
    have h1 := hv t (by simp)
    rw [List.nil_append, Qhd, if_neg (by show ¬ 0 < Qac t.2 m; omega), if_pos (by exact h1), Qcc]; rfl
  | t :: u, v, hu, hv => by
    rw [List.cons_append, Qhd, if_pos (by exact hu t (by simp)), Qrj (fun s hs => hu s (by simp [hs])) hv]; rfl
theorem Qwu {m : List Int} {c d : Rat} : ∀ {u v : List Tm}, (∀ t ∈ u, 0 < Qac t.2 m) → Q4 (u ++ (d, m) :: v) [(c, m)] = u ++ (if d + c = 0 then [] else [(d + c, m)]) ++ v
  | [], v, _ => by
    have h0 := Qjg m
    rw [List.nil_append, Qhd, if_neg (by show ¬ 0 < Qac m m; omega), if_neg (by show ¬ Qac m m < 0; omega)]
    show (if d + c = 0 then Q4 v [] else (d + c, m) :: Q4 v []) = _
    rw [Qcc]
    split <;> rfl
  | t :: u, v, hu => by
    rw [List.cons_append, Qhd, if_pos (by exact hu t (by simp)), Qwu (fun s hs => hu s (by simp [hs]))]; simp
def Qdb (p : List Tm) (c : Rat) (m : List Int) : List Tm := Q4 p (if c = 0 then [] else [(c, m)])
theorem Quu {p : List Tm} (hs : Qa6 p) : ∀ {i : Nat} (h : i < p.length), ∀ t ∈ p.take i, 0 < Qac t.2 p[i].2 := by
  induction p with
  | nil => intro i h; simp at h
  | cons s p ih =>
    intro i h t ht
    cases i with
    | zero => simp at ht
    | succ i =>
      simp only [List.take_succ_cons, List.mem_cons] at ht
      have hi : i < p.length := by simpa using h
      show 0 < Qac t.2 p[i].2
      rcases ht with rfl | ht
      · exact hs.1 _ (List.getElem_mem hi)
      · exact ih hs.2 hi t ht
theorem Q0u {c : Rat} {m : List Int} (hl : m.getLast? ≠ some 0) : Nrm (if c = 0 then [] else [(c, m)]) := by
  split
  · exact Nrm.nil
  · rename_i h; exact Nrm.one h hl
theorem Q0v {p : List Tm} {c : Rat} {m : List Int} (hp : Nrm p) (hl : m.getLast? ≠ some 0) : Nrm (Qdb p c m) := Qlo hp (Q0u hl)
theorem Q0w {φ : List Int → Rat} {p : List Tm} {c : Rat} {m : List Int} (hp : Can p) (hl : m.getLast? ≠ some 0) : pev φ (Qdb p c m) = pev φ p + c * φ m := by
  rw [Qdb, Qln hp (Q0u hl).c]
  split
  · rename_i h; rw [h, Qcj]; grind
  · rw [Qam, Qcj]; grind
end Go.FW
