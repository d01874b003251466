/- Part 4 of the proof of PseudoExacts: M2, P1, P2, P3, FwQA, FwSD. Own lemmas; no conditions. -/
import Derived.Test.YtjkbalanglgoiaaGreatPseudoExactsPart3
set_option linter.unusedSimpArgs false
set_option linter.unnecessarySimpa false
set_option linter.unusedVariables false
namespace Go.Proofs.YtjkbalanglgoiaaGreat
open Go Go.FW
set_option linter.unusedSimpArgs false
set_option linter.unusedVariables false
set_option maxRecDepth 100000
theorem Qkg {a b : List Int} {f : Nat} {g : Int → Int → Int} (hla : a.length < 2 ^ 40) (hlb : b.length < 2 ^ 40) (hf : ∀ i, Qd Tryz.prog f [.int .i64 (eN a i), .int .i64 (eN b i)] (· = .int .i64 (g (eN a i) (eN b i)))) :
    Qd Tryz.prog 105 [PV.mono a, PV.mono b, .fn f [] []] (· = PV.mono (Qdq g a b)) := by
  refine Qf Qk Tryz.func105 rfl Q7o (by simp [Q39]) fun C hP => ?_; simp only [Q39]
  simp +decide (disch := first | omega | rfl | (simp +decide only [go_sem, ↓reduceIte] <;> rfl) | fail) only [go_sem, ↓reduceIte]
  refine Qz (by repeat (first | exact Qv | exact Qp | exact Qq | apply Qo | apply Qu | apply Q2 | apply Q5 | apply Q6 | apply Qm)) [(8, 10), (19, 45)] [] (fun k J hp => ∃ i, k = max a.length b.length - i ∧ i ≤ max a.length b.length ∧ J 19 = .int .i64 (i : Nat) ∧ hp = Qs hp0 16 ⟨1, 3, Qgr ((Qdq g a b).take i ++ List.replicate (max a.length b.length - i) 0), false⟩) (max a.length b.length) ?_ ?_
  · refine ⟨0, rfl, by omega, ?_⟩
    simp +decide (disch := first | omega | rfl | (simp +decide only [go_sem, ↓reduceIte] <;> rfl) | fail) only [go_sem, ↓reduceIte]
    simp
  rintro _ J _ ⟨i, rfl, hi, h19, rfl⟩
  simp +decide (disch := first | omega | rfl | (simp +decide only [go_sem, ↓reduceIte, h19] <;> rfl) | fail) only [go_sem, ↓reduceIte, h19]
  refine Qb (fun hg => ?_) (fun hg => ?_)
  · have hi' : i < max a.length b.length := by omega
    have hfi := hf i
    have htl : ((Qdq g a b).take i).length = i := by rw [List.length_take, Qbc]; omega
    have hset := fun v => Q0i (v := v) (z := (0 : Int)) htl (show 0 < max a.length b.length - i by omega)
    have hlen : i < ((Qdq g a b).take i ++ List.replicate (max a.length b.length - i) (0 : Int)).length := by rw [List.length_append, htl, List.length_replicate]; omega
    have htk := Qm1 (g := g) hi'
    have fin : ∀ x y, x = eN a i → y = eN b i → Qd Tryz.prog f [.int .i64 x, .int .i64 y] (· = .int .i64 (g (eN a i) (eN b i))) := by rintro _ _ rfl rfl; exact hfi
    simp +decide (disch := first | omega | rfl | (simp +decide only [go_sem, ↓reduceIte, h19] <;> rfl) | fail) only [go_sem, ↓reduceIte, h19]
    refine Qb (fun h1 => ?_) (fun h1 => ?_)
    · have h1' : i < a.length := by omega
      simp +decide (disch := first | omega | rfl | (simp +decide only [go_sem, ↓reduceIte, h19] <;> rfl) | fail) only [go_sem, ↓reduceIte, h19]
      refine Qb (fun h2 => ?_) (fun h2 => ?_)
      · have h2' : i < b.length := by omega
        simp +decide (disch := first | omega | rfl | (simp +decide only [go_sem, ↓reduceIte, h19] <;> rfl) | fail) only [go_sem, ↓reduceIte, h19]
        refine Qa hP (fin _ _ (Qca h1').symm (Qca h2').symm) rfl rfl rfl ?_
        simp +decide (disch := first | omega | rfl | (simp +decide only [go_sem, ↓reduceIte, h19, hset, ← htk] <;> rfl) | fail) only [go_sem, ↓reduceIte, h19, hset, ← htk]
        refine Ql (max a.length b.length - (i + 1)) (by omega) ⟨i + 1, rfl, by omega, ?_⟩
        simp +decide (disch := first | omega | rfl | (simp +decide only [go_sem, ↓reduceIte, Nat.sub_sub] <;> rfl) | fail) only [go_sem, ↓reduceIte, Nat.sub_sub]
      · simp +decide (disch := first | omega | rfl | (simp +decide only [go_sem, ↓reduceIte, h19] <;> rfl) | fail) only [go_sem, ↓reduceIte, h19]
        refine Qa hP (fin _ _ (Qca h1').symm (Qcf (by omega)).symm) rfl rfl rfl ?_
        simp +decide (disch := first | omega | rfl | (simp +decide only [go_sem, ↓reduceIte, h19, hset, ← htk] <;> rfl) | fail) only [go_sem, ↓reduceIte, h19, hset, ← htk]
        refine Ql (max a.length b.length - (i + 1)) (by omega) ⟨i + 1, rfl, by omega, ?_⟩
        simp +decide (disch := first | omega | rfl | (simp +decide only [go_sem, ↓reduceIte, Nat.sub_sub] <;> rfl) | fail) only [go_sem, ↓reduceIte, Nat.sub_sub]
    · simp +decide (disch := first | omega | rfl | (simp +decide only [go_sem, ↓reduceIte, h19] <;> rfl) | fail) only [go_sem, ↓reduceIte, h19]
      refine Qb (fun h2 => ?_) (fun h2 => by omega)
      have h2' : i < b.length := by omega
      simp +decide (disch := first | omega | rfl | (simp +decide only [go_sem, ↓reduceIte, h19] <;> rfl) | fail) only [go_sem, ↓reduceIte, h19]
      refine Qa hP (fin _ _ (Qcf (by omega)).symm (Qca h2').symm) rfl rfl rfl ?_
      simp +decide (disch := first | omega | rfl | (simp +decide only [go_sem, ↓reduceIte, h19, hset, ← htk] <;> rfl) | fail) only [go_sem, ↓reduceIte, h19, hset, ← htk]
      refine Ql (max a.length b.length - (i + 1)) (by omega) ⟨i + 1, rfl, by omega, ?_⟩
      simp +decide (disch := first | omega | rfl | (simp +decide only [go_sem, ↓reduceIte, Nat.sub_sub] <;> rfl) | fail) only [go_sem, ↓reduceIte, Nat.sub_sub]
  · obtain rfl : i = max a.length b.length := by omega
    simp +decide (disch := first | omega | rfl | (simp +decide only [go_sem, ↓reduceIte, Qg, List.contains_cons, List.contains_nil, List.flatMap_cons, List.flatMap_nil, List.append_nil] <;> rfl) | fail) only [go_sem, ↓reduceIte, Qg, List.contains_cons, List.contains_nil, List.flatMap_cons, List.flatMap_nil, List.append_nil]
    exact Qc (by simp [List.take_of_length_le, Qbc]) rfl
theorem Qv2 {x y : Int} (h1 : -9223372036854775808 ≤ x + y) (h2 : x + y ≤ 9223372036854775807) : Qd Tryz.prog 169 [.int .i64 x, .int .i64 y] (· = .int .i64 (x + y)) := by
  refine Qf Qk Tryz.func169 rfl Q7s (by simp [Q4d]) fun C hP => ?_; simp only [Q4d]
  simp +decide (disch := first | omega | rfl | (simp +decide only [go_sem, ↓reduceIte] <;> rfl) | fail) only [go_sem, ↓reduceIte]
  exact Qc rfl rfl
theorem Qyf {k : Nat} {a b : List Int} (ha : MB k a) (hb : MB k b) (hk : k ≤ 1099511627776) : Qd Tryz.prog 143 [PV.mono a, PV.mono b] (· = PV.mono (Qav a b)) := by
  have h1 := ha.len
  have h2 := hb.len
  have hz := Qbc (· + ·) a b
  refine Qf Qk Tryz.func143 rfl Q7r (by simp [Q4c]) fun C hP => ?_; simp only [Q4c]
  simp +decide (disch := first | omega | rfl | (simp +decide only [go_sem, ↓reduceIte] <;> rfl) | fail) only [go_sem, ↓reduceIte]
  refine Qa hP (Qkg (f := 169) (g := (· + ·)) (by omega) (by omega) (fun i => Qv2 (by have := ha.eN i; have := hb.eN i; omega) (by have := ha.eN i; have := hb.eN i; omega))) rfl rfl rfl ?_
  simp +decide (disch := first | omega | rfl | (simp +decide only [go_sem, ↓reduceIte] <;> rfl) | fail) only [go_sem, ↓reduceIte]
  refine Qa hP (Qok (by omega)) rfl rfl rfl ?_
  simp +decide (disch := first | omega | rfl | (simp +decide only [go_sem, ↓reduceIte] <;> rfl) | fail) only [go_sem, ↓reduceIte]
  exact Qc rfl rfl
theorem Qln {k : Nat} {a b : List Int} {o : Int} (ha : MB k a) (hb : MB k b) (hk : k ≤ 1099511627776) : Qd Tryz.prog 48 [PV.mono a, PV.mono b, .int .i64 o] (· = .int .i64 (Qem o a b)) := by
  have h1 := ha.len
  have h2 := hb.len
  have hda : ∀ x ∈ a, 0 ≤ x ∧ x ≤ 1099511627776 := fun x hx => by have := ha.lo x hx; have := ha.hi x hx; omega
  have hdb : ∀ x ∈ b, 0 ≤ x ∧ x ≤ 1099511627776 := fun x hx => by have := hb.lo x hx; have := hb.hi x hx; omega
  refine Qf Qk Tryz.func48 rfl Qaae (by simp [c48]) fun C hP => ?_; simp only [c48]
  simp +decide (disch := first | omega | rfl | (simp +decide only [go_sem, ↓reduceIte] <;> rfl) | fail) only [go_sem, ↓reduceIte]
  refine Qb (fun ho => ?_) (fun ho => ?_)
  · simp +decide (disch := first | omega | rfl | (simp +decide only [go_sem, ↓reduceIte] <;> rfl) | fail) only [go_sem, ↓reduceIte]
    refine Qa hP (Ql6 (by omega) hda) rfl rfl rfl ?_
    simp +decide (disch := first | omega | rfl | (simp +decide only [go_sem, ↓reduceIte] <;> rfl) | fail) only [go_sem, ↓reduceIte]
    refine Qa hP (Ql6 (by omega) hdb) rfl rfl rfl ?_
    simp +decide (disch := first | omega | rfl | (simp +decide only [go_sem, ↓reduceIte] <;> rfl) | fail) only [go_sem, ↓reduceIte]
    refine Qb (fun hd => ?_) (fun hd => ?_)
    · have hord : Qem o a b = Qcj (Qfb a) (Qfb b) := by unfold Qem; rw [if_pos ⟨ho, hd⟩]
      simp +decide (disch := first | omega | rfl | (simp +decide only [go_sem, ↓reduceIte] <;> rfl) | fail) only [go_sem, ↓reduceIte]
      refine Qb (fun h5 => ?_) (fun h5 => ?_)
      · simp +decide (disch := first | omega | rfl | (simp +decide only [go_sem, ↓reduceIte] <;> rfl) | fail) only [go_sem, ↓reduceIte]
        exact Qc (by rw [hord, Qcj, if_pos h5]) rfl
      · simp +decide (disch := first | omega | rfl | (simp +decide only [go_sem, ↓reduceIte] <;> rfl) | fail) only [go_sem, ↓reduceIte]
        exact Qc (by rw [hord, Qcj, if_neg h5, if_pos (by omega)]) rfl
    have hord : Qem o a b = Q9 a b := by unfold Qem; rw [if_neg (fun h => hd h.2)]
    simp +decide (disch := first | omega | rfl | (simp +decide only [go_sem, ↓reduceIte] <;> rfl) | fail) only [go_sem, ↓reduceIte]
    refine Qz (by repeat (first | exact Qv | exact Qp | exact Qq | apply Qo | apply Qu | apply Q2 | apply Q5 | apply Q6 | apply Qm)) [(6, 6), (9, 11), (30, 45)] [] (fun n J hp => n ≤ max a.length b.length ∧ Qbp a b n = Q9 a b ∧ J 9 = .int .i64 ((n : Int) - 1) ∧ hp = hp0) (max a.length b.length) ?_ ?_
    · refine ⟨by omega, rfl, ?_⟩
      simp +decide (disch := first | omega | rfl | (simp +decide only [go_sem, ↓reduceIte] <;> rfl) | fail) only [go_sem, ↓reduceIte]
    rintro n J _ ⟨hn, hc, h9, rfl⟩
    simp +decide (disch := first | omega | rfl | (simp +decide only [go_sem, ↓reduceIte, h9] <;> rfl) | fail) only [go_sem, ↓reduceIte, h9]
    refine Qb (fun hg => ?_) (fun hg => ?_)
    · obtain _ | n := n
      · omega
      have e : ((n + 1 : Nat) : Int) - 1 = n := by omega
      rw [Qbp] at hc
      simp +decide (disch := first | omega | rfl | (simp +decide only [go_sem, ↓reduceIte, h9, e] <;> rfl) | fail) only [go_sem, ↓reduceIte, h9, e]
      refine Qa hP (Qhn (by omega)) rfl rfl rfl ?_
      simp +decide (disch := first | omega | rfl | (simp +decide only [go_sem, ↓reduceIte, h9, e] <;> rfl) | fail) only [go_sem, ↓reduceIte, h9, e]
      refine Qa hP (Qhn (by omega)) rfl rfl rfl ?_
      simp +decide (disch := first | omega | rfl | (simp +decide only [go_sem, ↓reduceIte, h9, e] <;> rfl) | fail) only [go_sem, ↓reduceIte, h9, e]
      refine Qb (fun h4 => ?_) (fun h4 => ?_)
      · rw [if_neg h4] at hc
        simp +decide (disch := first | omega | rfl | (simp +decide only [go_sem, ↓reduceIte, h9, e] <;> rfl) | fail) only [go_sem, ↓reduceIte, h9, e]
        refine Qb (fun h5 => ?_) (fun h5 => ?_)
        · simp +decide (disch := first | omega | rfl | (simp +decide only [go_sem, ↓reduceIte, h9, e] <;> rfl) | fail) only [go_sem, ↓reduceIte, h9, e]
          exact Qc (by rw [hord, ← hc, Qcj, if_pos h5]) rfl
        · simp +decide (disch := first | omega | rfl | (simp +decide only [go_sem, ↓reduceIte, h9, e] <;> rfl) | fail) only [go_sem, ↓reduceIte, h9, e]
          exact Qc (by rw [hord, ← hc, Qcj, if_neg h5, if_pos (by omega)]) rfl
      · rw [if_pos (by omega)] at hc
        simp +decide (disch := first | omega | rfl | (simp +decide only [go_sem, ↓reduceIte, h9, e] <;> rfl) | fail) only [go_sem, ↓reduceIte, h9, e]
        refine Ql n (by omega) ⟨by omega, hc, ?_⟩
        simp +decide (disch := first | omega | rfl | (simp +decide only [go_sem, ↓reduceIte] <;> rfl) | fail) only [go_sem, ↓reduceIte]
    · obtain rfl : n = 0 := by omega
      simp +decide (disch := first | omega | rfl | (simp +decide only [go_sem, ↓reduceIte] <;> rfl) | fail) only [go_sem, ↓reduceIte]
      exact Qc (by rw [hord, ← hc]; rfl) rfl
  · have hord : Qem o a b = Q9 a b := by unfold Qem; rw [if_neg (fun h => ho h.1)]
    simp +decide (disch := first | omega | rfl | (simp +decide only [go_sem, ↓reduceIte] <;> rfl) | fail) only [go_sem, ↓reduceIte]
    refine Qz (by repeat (first | exact Qv | exact Qp | exact Qq | apply Qo | apply Qu | apply Q2 | apply Q5 | apply Q6 | apply Qm)) [(6, 6), (9, 11), (30, 45)] [] (fun n J hp => n ≤ max a.length b.length ∧ Qbp a b n = Q9 a b ∧ J 9 = .int .i64 ((n : Int) - 1) ∧ hp = hp0) (max a.length b.length) ?_ ?_
    · refine ⟨by omega, rfl, ?_⟩
      simp +decide (disch := first | omega | rfl | (simp +decide only [go_sem, ↓reduceIte] <;> rfl) | fail) only [go_sem, ↓reduceIte]
    rintro n J _ ⟨hn, hc, h9, rfl⟩
    simp +decide (disch := first | omega | rfl | (simp +decide only [go_sem, ↓reduceIte, h9] <;> rfl) | fail) only [go_sem, ↓reduceIte, h9]
    refine Qb (fun hg => ?_) (fun hg => ?_)
    · obtain _ | n := n
      · omega
      have e : ((n + 1 : Nat) : Int) - 1 = n := by omega
      rw [Qbp] at hc
      simp +decide (disch := first | omega | rfl | (simp +decide only [go_sem, ↓reduceIte, h9, e] <;> rfl) | fail) only [go_sem, ↓reduceIte, h9, e]
      refine Qa hP (Qhn (by omega)) rfl rfl rfl ?_
      simp +decide (disch := first | omega | rfl | (simp +decide only [go_sem, ↓reduceIte, h9, e] <;> rfl) | fail) only [go_sem, ↓reduceIte, h9, e]
      refine Qa hP (Qhn (by omega)) rfl rfl rfl ?_
      simp +decide (disch := first | omega | rfl | (simp +decide only [go_sem, ↓reduceIte, h9, e] <;> rfl) | fail) only [go_sem, ↓reduceIte, h9, e]
      refine Qb (fun h4 => ?_) (fun h4 => ?_)
      · rw [if_neg h4] at hc
        simp +decide (disch := first | omega | rfl | (simp +decide only [go_sem, ↓reduceIte, h9, e] <;> rfl) | fail) only [go_sem, ↓reduceIte, h9, e]
        refine Qb (fun h5 => ?_) (fun h5 => ?_)
        · simp +decide (disch := first | omega | rfl | (simp +decide only [go_sem, ↓reduceIte, h9, e] <;> rfl) | fail) only [go_sem, ↓reduceIte, h9, e]
          exact Qc (by rw [hord, ← hc, Qcj, if_pos h5]) rfl
        · simp +decide (disch := first | omega | rfl | (simp +decide only [go_sem, ↓reduceIte, h9, e] <;> rfl) | fail) only [go_sem, ↓reduceIte, h9, e]
          exact Qc (by rw [hord, ← hc, Qcj, if_neg h5, if_pos (by omega)]) rfl
      · rw [if_pos (by omega)] at hc
        simp +decide (disch := first | omega | rfl | (simp +decide only [go_sem, ↓reduceIte, h9, e] <;> rfl) | fail) only [go_sem, ↓reduceIte, h9, e]
        refine Ql n (by omega) ⟨by omega, hc, ?_⟩
        simp +decide (disch := first | omega | rfl | (simp +decide only [go_sem, ↓reduceIte] <;> rfl) | fail) only [go_sem, ↓reduceIte]
    · obtain rfl : n = 0 := by omega
      simp +decide (disch := first | omega | rfl | (simp +decide only [go_sem, ↓reduceIte] <;> rfl) | fail) only [go_sem, ↓reduceIte]
      exact Qc (by rw [hord, ← hc]; rfl) rfl
end Go.Proofs.YtjkbalanglgoiaaGreat
namespace Go.Proofs.YtjkbalanglgoiaaGreat
open Go Go.FW
set_option linter.unusedSimpArgs false
set_option linter.unusedVariables false
set_option maxRecDepth 100000
theorem Qacb {a b : Rat} {k : Nat} (ha : rs a ≤ k) (hb : rs b ≤ k) (hk : k < 2 ^ 36) : Qd Tryz.prog 97 [PV.rat a, PV.rat b] (· = PV.rat (a + b)) := by
  have := Qsc (Qbh ha) (Qbh hb) hk
  rwa [Qb0, Qb0] at this
theorem Qacc {a b : Rat} {k : Nat} (ha : rs a ≤ k) (hb : rs b ≤ k) (hk : k < 2 ^ 36) : Qd Tryz.prog 142 [PV.rat a, PV.rat b] (· = PV.rat (a * b)) := by
  have := Q0w (Qbh ha) (Qbh hb) hk
  rwa [Qb0, Qb0] at this
theorem Qm7 {a : Rat} (ha : rs a < 2 ^ 36) : Qd Tryz.prog 59 [PV.rat a] (· = .int .i64 (Qhr a)) := by
  have := Qyd (Qbh (Nat.le_refl (rs a))) ha
  rwa [Qb0] at this
theorem Qyg {s t : Tm} {E : Nat} (hs : MB E s.2) (ht : MB E t.2) (hE : E ≤ 2 ^ 38) : Qd Tryz.prog 90 [PV.term s, PV.term t] (· = .int .i64 (Q9 s.2 t.2)) := by
  refine Qf Qk Tryz.func90 rfl Qaah (by simp [c90]) fun C hP => ?_; simp only [c90]
  simp +decide (disch := first | omega | rfl | (simp +decide only [go_sem, ↓reduceIte] <;> rfl) | fail) only [go_sem, ↓reduceIte]
  refine Qa hP (Qln (o := 0) hs ht (by omega)) rfl rfl rfl ?_
  simp +decide (disch := first | omega | rfl | (simp +decide only [go_sem, ↓reduceIte] <;> rfl) | fail) only [go_sem, ↓reduceIte]
  exact Qc (by rw [Qm2]) rfl
theorem Qup {s t : Tm} {k : Nat} (hs : rs s.1 ≤ k) (ht : rs t.1 ≤ k) (hk : k < 2 ^ 34) : Qd Tryz.prog 91 [PV.term s, PV.term t] (· = .tup [PV.term (s.1 + t.1, s.2), .bool (decide (¬ s.1 + t.1 = 0))]) := by
  have hr := Qp8 s.1 t.1
  refine Qf Qk Tryz.func91 rfl Qaai (by simp [c91]) fun C hP => ?_; simp only [c91]
  simp +decide (disch := first | omega | rfl | (simp +decide only [go_sem, ↓reduceIte] <;> rfl) | fail) only [go_sem, ↓reduceIte]
  refine Qa hP (Qacb (a := s.1) (b := t.1) hs ht (by omega)) rfl rfl rfl ?_
  simp +decide (disch := first | omega | rfl | (simp +decide only [go_sem, ↓reduceIte] <;> rfl) | fail) only [go_sem, ↓reduceIte]
  refine Qa hP (Qm7 (a := s.1 + t.1) (by omega)) rfl rfl rfl ?_
  simp +decide (disch := first | omega | rfl | (simp +decide only [go_sem, ↓reduceIte] <;> rfl) | fail) only [go_sem, ↓reduceIte]
  refine Qfd ?_
  simp +decide (disch := first | omega | rfl | (simp +decide only [go_sem, ↓reduceIte] <;> rfl) | fail) only [go_sem, ↓reduceIte]
  exact Qco rfl rfl rfl (Qt _) (Qet (congrArg PV.bool (decide_eq_decide.2 (not_congr Qa5))))
theorem Ql7 {c : Rat} {m : List Int} (hc : rs c < 2 ^ 36) : Qd Tryz.prog 96 [PV.rat c, PV.mono m] (· = PV.poly (if c = 0 then [] else [(c, m)])) := by
  refine Qf Qk Tryz.func96 rfl Qaaj (by simp [c96]) fun C hP => ?_; simp only [c96]
  simp +decide (disch := first | omega | rfl | (simp +decide only [go_sem, ↓reduceIte] <;> rfl) | fail) only [go_sem, ↓reduceIte]
  refine Qa hP (Qm7 (a := c) hc) rfl rfl rfl ?_
  simp +decide (disch := first | omega | rfl | (simp +decide only [go_sem, ↓reduceIte] <;> rfl) | fail) only [go_sem, ↓reduceIte]
  refine Qb (fun h0 => ?_) (fun h0 => ?_)
  · rw [if_pos (Qa5.1 h0)]
    simp +decide (disch := first | omega | rfl | (simp +decide only [go_sem, ↓reduceIte] <;> rfl) | fail) only [go_sem, ↓reduceIte]
    exact Qcl Qfq rfl
  · rw [if_neg (fun h => h0 (Qa5.2 h))]
    simp +decide (disch := first | omega | rfl | (simp +decide only [go_sem, ↓reduceIte, Qg, List.contains_cons, List.contains_nil, List.flatMap_cons, List.flatMap_nil, List.append_nil] <;> rfl) | fail) only [go_sem, ↓reduceIte, Qg, List.contains_cons, List.contains_nil, List.flatMap_cons, List.flatMap_nil, List.append_nil]
    exact Qc rfl rfl
theorem Quq {p q : List Tm} {K E : Nat} (hp : PB K E p) (hq : PB K E q) (hK : K ≤ 2 ^ 33) (hE : E ≤ 2 ^ 38) (hlp : p.length ≤ 2 ^ 36) (hlq : q.length ≤ 2 ^ 36) :
    Qd Tryz.prog 89 [PV.poly p, PV.poly q, .fn 90 [] [], .fn 91 [] []] (· = PV.poly (Qw p q)) := by
  refine Qf Qk Tryz.func89 rfl Qaag (by simp [c89]) fun C hP => ?_; simp only [c89]
  simp +decide (disch := first | omega | rfl | (simp +decide only [go_sem, ↓reduceIte] <;> rfl) | fail) only [go_sem, ↓reduceIte]
  refine Qz (by repeat (first | exact Qv | exact Qp | exact Qq | apply Qo | apply Qu | apply Q2 | apply Q5 | apply Q6 | apply Qm)) [(9, 14), (21, 86)] [13, 20, 57, 58, 71, 72, 83, 84] (fun n J hp => ∃ i k out, n = (p.length - i) + (q.length - k) ∧ i ≤ p.length ∧ k ≤ q.length ∧ out.length ≤ i + k ∧ out ++ Qw (p.drop i) (q.drop k) = Qw p q ∧
    J 9 = .ms 20 out.length ∧ J 10 = .int .i64 (i : Nat) ∧ J 11 = .int .i64 (k : Nat) ∧ hp 20 = some ⟨4, 61, out.map PV.term, false⟩) (p.length + q.length) ?_ ?_
  · refine ⟨0, 0, [], by omega, by omega, by omega, by simp, rfl, ?_⟩
    simp +decide (disch := first | omega | rfl | (simp +decide only [go_sem, ↓reduceIte] <;> rfl) | fail) only [go_sem, ↓reduceIte]
    simp
  rintro _ J h ⟨i, k, out, rfl, hi, hk, hol, hpad, h9, h10, h11, hh⟩
  simp +decide (disch := first | omega | rfl | (simp +decide only [go_sem, ↓reduceIte, h9, h10, h11] <;> rfl) | fail) only [go_sem, ↓reduceIte, h9, h10, h11]
  refine Qaj (fun hg => ?_) (fun hg => ?_)
  · have hi' : i < p.length := by omega
    simp +decide (disch := first | omega | rfl | (simp +decide only [go_sem, ↓reduceIte, h9, h10, h11] <;> rfl) | fail) only [go_sem, ↓reduceIte, h9, h10, h11]
    refine Qb (fun hg2 => ?_) (fun hg2 => ?_)
    · have hk' : k < q.length := by omega
      have htp := hp.get hi'
      have htq := hq.get hk'
      rw [Qr6 hi' hk'] at hpad
      have c1 := htp.c
      have c2 := htq.c
      generalize hx : p[i] = x at *
      generalize hy : q[k] = y at *
      simp +decide (disch := first | omega | rfl | (simp +decide only [go_sem, ↓reduceIte, h9, h10, h11, hx, hy] <;> rfl) | fail) only [go_sem, ↓reduceIte, h9, h10, h11, hx, hy]
      refine Qa hP (Qyg (s := x) (t := y) htp.m htq.m hE) rfl rfl rfl ?_
      simp +decide (disch := first | omega | rfl | (simp +decide only [go_sem, ↓reduceIte, h9, h10, h11, hx, hy] <;> rfl) | fail) only [go_sem, ↓reduceIte, h9, h10, h11, hx, hy]
      refine Qb (fun hc => ?_) (fun hc => ?_)
      · rw [if_pos hc] at hpad
        simp +decide (disch := first | omega | rfl | (simp +decide only [go_sem, ↓reduceIte, h9, h10, h11, hx, hy] <;> rfl) | fail) only [go_sem, ↓reduceIte, h9, h10, h11, hx, hy]
        rw [Qaa (f := PV.term) (y := x) (xs := out) (ty' := 61) (fz := false) (by simp +decide (disch := first | omega | rfl | (simp +decide only [go_sem, ↓reduceIte, hh] <;> rfl) | fail) only [go_sem, ↓reduceIte, hh]) (by simp +decide (disch := first | omega | rfl | (simp +decide only [go_sem, ↓reduceIte] <;> rfl) | fail) only [go_sem, ↓reduceIte] <;> rfl) (by omega) rfl (by omega) (by omega)]
        simp +decide (disch := first | omega | rfl | (simp +decide only [go_sem, ↓reduceIte, h9, h10, h11, hx, hy] <;> rfl) | fail) only [go_sem, ↓reduceIte, h9, h10, h11, hx, hy]
        refine Ql ((p.length - (i + 1)) + (q.length - k)) (by omega) ⟨i + 1, k, out ++ [x], rfl, by omega, hk, by simp; omega, by simpa using hpad, ?_⟩
        simp +decide (disch := first | omega | rfl | (simp +decide only [go_sem, ↓reduceIte, h9, h10, h11] <;> rfl) | fail) only [go_sem, ↓reduceIte, h9, h10, h11]
        simp
      rw [if_neg hc] at hpad
      simp +decide (disch := first | omega | rfl | (simp +decide only [go_sem, ↓reduceIte, h9, h10, h11, hx, hy] <;> rfl) | fail) only [go_sem, ↓reduceIte, h9, h10, h11, hx, hy]
      refine Qb (fun hc2 => ?_) (fun hc2 => ?_)
      · rw [if_pos hc2] at hpad
        simp +decide (disch := first | omega | rfl | (simp +decide only [go_sem, ↓reduceIte, h9, h10, h11, hx, hy] <;> rfl) | fail) only [go_sem, ↓reduceIte, h9, h10, h11, hx, hy]
        rw [Qaa (f := PV.term) (y := y) (xs := out) (ty' := 61) (fz := false) (by simp +decide (disch := first | omega | rfl | (simp +decide only [go_sem, ↓reduceIte, hh] <;> rfl) | fail) only [go_sem, ↓reduceIte, hh]) (by simp +decide (disch := first | omega | rfl | (simp +decide only [go_sem, ↓reduceIte] <;> rfl) | fail) only [go_sem, ↓reduceIte] <;> rfl) (by omega) rfl (by omega) (by omega)]
        simp +decide (disch := first | omega | rfl | (simp +decide only [go_sem, ↓reduceIte, h9, h10, h11, hx, hy] <;> rfl) | fail) only [go_sem, ↓reduceIte, h9, h10, h11, hx, hy]
        refine Ql ((p.length - i) + (q.length - (k + 1))) (by omega) ⟨i, k + 1, out ++ [y], rfl, hi, by omega, by simp; omega, by simpa using hpad, ?_⟩
        simp +decide (disch := first | omega | rfl | (simp +decide only [go_sem, ↓reduceIte, h9, h10, h11] <;> rfl) | fail) only [go_sem, ↓reduceIte, h9, h10, h11]
        simp
      rw [if_neg hc2] at hpad
      simp +decide (disch := first | omega | rfl | (simp +decide only [go_sem, ↓reduceIte, h9, h10, h11, hx, hy] <;> rfl) | fail) only [go_sem, ↓reduceIte, h9, h10, h11, hx, hy]
      refine Qcr ?_ ?_
      all_goals
        simp +decide (disch := first | omega | rfl | (simp +decide only [go_sem, ↓reduceIte, h9, h10, h11, hx, hy] <;> rfl) | fail) only [go_sem, ↓reduceIte, h9, h10, h11, hx, hy]
        refine Qa hP (Qup (s := x) (t := y) (k := 2 ^ 33) (by omega) (by omega) (by omega)) rfl rfl rfl ?_
        simp +decide (disch := first | omega | rfl | (simp +decide only [go_sem, ↓reduceIte, h9, h10, h11, hx, hy] <;> rfl) | fail) only [go_sem, ↓reduceIte, h9, h10, h11, hx, hy]
        refine Qb (fun hz => ?_) (fun hz => ?_)
        · rw [if_neg hz] at hpad
          simp +decide (disch := first | omega | rfl | (simp +decide only [go_sem, ↓reduceIte, h9, h10, h11, hx, hy] <;> rfl) | fail) only [go_sem, ↓reduceIte, h9, h10, h11, hx, hy]
          rw [Qaa (f := PV.term) (y := (x.1 + y.1, x.2)) (xs := out) (ty' := 61) (fz := false) (by simp +decide (disch := first | omega | rfl | (simp +decide only [go_sem, ↓reduceIte, hh] <;> rfl) | fail) only [go_sem, ↓reduceIte, hh]) (by simp +decide (disch := first | omega | rfl | (simp +decide only [go_sem, ↓reduceIte] <;> rfl) | fail) only [go_sem, ↓reduceIte] <;> rfl) (by omega) rfl (by omega) (by omega)]
          simp +decide (disch := first | omega | rfl | (simp +decide only [go_sem, ↓reduceIte, h9, h10, h11, hx, hy] <;> rfl) | fail) only [go_sem, ↓reduceIte, h9, h10, h11, hx, hy]
          refine Ql ((p.length - (i + 1)) + (q.length - (k + 1))) (by omega) ⟨i + 1, k + 1, out ++ [(x.1 + y.1, x.2)], rfl, by omega, by omega, by simp; omega, by simpa using hpad, ?_⟩
          simp +decide (disch := first | omega | rfl | (simp +decide only [go_sem, ↓reduceIte, h9, h10, h11] <;> rfl) | fail) only [go_sem, ↓reduceIte, h9, h10, h11]
          simp
        · rw [if_pos (Decidable.not_not.1 hz)] at hpad
          simp +decide (disch := first | omega | rfl | (simp +decide only [go_sem, ↓reduceIte, h9, h10, h11, hx, hy] <;> rfl) | fail) only [go_sem, ↓reduceIte, h9, h10, h11, hx, hy]
          refine Ql ((p.length - (i + 1)) + (q.length - (k + 1))) (by omega) ⟨i + 1, k + 1, out, rfl, by omega, by omega, by omega, hpad, ?_⟩
          simp +decide (disch := first | omega | rfl | (simp +decide only [go_sem, ↓reduceIte, h9, h10, h11, hh] <;> rfl) | fail) only [go_sem, ↓reduceIte, h9, h10, h11, hh]
    · have hfin : (out ++ p.drop i ++ q.drop k).take (out.length + (p.drop i).length + (q.drop k).length) = Qw p q := by
        rw [List.take_of_length_le (by simp; omega), ← hpad, List.drop_of_length_le (by omega : q.length ≤ k), Qbx, List.append_nil]
      simp +decide (disch := first | omega | rfl | (simp +decide only [go_sem, ↓reduceIte, h9, h10, h11] <;> rfl) | fail) only [go_sem, ↓reduceIte, h9, h10, h11]
      rw [Qcp (f := PV.term) (xs := out) (ys := p.drop i) (by simp +decide (disch := first | omega | rfl | (simp +decide only [go_sem, ↓reduceIte, hh] <;> rfl) | fail) only [go_sem, ↓reduceIte, hh]) rfl (by omega) (by simp; omega) (by simp; omega)]
      simp +decide (disch := first | omega | rfl | (simp +decide only [go_sem, ↓reduceIte, h9, h10, h11] <;> rfl) | fail) only [go_sem, ↓reduceIte, h9, h10, h11]
      rw [Qcp (f := PV.term) (xs := out ++ p.drop i) (ys := q.drop k) (by simp +decide (disch := first | omega | rfl | (simp +decide only [go_sem, ↓reduceIte] <;> rfl) | fail) only [go_sem, ↓reduceIte]) (by simp) (by omega) (by simp; omega) (by simp; omega)]
      simp +decide (disch := first | omega | rfl | (simp +decide only [go_sem, ↓reduceIte, h9, h10, h11, Qg, List.contains_cons, List.contains_nil, List.flatMap_cons, List.flatMap_nil, List.append_nil] <;> rfl) | fail) only [go_sem, ↓reduceIte, h9, h10, h11, Qg, List.contains_cons, List.contains_nil, List.flatMap_cons, List.flatMap_nil, List.append_nil]
      exact Qc (by rw [← List.map_take, hfin]) rfl
  · have hfin : (out ++ p.drop i ++ q.drop k).take (out.length + (p.drop i).length + (q.drop k).length) = Qw p q := by
      rw [List.take_of_length_le (by simp; omega), ← hpad, List.drop_of_length_le (by omega : p.length ≤ i), Qd2, List.append_nil]
    simp +decide (disch := first | omega | rfl | (simp +decide only [go_sem, ↓reduceIte, h9, h10, h11] <;> rfl) | fail) only [go_sem, ↓reduceIte, h9, h10, h11]
    rw [Qcp (f := PV.term) (xs := out) (ys := p.drop i) (by simp +decide (disch := first | omega | rfl | (simp +decide only [go_sem, ↓reduceIte, hh] <;> rfl) | fail) only [go_sem, ↓reduceIte, hh]) rfl (by omega) (by simp; omega) (by simp; omega)]
    simp +decide (disch := first | omega | rfl | (simp +decide only [go_sem, ↓reduceIte, h9, h10, h11] <;> rfl) | fail) only [go_sem, ↓reduceIte, h9, h10, h11]
    rw [Qcp (f := PV.term) (xs := out ++ p.drop i) (ys := q.drop k) (by simp +decide (disch := first | omega | rfl | (simp +decide only [go_sem, ↓reduceIte] <;> rfl) | fail) only [go_sem, ↓reduceIte]) (by simp) (by omega) (by simp; omega) (by simp; omega)]
    simp +decide (disch := first | omega | rfl | (simp +decide only [go_sem, ↓reduceIte, h9, h10, h11, Qg, List.contains_cons, List.contains_nil, List.flatMap_cons, List.flatMap_nil, List.append_nil] <;> rfl) | fail) only [go_sem, ↓reduceIte, h9, h10, h11, Qg, List.contains_cons, List.contains_nil, List.flatMap_cons, List.flatMap_nil, List.append_nil]
    exact Qc (by rw [← List.map_take, hfin]) rfl
theorem Qlo {p q : List Tm} {K E : Nat} (hp : PB K E p) (hq : PB K E q) (hK : K ≤ 2 ^ 33) (hE : E ≤ 2 ^ 38) (hlp : p.length ≤ 2 ^ 36) (hlq : q.length ≤ 2 ^ 36) :
    Qd Tryz.prog 38 [PV.poly p, PV.poly q] (· = PV.poly (Qw p q)) := by
  refine Qf Qk Tryz.func38 rfl Qaan (by simp [c38]) fun C hP => ?_; simp only [c38]
  simp +decide (disch := first | omega | rfl | (simp +decide only [go_sem, ↓reduceIte] <;> rfl) | fail) only [go_sem, ↓reduceIte]
  refine Qa hP (Quq hp hq hK hE hlp hlq) rfl rfl rfl ?_
  simp +decide (disch := first | omega | rfl | (simp +decide only [go_sem, ↓reduceIte] <;> rfl) | fail) only [go_sem, ↓reduceIte]
  exact Qc rfl rfl
end Go.Proofs.YtjkbalanglgoiaaGreat
namespace Go.Proofs.YtjkbalanglgoiaaGreat
open Go Go.FW
set_option linter.unusedSimpArgs false
set_option linter.unusedVariables false
set_option maxRecDepth 100000
theorem Qqj {K E : Nat} (hE : E ≤ 2 ^ 38) : ∀ (n : Nat) (l : List (List Tm)), l.length ≤ n → (∀ p ∈ l, PB K E p) → l.length * K ≤ 2 ^ 33 → l.length ≤ 2 ^ 36 → Qld l ≤ 2 ^ 36 → Qd Tryz.prog 84 [PV.polys l] (· = PV.poly (Qby l)) := by
  intro n
  induction n with
  | zero =>
    intro l hl _ _ _ _
    have : l = [] := List.length_eq_zero_iff.1 (by omega)
    subst this
    refine Qf Qk Tryz.func84 rfl Q0v (by simp [c84]) fun C hP => ?_; simp only [c84]
    simp +decide (disch := first | omega | rfl | (simp +decide only [go_sem, ↓reduceIte, List.map_nil, List.length_nil] <;> rfl) | fail) only [go_sem, ↓reduceIte, List.map_nil, List.length_nil]
    exact Qcl (Qhl (by rw [Qby])) rfl
  | succ n ih =>
    intro l hl hb hK hll hpl
    refine Qf Qk Tryz.func84 rfl Q0v (by simp [c84]) fun C hP => ?_; simp only [c84]
    simp +decide (disch := first | omega | rfl | (simp +decide only [go_sem, ↓reduceIte] <;> rfl) | fail) only [go_sem, ↓reduceIte]
    refine Qb (fun h0 => ?_) (fun h0 => ?_)
    · have : l = [] := List.length_eq_zero_iff.1 (by omega)
      subst this
      simp +decide (disch := first | omega | rfl | (simp +decide only [go_sem, ↓reduceIte] <;> rfl) | fail) only [go_sem, ↓reduceIte]
      exact Qcl (Qhl (by rw [Qby])) rfl
    simp +decide (disch := first | omega | rfl | (simp +decide only [go_sem, ↓reduceIte] <;> rfl) | fail) only [go_sem, ↓reduceIte]
    refine Qb (fun h1 => ?_) (fun h1 => ?_)
    · obtain ⟨p, rfl⟩ : ∃ p, l = [p] := List.length_eq_one_iff.1 (by omega)
      simp +decide (disch := first | omega | rfl | (simp +decide only [go_sem, ↓reduceIte, List.map_cons, List.map_nil] <;> rfl) | fail) only [go_sem, ↓reduceIte, List.map_cons, List.map_nil]
      exact Qc (by rw [Qby]; rfl) rfl
    have h2 : 2 ≤ l.length := by omega
    have hs := Qqb l (l.length / 2)
    have e : (2 : Int) = ((2 : Nat) : Int) := rfl
    have hq : ∀ d fr hp K, Qas .quo false (.int .i64 (l.length : Int)) (.int .i64 2) d fr hp K = K (upd fr d (.int .i64 ((l.length / 2 : Nat) : Int))) hp := fun d fr hp K => by
      rw [e, Qrc (by omega) (by omega)]
    have b1 := Qle (K := K) (E := E) _ (l.take (l.length / 2)) (Nat.le_refl _) (fun p hp => hb p (List.mem_of_mem_take hp))
    have b2 := Qle (K := K) (E := E) _ (l.drop (l.length / 2)) (Nat.le_refl _) (fun p hp => hb p (List.mem_of_mem_drop hp))
    have l1 : (l.take (l.length / 2)).length * K ≤ l.length * K := Nat.mul_le_mul_right _ (by rw [List.length_take]; omega)
    have l2 : (l.drop (l.length / 2)).length * K ≤ l.length * K := Nat.mul_le_mul_right _ (by rw [List.length_drop]; omega)
    simp +decide (disch := first | omega | rfl | (simp +decide only [go_sem, ↓reduceIte, hq] <;> rfl) | fail) only [go_sem, ↓reduceIte, hq]
    refine Qa hP (ih (l.take (l.length / 2)) (by rw [List.length_take]; omega) (fun p hp => hb p (List.mem_of_mem_take hp)) (by omega) (by rw [List.length_take]; omega) (by omega)) rfl rfl rfl ?_
    simp +decide (disch := first | omega | rfl | (simp +decide only [go_sem, ↓reduceIte, hq] <;> rfl) | fail) only [go_sem, ↓reduceIte, hq]
    refine Qa hP (ih (l.drop (l.length / 2)) (by rw [List.length_drop]; omega) (fun p hp => hb p (List.mem_of_mem_drop hp)) (by omega) (by rw [List.length_drop]; omega) (by omega)) rfl rfl rfl ?_
    simp +decide (disch := first | omega | rfl | (simp +decide only [go_sem, ↓reduceIte, hq] <;> rfl) | fail) only [go_sem, ↓reduceIte, hq]
    refine Qa hP (Qlo (b1.1.mono (K' := l.length * K) l1 (Nat.le_refl _)) (b2.1.mono l2 (Nat.le_refl _)) hK hE (by omega) (by omega)) rfl rfl rfl ?_
    simp +decide (disch := first | omega | rfl | (simp +decide only [go_sem, ↓reduceIte] <;> rfl) | fail) only [go_sem, ↓reduceIte]
    exact Qc (by rw [Qhj h2]) rfl
theorem Qju {p : List Tm} {t : Tm} {i : Nat} (h : i < p.length) : Qx (p.take (i + 1)) t = Qx (p.take i) t ++ (if p[i].1 * t.1 = 0 then [] else [(p[i].1 * t.1, Qav p[i].2 t.2)]) := by
  rw [List.take_succ_eq_append_getElem h, Qx, List.filterMap_append, Qx]
  congr 1
  simp only [List.filterMap_cons, List.filterMap_nil]
  split <;> split <;> simp_all
theorem Qiq {p : List Tm} {t : Tm} {K E : Nat} (hp : PB K E p) (ht : TB K E t) (hK : K ≤ 2 ^ 33) (hE : E ≤ 2 ^ 38) (hlp : p.length ≤ 2 ^ 36) :
    Qd Tryz.prog 83 [PV.poly p, PV.term t] (· = PV.poly (Qx p t)) := by
  refine Qf Qk Tryz.func83 rfl Qaap (by simp [c83]) fun C hP => ?_; simp only [c83]
  simp +decide (disch := first | omega | rfl | (simp +decide only [go_sem, ↓reduceIte] <;> rfl) | fail) only [go_sem, ↓reduceIte]
  refine Qz (by repeat (first | exact Qv | exact Qp | exact Qq | apply Qo | apply Qu | apply Q2 | apply Q5 | apply Q6 | apply Qm)) [(5, 5), (7, 8), (14, 36)] [7, 8, 11, 34, 35] (fun n J hp => ∃ i, n = p.length - i ∧ i ≤ p.length ∧ J 5 = .ms 11 (Qx (p.take i) t).length ∧ J 14 = .int .i64 (i : Nat) ∧ hp 3 = some ⟨4, 61, [PV.term t], false⟩ ∧ hp 11 = some ⟨4, 61, (Qx (p.take i) t).map PV.term, false⟩) p.length ?_ ?_
  · refine ⟨0, rfl, by omega, ?_⟩
    simp +decide (disch := first | omega | rfl | (simp +decide only [go_sem, ↓reduceIte] <;> rfl) | fail) only [go_sem, ↓reduceIte]
    simp [Qx]
  rintro _ J h ⟨i, rfl, hi, h5, h14, hh3, hh11⟩
  simp +decide (disch := first | omega | rfl | (simp +decide only [go_sem, ↓reduceIte, h5, h14] <;> rfl) | fail) only [go_sem, ↓reduceIte, h5, h14]
  refine Qb (fun hg => ?_) (fun hg => ?_)
  · have hi' : i < p.length := by omega
    have htp := hp.get hi'
    have htk := Qju (t := t) hi'
    have hlen := Qcs (p.take i) t
    rw [List.length_take] at hlen
    have c1 := htp.c
    have c2 := ht.c
    have hrm := Qt9 p[i].1 t.1
    generalize hx : p[i] = x at *
    simp +decide (disch := first | omega | rfl | (simp +decide only [go_sem, ↓reduceIte, h5, h14, hh3, hx] <;> rfl) | fail) only [go_sem, ↓reduceIte, h5, h14, hh3, hx]
    refine Qa hP (Qacc (a := x.1) (b := t.1) (k := 2 ^ 33) (by omega) (by omega) (by omega)) rfl rfl rfl ?_
    simp +decide (disch := first | omega | rfl | (simp +decide only [go_sem, ↓reduceIte, h5, h14, hh3, hx] <;> rfl) | fail) only [go_sem, ↓reduceIte, h5, h14, hh3, hx]
    refine Qa hP (Qm7 (a := x.1 * t.1) (by omega)) rfl rfl rfl ?_
    simp +decide (disch := first | omega | rfl | (simp +decide only [go_sem, ↓reduceIte, h5, h14, hh3, hx] <;> rfl) | fail) only [go_sem, ↓reduceIte, h5, h14, hh3, hx]
    refine Qb (fun hz => ?_) (fun hz => ?_)
    · rw [if_neg (fun h => hz (Qa5.2 h))] at htk
      simp +decide (disch := first | omega | rfl | (simp +decide only [go_sem, ↓reduceIte, h5, h14, hh3, hx] <;> rfl) | fail) only [go_sem, ↓reduceIte, h5, h14, hh3, hx]
      refine Qa hP (Qyf htp.m ht.m (by omega)) rfl rfl rfl ?_
      simp +decide (disch := first | omega | rfl | (simp +decide only [go_sem, ↓reduceIte, h5, h14, hh3, hx] <;> rfl) | fail) only [go_sem, ↓reduceIte, h5, h14, hh3, hx]
      rw [Qaa (f := PV.term) (y := (x.1 * t.1, Qav x.2 t.2)) (xs := Qx (p.take i) t) (ty' := 61) (fz := false) (by simp +decide (disch := first | omega | rfl | (simp +decide only [go_sem, ↓reduceIte, hh11] <;> rfl) | fail) only [go_sem, ↓reduceIte, hh11]) (by simp +decide (disch := first | omega | rfl | (simp +decide only [go_sem, ↓reduceIte] <;> rfl) | fail) only [go_sem, ↓reduceIte] <;> rfl) (by omega) rfl (by omega) (by omega)]
      rw [← htk]
      simp +decide (disch := first | omega | rfl | (simp +decide only [go_sem, ↓reduceIte, h5, h14, hh3, hx] <;> rfl) | fail) only [go_sem, ↓reduceIte, h5, h14, hh3, hx]
      refine Ql (p.length - (i + 1)) (by omega) ⟨i + 1, rfl, by omega, ?_⟩
      rw [htk]
      simp +decide (disch := first | omega | rfl | (simp +decide only [go_sem, ↓reduceIte, h5, h14, hh3, List.length_append] <;> rfl) | fail) only [go_sem, ↓reduceIte, h5, h14, hh3, List.length_append]
    · rw [if_pos (Qa5.1 (Decidable.not_not.1 hz)), List.append_nil] at htk
      simp +decide (disch := first | omega | rfl | (simp +decide only [go_sem, ↓reduceIte, h5, h14, hh3, hx] <;> rfl) | fail) only [go_sem, ↓reduceIte, h5, h14, hh3, hx]
      refine Ql (p.length - (i + 1)) (by omega) ⟨i + 1, rfl, by omega, ?_⟩
      rw [htk]
      simp +decide (disch := first | omega | rfl | (simp +decide only [go_sem, ↓reduceIte, h5, h14, hh3, hh11] <;> rfl) | fail) only [go_sem, ↓reduceIte, h5, h14, hh3, hh11]
  · obtain rfl : i = p.length := by omega
    rw [List.take_length] at h5 hh11
    simp +decide (disch := first | omega | rfl | (simp +decide only [go_sem, ↓reduceIte, h5, hh11, Qg, List.contains_cons, List.contains_nil, List.flatMap_cons, List.flatMap_nil, List.append_nil] <;> rfl) | fail) only [go_sem, ↓reduceIte, h5, hh11, Qg, List.contains_cons, List.contains_nil, List.flatMap_cons, List.flatMap_nil, List.append_nil]
    exact Qc (by simp [List.take_of_length_le]) rfl
theorem Qh1 {p q : List Tm} {K E : Nat} (hp : PB K E p) (hq : PB K E q) (hE : E ≤ 2 ^ 37) (hlp : p.length ≤ 2 ^ 30) (hlq : q.length ≤ 2 ^ 30) (hlm : p.length * q.length ≤ 2 ^ 36) (hK : min p.length q.length * (K + K) ≤ 2 ^ 33) (hK2 : K ≤ 2 ^ 33) :
    Qd Tryz.prog 32 [PV.poly p, PV.poly q] (· = PV.poly (Qbz p q)) := by
  have main : ∀ (p q : List Tm), PB K E p → PB K E q → p.length ≤ 2 ^ 30 → q.length ≤ 2 ^ 30 → p.length * q.length ≤ 2 ^ 36 → p.length * (K + K) ≤ 2 ^ 33 → p.length ≤ q.length → True := fun _ _ _ _ _ _ _ _ _ => trivial
  refine Qf Qk Tryz.func32 rfl Qaaq (by simp [c32]) fun C hP => ?_; simp only [c32]
  simp +decide (disch := first | omega | rfl | (simp +decide only [go_sem, ↓reduceIte] <;> rfl) | fail) only [go_sem, ↓reduceIte]
  refine Qb (fun hg => ?_) (fun hg => ?_)
  · have hfin : Qfe q p = Qbz p q := by rw [Qbz, if_pos (by omega)]
    have hK3 : q.length * (K + K) ≤ 2 ^ 33 := by rw [Nat.min_eq_right (by omega)] at hK; exact hK
    have hlm2 : q.length * p.length ≤ 2 ^ 36 := by rw [Nat.mul_comm]; exact hlm
    simp +decide (disch := first | omega | rfl | (simp +decide only [go_sem, ↓reduceIte] <;> rfl) | fail) only [go_sem, ↓reduceIte]
    refine Qz (by repeat (first | exact Qv | exact Qp | exact Qq | apply Qo | apply Qu | apply Q2 | apply Q5 | apply Q6 | apply Qm)) [(5, 5), (7, 7), (20, 30)] [7, 17, 28, 29] (fun n J hp => ∃ i, n = q.length - i ∧ i ≤ q.length ∧ J 5 = .ms 17 i ∧ J 20 = .int .i64 (i : Nat) ∧ hp 17 = some ⟨1, 23, ((q.take i).map (Qx p)).map PV.poly, false⟩) q.length ?_ ?_
    · refine ⟨0, rfl, by omega, ?_⟩
      simp +decide (disch := first | omega | rfl | (simp +decide only [go_sem, ↓reduceIte] <;> rfl) | fail) only [go_sem, ↓reduceIte]
      simp
    rintro _ J h ⟨i, rfl, hi, h5, h20, hh⟩
    simp +decide (disch := first | omega | rfl | (simp +decide only [go_sem, ↓reduceIte, h5, h20] <;> rfl) | fail) only [go_sem, ↓reduceIte, h5, h20]
    refine Qb (fun hg2 => ?_) (fun hg2 => ?_)
    · have hi' : i < q.length := by omega
      have htp := hq.get hi'
      have htk : (q.take (i + 1)).map (Qx p) = (q.take i).map (Qx p) ++ [Qx p q[i]] := by
        rw [List.take_succ_eq_append_getElem hi', List.map_append]; rfl
      generalize hx : q[i] = x at *
      simp +decide (disch := first | omega | rfl | (simp +decide only [go_sem, ↓reduceIte, h5, h20, hx] <;> rfl) | fail) only [go_sem, ↓reduceIte, h5, h20, hx]
      refine Qa hP (Qiq (t := x) hp htp hK2 (by omega) (by omega)) rfl rfl rfl ?_
      simp +decide (disch := first | omega | rfl | (simp +decide only [go_sem, ↓reduceIte, h5, h20, hx] <;> rfl) | fail) only [go_sem, ↓reduceIte, h5, h20, hx]
      rw [Qaa (f := PV.poly) (y := Qx p x) (xs := (q.take i).map (Qx p)) (ty' := 23) (fz := false) (by simp +decide (disch := first | omega | rfl | (simp +decide only [go_sem, ↓reduceIte, hh] <;> rfl) | fail) only [go_sem, ↓reduceIte, hh]) (by simp +decide (disch := first | omega | rfl | (simp +decide only [go_sem, ↓reduceIte] <;> rfl) | fail) only [go_sem, ↓reduceIte] <;> rfl) (by omega) (by simp; omega) (by omega) (by omega)]
      rw [← htk]
      simp +decide (disch := first | omega | rfl | (simp +decide only [go_sem, ↓reduceIte, h5, h20, hx] <;> rfl) | fail) only [go_sem, ↓reduceIte, h5, h20, hx]
      refine Ql (q.length - (i + 1)) (by omega) ⟨i + 1, rfl, by omega, ?_⟩
      simp +decide (disch := first | omega | rfl | (simp +decide only [go_sem, ↓reduceIte, h5, h20] <;> rfl) | fail) only [go_sem, ↓reduceIte, h5, h20]
    · obtain rfl : i = q.length := by omega
      rw [List.take_length] at hh
      have hpl := Qgx q p
      simp +decide (disch := first | omega | rfl | (simp +decide only [go_sem, ↓reduceIte, h5, hh] <;> rfl) | fail) only [go_sem, ↓reduceIte, h5, hh]
      refine Qbi hP (Qqj (K := K + K) (E := E + E) (by omega) _ (q.map (Qx p)) (Nat.le_refl _) (fun x hx => by
        obtain ⟨t, ht, rfl⟩ := List.mem_map.1 hx
        exact Qfx hp (hq t ht)) (by rw [List.length_map]; omega) (by rw [List.length_map]; omega) (by omega)) (by simp +decide (disch := first | omega | rfl | (simp +decide only [go_sem, ↓reduceIte, hh, Qg, List.contains_cons, List.contains_nil, List.flatMap_cons, List.flatMap_nil, List.append_nil] <;> rfl) | fail) only [go_sem, ↓reduceIte, hh, Qg, List.contains_cons, List.contains_nil, List.flatMap_cons, List.flatMap_nil, List.append_nil]; simp [List.take_of_length_le]) rfl ?_
      simp +decide (disch := first | omega | rfl | (simp +decide only [go_sem, ↓reduceIte] <;> rfl) | fail) only [go_sem, ↓reduceIte]
      exact Qc (congrArg PV.poly hfin) rfl
  · have hfin : Qfe p q = Qbz p q := by rw [Qbz, if_neg (by omega)]
    have hK3 : p.length * (K + K) ≤ 2 ^ 33 := by rw [Nat.min_eq_left (by omega)] at hK; exact hK
    simp +decide (disch := first | omega | rfl | (simp +decide only [go_sem, ↓reduceIte] <;> rfl) | fail) only [go_sem, ↓reduceIte]
    refine Qz (by repeat (first | exact Qv | exact Qp | exact Qq | apply Qo | apply Qu | apply Q2 | apply Q5 | apply Q6 | apply Qm)) [(5, 5), (7, 7), (20, 30)] [7, 17, 28, 29] (fun n J hp => ∃ i, n = p.length - i ∧ i ≤ p.length ∧ J 5 = .ms 17 i ∧ J 20 = .int .i64 (i : Nat) ∧ hp 17 = some ⟨1, 23, ((p.take i).map (Qx q)).map PV.poly, false⟩) p.length ?_ ?_
    · refine ⟨0, rfl, by omega, ?_⟩
      simp +decide (disch := first | omega | rfl | (simp +decide only [go_sem, ↓reduceIte] <;> rfl) | fail) only [go_sem, ↓reduceIte]
      simp
    rintro _ J h ⟨i, rfl, hi, h5, h20, hh⟩
    simp +decide (disch := first | omega | rfl | (simp +decide only [go_sem, ↓reduceIte, h5, h20] <;> rfl) | fail) only [go_sem, ↓reduceIte, h5, h20]
    refine Qb (fun hg2 => ?_) (fun hg2 => ?_)
    · have hi' : i < p.length := by omega
      have htp := hp.get hi'
      have htk : (p.take (i + 1)).map (Qx q) = (p.take i).map (Qx q) ++ [Qx q p[i]] := by
        rw [List.take_succ_eq_append_getElem hi', List.map_append]; rfl
      generalize hx : p[i] = x at *
      simp +decide (disch := first | omega | rfl | (simp +decide only [go_sem, ↓reduceIte, h5, h20, hx] <;> rfl) | fail) only [go_sem, ↓reduceIte, h5, h20, hx]
      refine Qa hP (Qiq (t := x) hq htp hK2 (by omega) (by omega)) rfl rfl rfl ?_
      simp +decide (disch := first | omega | rfl | (simp +decide only [go_sem, ↓reduceIte, h5, h20, hx] <;> rfl) | fail) only [go_sem, ↓reduceIte, h5, h20, hx]
      rw [Qaa (f := PV.poly) (y := Qx q x) (xs := (p.take i).map (Qx q)) (ty' := 23) (fz := false) (by simp +decide (disch := first | omega | rfl | (simp +decide only [go_sem, ↓reduceIte, hh] <;> rfl) | fail) only [go_sem, ↓reduceIte, hh]) (by simp +decide (disch := first | omega | rfl | (simp +decide only [go_sem, ↓reduceIte] <;> rfl) | fail) only [go_sem, ↓reduceIte] <;> rfl) (by omega) (by simp; omega) (by omega) (by omega)]
      rw [← htk]
      simp +decide (disch := first | omega | rfl | (simp +decide only [go_sem, ↓reduceIte, h5, h20, hx] <;> rfl) | fail) only [go_sem, ↓reduceIte, h5, h20, hx]
      refine Ql (p.length - (i + 1)) (by omega) ⟨i + 1, rfl, by omega, ?_⟩
      simp +decide (disch := first | omega | rfl | (simp +decide only [go_sem, ↓reduceIte, h5, h20] <;> rfl) | fail) only [go_sem, ↓reduceIte, h5, h20]
    · obtain rfl : i = p.length := by omega
      rw [List.take_length] at hh
      have hpl := Qgx p q
      simp +decide (disch := first | omega | rfl | (simp +decide only [go_sem, ↓reduceIte, h5, hh] <;> rfl) | fail) only [go_sem, ↓reduceIte, h5, hh]
      refine Qbi hP (Qqj (K := K + K) (E := E + E) (by omega) _ (p.map (Qx q)) (Nat.le_refl _) (fun x hx => by
        obtain ⟨t, ht, rfl⟩ := List.mem_map.1 hx
        exact Qfx hq (hp t ht)) (by rw [List.length_map]; omega) (by rw [List.length_map]; omega) (by omega)) (by simp +decide (disch := first | omega | rfl | (simp +decide only [go_sem, ↓reduceIte, hh, Qg, List.contains_cons, List.contains_nil, List.flatMap_cons, List.flatMap_nil, List.append_nil] <;> rfl) | fail) only [go_sem, ↓reduceIte, hh, Qg, List.contains_cons, List.contains_nil, List.flatMap_cons, List.flatMap_nil, List.append_nil]; simp [List.take_of_length_le]) rfl ?_
      simp +decide (disch := first | omega | rfl | (simp +decide only [go_sem, ↓reduceIte] <;> rfl) | fail) only [go_sem, ↓reduceIte]
      exact Qc (congrArg PV.poly hfin) rfl
end Go.Proofs.YtjkbalanglgoiaaGreat
namespace Go.Proofs.YtjkbalanglgoiaaGreat
open Go Go.FW
set_option linter.unusedSimpArgs false
set_option linter.unusedVariables false
set_option maxRecDepth 100000
theorem Qir {p : List Tm} {a : Rat} {K E : Nat} (hp : PB K E p) (ha : rs a + 1 ≤ K) (hK : K ≤ 2 ^ 33) (hE : E ≤ 2 ^ 38) (hlp : p.length ≤ 2 ^ 36) : Qd Tryz.prog 33 [PV.poly p, PV.rat a] (· = PV.poly (Qbq p a)) := by
  refine Qf Qk Tryz.func33 rfl Qaar (by simp [c33]) fun C hP => ?_; simp only [c33]
  simp +decide (disch := first | omega | rfl | (simp +decide only [go_sem, ↓reduceIte] <;> rfl) | fail) only [go_sem, ↓reduceIte]
  refine Qa hP (Qm7 (a := a) (by omega)) rfl rfl rfl ?_
  simp +decide (disch := first | omega | rfl | (simp +decide only [go_sem, ↓reduceIte] <;> rfl) | fail) only [go_sem, ↓reduceIte]
  refine Qb (fun h0 => ?_) (fun h0 => ?_)
  · simp +decide (disch := first | omega | rfl | (simp +decide only [go_sem, ↓reduceIte] <;> rfl) | fail) only [go_sem, ↓reduceIte]
    exact Qcl (Qhl (by rw [Qbq, if_pos (Qa5.1 h0)])) rfl
  · simp +decide (disch := first | omega | rfl | (simp +decide only [go_sem, ↓reduceIte] <;> rfl) | fail) only [go_sem, ↓reduceIte]
    refine Qa hP ((Qiq (t := (a, [])) hp (TB.num ha) hK hE hlp).le (args' := [PV.poly p, .agg [.bool (decide (a.num < 0)), PV.num a.num.natAbs, PV.num a.den, .nilS]]) ⟨Qt _, ⟨rfl, Qdy _, Qdy _, trivial, trivial⟩, trivial⟩) rfl rfl rfl ?_
    simp +decide (disch := first | omega | rfl | (simp +decide only [go_sem, ↓reduceIte] <;> rfl) | fail) only [go_sem, ↓reduceIte]
    exact Qc (by rw [Qbq, if_neg (fun h => h0 (Qa5.2 h))]) rfl
theorem Qyh {p : List Tm} {K E : Nat} (hp : PB K E p) (hK2 : 2 ≤ K) (hK : K ≤ 2 ^ 33) (hE : E ≤ 2 ^ 38) (hlp : p.length ≤ 2 ^ 36) : Qd Tryz.prog 98 [PV.poly p] (· = PV.poly (Qjo p)) := by
  have h1 := Qx4
  refine Qf Qk Tryz.func98 rfl Qaam (by simp [c98]) fun C hP => ?_; simp only [c98]
  simp +decide (disch := first | omega | rfl | (simp +decide only [go_sem, ↓reduceIte] <;> rfl) | fail) only [go_sem, ↓reduceIte]
  refine Qa hP (Qje (x := -1) (by omega) (by omega)) rfl rfl rfl ?_
  simp +decide (disch := first | omega | rfl | (simp +decide only [go_sem, ↓reduceIte] <;> rfl) | fail) only [go_sem, ↓reduceIte]
  refine Qa hP (Qir (a := ((-1 : Int) : Rat)) hp (by have : ((-1 : Int) : Rat) = -1 := rfl; rw [this]; omega) hK hE hlp) rfl rfl rfl ?_
  simp +decide (disch := first | omega | rfl | (simp +decide only [go_sem, ↓reduceIte] <;> rfl) | fail) only [go_sem, ↓reduceIte]
  exact Qc rfl rfl
theorem Qh2 {p q : List Tm} {K E : Nat} (hp : PB K E p) (hq : PB K E q) (hK2 : 2 ≤ K) (hK : K ≤ 2 ^ 32) (hE : E ≤ 2 ^ 38) (hlp : p.length ≤ 2 ^ 36) (hlq : q.length ≤ 2 ^ 36) : Qd Tryz.prog 42 [PV.poly p, PV.poly q] (· = PV.poly (Qfr p q)) := by
  have hl := Qff q (-1)
  refine Qf Qk Tryz.func42 rfl Qaao (by simp [c42]) fun C hP => ?_; simp only [c42]
  simp +decide (disch := first | omega | rfl | (simp +decide only [go_sem, ↓reduceIte] <;> rfl) | fail) only [go_sem, ↓reduceIte]
  refine Qa hP (Qyh hq hK2 (by omega) hE hlq) rfl rfl rfl ?_
  simp +decide (disch := first | omega | rfl | (simp +decide only [go_sem, ↓reduceIte] <;> rfl) | fail) only [go_sem, ↓reduceIte]
  refine Qa hP (Qlo (hp.mono (K' := K + 2) (by omega) (Nat.le_refl _)) (Qww hq) (by omega) hE hlp (by show (Qbq q (-1)).length ≤ _; omega)) rfl rfl rfl ?_
  simp +decide (disch := first | omega | rfl | (simp +decide only [go_sem, ↓reduceIte] <;> rfl) | fail) only [go_sem, ↓reduceIte]
  exact Qc rfl rfl
theorem Qyi {n : Bool} {a d : List Nat} {k : Nat} (hp : Raw k n a d) (hk : k < 2 ^ 36) : Qd Tryz.prog 97 [PV.rr n a d, PV.rat ((0 : Int) : Rat)] (· = PV.rat (rv n a d)) := by
  have h0 : rs ((0 : Int) : Rat) ≤ k := by have := rs_0; have := hp.k1; have e : ((0 : Int) : Rat) = 0 := rfl; rw [e]; omega
  have := Qsc hp (Qbh h0) hk
  rw [Qb0] at this
  have e : rv n a d + ((0 : Int) : Rat) = rv n a d := Rat.add_zero _
  rwa [e] at this
theorem Qur {n : Bool} {a d : List Nat} {k : Nat} (hp : Raw k n a d) (hk : k < 2 ^ 36) : Qd Tryz.prog 41 [PV.rr n a d] (· = PV.poly (Qm3 (rv n a d))) := by
  have hr := hp.rs
  refine Qf Qk Tryz.func41 rfl Qaak (by simp [c41]) fun C hP => ?_; simp only [c41]
  simp +decide (disch := first | omega | rfl | (simp +decide only [go_sem, ↓reduceIte] <;> rfl) | fail) only [go_sem, ↓reduceIte]
  refine Qa hP (Qje (x := 0) (by omega) (by omega)) rfl rfl rfl ?_
  simp +decide (disch := first | omega | rfl | (simp +decide only [go_sem, ↓reduceIte] <;> rfl) | fail) only [go_sem, ↓reduceIte]
  refine Qa hP (Qyi hp hk) rfl rfl rfl ?_
  simp +decide (disch := first | omega | rfl | (simp +decide only [go_sem, ↓reduceIte] <;> rfl) | fail) only [go_sem, ↓reduceIte]
  refine Qa hP ((Ql7 (c := rv n a d) (m := []) (by omega)).le (args' := [PV.rat (rv n a d), .nilS]) ⟨Qt _, trivial, trivial⟩) rfl rfl rfl ?_
  simp +decide (disch := first | omega | rfl | (simp +decide only [go_sem, ↓reduceIte] <;> rfl) | fail) only [go_sem, ↓reduceIte]
  exact Qc rfl rfl
theorem Qqk {v : Int} (h1 : -9223372036854775808 ≤ v) (h2 : v < 9223372036854775807) : Qd Tryz.prog 40 [.int .i64 v] (· = PV.poly (Qaz v)) := by
  refine Qf Qk Tryz.func40 rfl Qaal (by simp [c40]) fun C hP => ?_; simp only [c40]
  simp +decide (disch := first | omega | rfl | (simp +decide only [go_sem, ↓reduceIte] <;> rfl) | fail) only [go_sem, ↓reduceIte]
  refine Qad (fun h => ?_) (fun h => ?_)
  · simp +decide (disch := first | omega | rfl | (simp +decide only [go_sem, ↓reduceIte] <;> rfl) | fail) only [go_sem, ↓reduceIte]
    exact Qcl (Qhl (by rw [Qaz, if_pos (.inl h)])) rfl
  obtain ⟨n, rfl⟩ : ∃ n : Nat, v = n := ⟨v.toNat, by omega⟩
  simp +decide (disch := first | omega | rfl | (simp +decide only [go_sem, ↓reduceIte] <;> rfl) | fail) only [go_sem, ↓reduceIte]
  refine Qb (fun h => ?_) (fun h => ?_)
  · simp +decide (disch := first | omega | rfl | (simp +decide only [go_sem, ↓reduceIte] <;> rfl) | fail) only [go_sem, ↓reduceIte]
    exact Qcl (Qhl (by rw [Qaz, if_pos (.inr h)])) rfl
  have hset : (List.replicate (n + 1) (0 : Int)).set n 1 = Qjp n := by
    rw [List.replicate_succ', Qjp, List.set_append_right _ _ (by simp)]; simp
  have hl : n < (List.replicate (n + 1) (0 : Int)).length := by simp
  have hr := Qx5
  simp +decide (disch := first | omega | rfl | (simp +decide only [go_sem, ↓reduceIte, hset] <;> rfl) | fail) only [go_sem, ↓reduceIte, hset]
  refine Qa hP (Qje (x := 1) (by omega) (by omega)) rfl rfl rfl ?_
  simp +decide (disch := first | omega | rfl | (simp +decide only [go_sem, ↓reduceIte] <;> rfl) | fail) only [go_sem, ↓reduceIte]
  refine Qbi hP (Ql7 (c := ((1 : Int) : Rat)) (m := Qjp n) (by have : ((1 : Int) : Rat) = 1 := rfl; rw [this]; omega)) (by simp +decide (disch := first | omega | rfl | (simp +decide only [go_sem, ↓reduceIte, Qg, List.contains_cons, List.contains_nil, List.flatMap_cons, List.flatMap_nil, List.append_nil] <;> rfl) | fail) only [go_sem, ↓reduceIte, Qg, List.contains_cons, List.contains_nil, List.flatMap_cons, List.flatMap_nil, List.append_nil]; simp [Qjp, List.take_of_length_le]) rfl ?_
  simp +decide (disch := first | omega | rfl | (simp +decide only [go_sem, ↓reduceIte] <;> rfl) | fail) only [go_sem, ↓reduceIte]
  refine Qc ?_ rfl
  rw [Qaz, if_neg (show ¬ ((n : Int) < 0 ∨ 64 ≤ (n : Int)) by omega), Int.toNat_natCast]
  rfl
end Go.Proofs.YtjkbalanglgoiaaGreat
namespace Go.FW
open Go
def pev (φ : List Int → Rat) : List Tm → Rat
  | [] => 0
  | t :: p => t.1 * φ t.2 + pev φ p
theorem Qb9 (φ : List Int → Rat) : pev φ [] = 0 := rfl
theorem Qah (φ : List Int → Rat) (t : Tm) (p : List Tm) : pev φ (t :: p) = t.1 * φ t.2 + pev φ p := rfl
theorem Qql (φ : List Int → Rat) : ∀ (p q : List Tm), pev φ (p ++ q) = pev φ p + pev φ q
  | [], q => by rw [List.nil_append, Qb9]; grind
  | t :: p, q => by rw [List.cons_append, Qah, Qah, Qql φ p q]; grind
theorem Qho {φ ψ : List Int → Rat} : ∀ {p : List Tm}, (∀ t ∈ p, φ t.2 = ψ t.2) → pev φ p = pev ψ p
  | [], _ => rfl
  | t :: p, h => by
    rw [Qah, Qah, h t (by simp), Qho (p := p) (fun x hx => h x (by simp [hx]))]
theorem Qw2 (φ ψ : List Int → Rat) : ∀ (p : List Tm), pev (fun m => φ m + ψ m) p = pev φ p + pev ψ p
  | [] => by simp only [Qb9]; grind
  | t :: p => by simp only [Qah]; rw [Qw2 φ ψ p]; grind
theorem Qus (c : Rat) (φ : List Int → Rat) : ∀ (p : List Tm), pev (fun m => c * φ m) p = c * pev φ p
  | [] => by simp only [Qb9]; grind
  | t :: p => by simp only [Qah]; rw [Qus c φ p]; grind
theorem Qut : ∀ (p : List Tm), pev (fun _ => 0) p = 0
  | [] => rfl
  | t :: p => by simp only [Qah]; rw [Qut p]; grind
theorem Qpb (ψ : List Int → List Int → Rat) (q : List Tm) : ∀ (p : List Tm), pev (fun m => pev (fun n => ψ m n) q) p = pev (fun n => pev (fun m => ψ m n) p) q
  | [] => by simp only [Qb9]; rw [Qut]
  | t :: p => by
    simp only [Qah]
    rw [Qpb ψ q p, Qw2 (fun n => t.1 * ψ t.2 n), Qus]
def Can (p : List Tm) : Prop := ∀ t ∈ p, t.2.getLast? ≠ some 0
def NZ (p : List Tm) : Prop := ∀ t ∈ p, t.1 ≠ 0
structure Nrm (p : List Tm) : Prop where
  c : Can p
  z : NZ p
  s : Qa1 p
theorem Can.cons {t : Tm} {p : List Tm} : Can (t :: p) ↔ t.2.getLast? ≠ some 0 ∧ Can p := by simp [Can]
theorem NZ.cons {t : Tm} {p : List Tm} : NZ (t :: p) ↔ t.1 ≠ 0 ∧ NZ p := by simp [NZ]
theorem Nrm.nil : Nrm [] := ⟨by simp [Can], by simp [NZ], trivial⟩
theorem Nrm.tail {t : Tm} {p : List Tm} (h : Nrm (t :: p)) : Nrm p := ⟨(Can.cons.1 h.c).2, (NZ.cons.1 h.z).2, h.s.2⟩
theorem Nrm.one {t : Tm} (h : t.1 ≠ 0) (hm : t.2.getLast? ≠ some 0) : Nrm [t] := ⟨by simpa [Can] using hm, by simpa [NZ] using h, ⟨by simp, trivial⟩⟩
theorem PVd.nrm {p : List Tm} (h : PVd p) : Nrm p := ⟨fun t ht => Qog (h.t t ht).m, fun t ht => (h.t t ht).c, h.s⟩
theorem Q0y {E : Nat} {a : List Int} (h : MB E a) (hE : E ≤ 1048576) (hl : a.getLast? ≠ some 0) : Qb2 a = true := by
  simp only [Qb2, Bool.and_eq_true, decide_eq_true_eq, List.all_eq_true]
  exact ⟨h.len, hl, fun x hx => ⟨h.lo x hx, by have := h.hi x hx; omega⟩⟩
theorem Qgy {φ : List Int → Rat} : ∀ {p q : List Tm}, Can p → Can q → pev φ (Qw p q) = pev φ p + pev φ q := by
  intro p q
  induction p, q using Qw.induct with
  | case1 q => rw [Qw, Qb9]; intros; grind
  | case2 p h => rw [Qbx, Qb9]; intros; grind
  | case3 c m p d l q h ih =>
    intro hp hq
    rw [Qw, if_pos h, Qah, Qah, ih (Can.cons.1 hp).2 hq]; grind
  | case4 c m p d l q h1 h2 ih =>
    intro hp hq
    rw [Qw, if_neg h1, if_pos h2, Qah, ih hp (Can.cons.1 hq).2, Qah φ (d, l)]; grind
  | case5 c m p d l q h1 h2 h3 ih =>
    intro hp hq
    have e := Qlf h1 h2 (Can.cons.1 hp).1 (Can.cons.1 hq).1
    rw [Qw, if_neg h1, if_neg h2, if_pos h3, ih (Can.cons.1 hp).2 (Can.cons.1 hq).2, Qah, Qah]
    subst e
    have : c * φ m + d * φ m = 0 := by rw [← Rat.add_mul, h3]; grind
    grind
  | case6 c m p d l q h1 h2 h3 ih =>
    intro hp hq
    have e := Qlf h1 h2 (Can.cons.1 hp).1 (Can.cons.1 hq).1
    rw [Qw, if_neg h1, if_neg h2, if_neg h3, Qah, ih (Can.cons.1 hp).2 (Can.cons.1 hq).2, Qah, Qah]
    subst e
    grind
theorem Qex : ∀ {p q : List Tm} {t : Tm}, t ∈ Qw p q → (∃ s ∈ p, s.2 = t.2) ∨ (∃ s ∈ q, s.2 = t.2) := by
  intro p q
  induction p, q using Qw.induct with
  | case1 q => rw [Qw]; intro t ht; exact Or.inr ⟨t, ht, rfl⟩
  | case2 p h => rw [Qbx]; intro t ht; exact Or.inl ⟨t, ht, rfl⟩
  | case3 c m p d l q h ih =>
    intro t ht
    rw [Qw, if_pos h] at ht
    rcases List.mem_cons.1 ht with rfl | ht
    · exact Or.inl ⟨_, by simp, rfl⟩
    · rcases ih ht with ⟨s, h1, h2⟩ | h1
      · exact Or.inl ⟨s, by simp [h1], h2⟩
      · exact Or.inr h1
  | case4 c m p d l q h1 h2 ih =>
    intro t ht
    rw [Qw, if_neg h1, if_pos h2] at ht
    rcases List.mem_cons.1 ht with rfl | ht
    · exact Or.inr ⟨_, by simp, rfl⟩
    · rcases ih ht with h3 | ⟨s, h3, h4⟩
      · exact Or.inl h3
      · exact Or.inr ⟨s, by simp [h3], h4⟩
  | case5 c m p d l q h1 h2 h3 ih =>
    intro t ht
    rw [Qw, if_neg h1, if_neg h2, if_pos h3] at ht
    rcases ih ht with ⟨s, h4, h5⟩ | ⟨s, h4, h5⟩
    · exact Or.inl ⟨s, by simp [h4], h5⟩
    · exact Or.inr ⟨s, by simp [h4], h5⟩
  | case6 c m p d l q h1 h2 h3 ih =>
    intro t ht
    rw [Qw, if_neg h1, if_neg h2, if_neg h3] at ht
    rcases List.mem_cons.1 ht with rfl | ht
    · exact Or.inl ⟨(c, m), by simp, rfl⟩
    · rcases ih ht with ⟨s, h4, h5⟩ | ⟨s, h4, h5⟩
      · exact Or.inl ⟨s, by simp [h4], h5⟩
      · exact Or.inr ⟨s, by simp [h4], h5⟩
theorem Quu {p q : List Tm} (hp : Can p) (hq : Can q) : Can (Qw p q) := fun t ht => by
  rcases Qex ht with ⟨s, h1, h2⟩ | ⟨s, h1, h2⟩
  · rw [← h2]; exact hp s h1
  · rw [← h2]; exact hq s h1
theorem Q7v : ∀ {p q : List Tm}, NZ p → NZ q → NZ (Qw p q) := by
  intro p q
  induction p, q using Qw.induct with
  | case1 q => rw [Qw]; exact fun _ h => h
  | case2 p h => rw [Qbx]; exact fun h _ => h
  | case3 c m p d l q h ih =>
    intro hp hq
    rw [Qw, if_pos h, NZ.cons]
    exact ⟨(NZ.cons.1 hp).1, ih (NZ.cons.1 hp).2 hq⟩
  | case4 c m p d l q h1 h2 ih =>
    intro hp hq
    rw [Qw, if_neg h1, if_pos h2, NZ.cons]
    exact ⟨(NZ.cons.1 hq).1, ih hp (NZ.cons.1 hq).2⟩
  | case5 c m p d l q h1 h2 h3 ih =>
    intro hp hq
    rw [Qw, if_neg h1, if_neg h2, if_pos h3]
    exact ih (NZ.cons.1 hp).2 (NZ.cons.1 hq).2
  | case6 c m p d l q h1 h2 h3 ih =>
    intro hp hq
    rw [Qw, if_neg h1, if_neg h2, if_neg h3, NZ.cons]
    exact ⟨h3, ih (NZ.cons.1 hp).2 (NZ.cons.1 hq).2⟩
theorem Qyj {a b c : List Int} (h : Q9 a b = 0) (h2 : 0 < Q9 b c) : 0 < Q9 a c := by
  have e : ∀ i, eN a i = eN b i := by
    intro i
    have := (Qhi a b _).1 h
    by_cases hi : i < max a.length b.length
    · exact this i hi
    · rw [Qcf (by omega), Qcf (by omega)]
  rw [Qx3 e (fun _ => rfl)]; exact h2
theorem Qv3 : ∀ {p q : List Tm}, Qa1 p → Qa1 q → Qa1 (Qw p q) := by
  intro p q
  induction p, q using Qw.induct with
  | case1 q => rw [Qw]; exact fun _ h => h
  | case2 p h => rw [Qbx]; exact fun h _ => h
  | case3 c m p d l q h ih =>
    intro hp hq
    rw [Qw, if_pos h]
    refine ⟨fun t ht => ?_, ih hp.2 hq⟩
    rcases Qex ht with ⟨s, h1, h2⟩ | ⟨s, h1, h2⟩
    · rw [← h2]; exact hp.1 s h1
    · rw [← h2]
      rcases List.mem_cons.1 h1 with rfl | h1
      · exact h
      · exact Qc9 h (hq.1 s h1)
  | case4 c m p d l q h1 h2 ih =>
    intro hp hq
    rw [Qw, if_neg h1, if_pos h2]
    have h2' : 0 < Q9 l m := by have := Qc3 m l; omega
    refine ⟨fun t ht => ?_, ih hp hq.2⟩
    rcases Qex ht with ⟨s, h3, h4⟩ | ⟨s, h3, h4⟩
    · rw [← h4]
      rcases List.mem_cons.1 h3 with rfl | h3
      · exact h2'
      · exact Qc9 h2' (hp.1 s h3)
    · rw [← h4]; exact hq.1 s h3
  | case5 c m p d l q h1 h2 h3 ih =>
    intro hp hq
    rw [Qw, if_neg h1, if_neg h2, if_pos h3]
    exact ih hp.2 hq.2
  | case6 c m p d l q h1 h2 h3 ih =>
    intro hp hq
    rw [Qw, if_neg h1, if_neg h2, if_neg h3]
    refine ⟨fun t ht => ?_, ih hp.2 hq.2⟩
    rcases Qex ht with ⟨s, h4, h5⟩ | ⟨s, h4, h5⟩
    · rw [← h5]; exact hp.1 s h4
    · rw [← h5]; exact Qyj (b := l) (by show Q9 m l = 0; omega) (hq.1 s h4)
theorem Qgz {p q : List Tm} (hp : Nrm p) (hq : Nrm q) : Nrm (Qw p q) := ⟨Quu hp.c hq.c, Q7v hp.z hq.z, Qv3 hp.s hq.s⟩
def ind (m : List Int) : List Int → Rat := fun n => if n = m then 1 else 0
theorem Qg6 {m : List Int} : ∀ {p : List Tm}, (∀ t ∈ p, t.2 ≠ m) → pev (ind m) p = 0
  | [], _ => rfl
  | t :: p, h => by
    rw [Qah, Qg6 (p := p) (fun x hx => h x (by simp [hx])), ind, if_neg (h t (by simp))]; grind
theorem Qjf {a b : List Int} (h : 0 < Q9 a b) : b ≠ a := by rintro rfl; rw [Qjc] at h; omega
theorem Qeg {t : Tm} {p : List Tm} (h : Qa1 (t :: p)) : pev (ind t.2) (t :: p) = t.1 := by
  rw [Qah, Qg6 (fun s hs => Qjf (h.1 s hs)), ind, if_pos rfl]; grind
theorem Qkh : ∀ {p q : List Tm}, Nrm p → Nrm q → (∀ φ, pev φ p = pev φ q) → p = q
  | [], [], _, _, _ => rfl
  | [], t :: q, _, hq, h => by
    have := h (ind t.2)
    rw [Qeg hq.s, Qb9] at this
    exact absurd this.symm (hq.z t (by simp))
  | t :: p, [], hp, _, h => by
    have := h (ind t.2)
    rw [Qeg hp.s, Qb9] at this
    exact absurd this (hp.z t (by simp))
  | s :: p, t :: q, hp, hq, h => by
    by_cases h1 : 0 < Q9 s.2 t.2
    · have := h (ind s.2)
      rw [Qeg hp.s, Qg6 (fun x hx => ?_)] at this
      · exact absurd this (hp.z s (by simp))
      · rcases List.mem_cons.1 hx with rfl | hx
        · exact Qjf h1
        · exact Qjf (Qc9 h1 (hq.s.1 x hx))
    · by_cases h2 : Q9 s.2 t.2 < 0
      · have h2' : 0 < Q9 t.2 s.2 := by have := Qc3 s.2 t.2; omega
        have := h (ind t.2)
        rw [Qeg hq.s, Qg6 (fun x hx => ?_)] at this
        · exact absurd this.symm (hq.z t (by simp))
        · rcases List.mem_cons.1 hx with rfl | hx
          · exact Qjf h2'
          · exact Qjf (Qc9 h2' (hp.s.1 x hx))
      · have e := Qlf h1 h2 (hp.c s (by simp)) (hq.c t (by simp))
        have e2 := h (ind s.2)
        rw [Qeg hp.s, e, Qeg hq.s] at e2
        have e3 : s = t := Prod.ext e2 e
        subst e3
        rw [Qkh hp.tail hq.tail (fun φ => by have := h φ; rw [Qah, Qah] at this; grind)]
theorem Q0z {φ : List Int → Rat} : ∀ (n : Nat) (l : List (List Tm)), l.length ≤ n → (∀ p ∈ l, Can p) → Can (Qby l) ∧ pev φ (Qby l) = (l.map (pev φ)).sum := by
  intro n
  induction n with
  | zero =>
    intro l hl _
    have : l = [] := List.length_eq_zero_iff.1 (by omega)
    subst this
    rw [Qby]; exact ⟨Nrm.nil.c, rfl⟩
  | succ n ih =>
    intro l hl h
    match l, h with
    | [], _ => rw [Qby]; exact ⟨Nrm.nil.c, rfl⟩
    | [p], h => rw [Qby]; exact ⟨h p (by simp), by simp; grind⟩
    | p :: q :: r, h =>
      rw [Qhj (by simp)]
      generalize hL : p :: q :: r = L at *
      have hlen : 2 ≤ L.length := by rw [← hL]; simp
      obtain ⟨a1, a2⟩ := ih (L.take (L.length / 2)) (by rw [List.length_take]; omega) (fun x hx => h x (List.mem_of_mem_take hx))
      obtain ⟨b1, b2⟩ := ih (L.drop (L.length / 2)) (by rw [List.length_drop]; omega) (fun x hx => h x (List.mem_of_mem_drop hx))
      refine ⟨Quu a1 b1, ?_⟩
      rw [Qgy a1 b1, a2, b2, ← List.sum_append, ← List.map_append, List.take_append_drop]
theorem Q4g : ∀ (n : Nat) (l : List (List Tm)), l.length ≤ n → (∀ p ∈ l, Nrm p) → Nrm (Qby l) := by
  intro n
  induction n with
  | zero =>
    intro l hl _
    have : l = [] := List.length_eq_zero_iff.1 (by omega)
    subst this
    rw [Qby]; exact Nrm.nil
  | succ n ih =>
    intro l hl h
    match l, h with
    | [], _ => rw [Qby]; exact Nrm.nil
    | [p], h => rw [Qby]; exact h p (by simp)
    | p :: q :: r, h =>
      rw [Qhj (by simp)]
      generalize hL : p :: q :: r = L at *
      have hlen : 2 ≤ L.length := by rw [← hL]; simp
      exact Qgz (ih (L.take (L.length / 2)) (by rw [List.length_take]; omega) (fun x hx => h x (List.mem_of_mem_take hx)))
        (ih (L.drop (L.length / 2)) (by rw [List.length_drop]; omega) (fun x hx => h x (List.mem_of_mem_drop hx)))
theorem Qh3 (φ : List Int → Rat) (t : Tm) : ∀ (p : List Tm), pev φ (Qx p t) = t.1 * pev (fun m => φ (Qav m t.2)) p
  | [] => by rw [Qx, List.filterMap_nil, Qb9, Qb9]; grind
  | s :: p => by
    have ih := Qh3 φ t p
    rw [Qx] at ih ⊢
    rw [List.filterMap_cons]
    by_cases h : s.1 * t.1 = 0
    · simp only [h, if_true, Qah]
      rw [ih]
      have : t.1 * (s.1 * φ (Qav s.2 t.2)) = (s.1 * t.1) * φ (Qav s.2 t.2) := by grind
      rw [Rat.mul_add, this, h]; grind
    · simp only [h, if_false, Qah]
      rw [ih]; grind
theorem Qlp (p : List Tm) (t : Tm) : Can (Qx p t) := by
  intro x hx
  simp only [Qx, List.mem_filterMap] at hx
  obtain ⟨y, hy, h⟩ := hx
  split at h
  · cases h
  · cases h; exact Qfw _ _
theorem Q00 (p : List Tm) (t : Tm) : NZ (Qx p t) := by
  intro x hx
  simp only [Qx, List.mem_filterMap] at hx
  obtain ⟨y, hy, h⟩ := hx
  split at h
  · cases h
  · rename_i h0; cases h; exact h0
theorem Ql8 (t : Tm) : ∀ (p : List Tm), Qa1 p → Qa1 (Qx p t)
  | [], _ => trivial
  | s :: p, hp => by
    have ih := Ql8 t p hp.2
    rw [Qx] at ih ⊢
    rw [List.filterMap_cons]
    split
    · exact ih
    · rename_i b hb
      split at hb
      · cases hb
      · cases hb
        refine ⟨fun x hx => ?_, ih⟩
        simp only [List.mem_filterMap] at hx
        obtain ⟨y, hy, h⟩ := hx
        split at h
        · cases h
        · cases h
          simp only [Qlc]
          exact hp.1 y hy
theorem Qlq {p : List Tm} (t : Tm) (hp : Qa1 p) : Nrm (Qx p t) := ⟨Qlp _ _, Q00 _ _, Ql8 t p hp⟩
theorem Qqm (φ : List Int → Rat) (q : List Tm) : ∀ (p : List Tm), ((p.map (Qx q)).map (pev φ)).sum = pev (fun m => pev (fun n => φ (Qav m n)) q) p
  | [] => rfl
  | t :: p => by
    rw [List.map_cons, List.map_cons, List.sum_cons, Qqm φ q p, Qh3, Qah]
    congr 2
    exact Qho fun s _ => by rw [Qdw]
theorem Qsf (φ : List Int → Rat) (p q : List Tm) : pev φ (Qfe p q) = pev (fun m => pev (fun n => φ (Qav m n)) q) p := by
  rw [Qfe, (Q0z (φ := φ) _ _ (Nat.le_refl _) ?_).2, Qqm]
  intro x hx
  obtain ⟨t, _, rfl⟩ := List.mem_map.1 hx
  exact Qlp _ _
theorem Quv (φ : List Int → Rat) (p q : List Tm) : pev φ (Qbz p q) = pev (fun m => pev (fun n => φ (Qav m n)) q) p := by
  unfold Qbz
  split
  · rw [Qsf, Qpb (fun m n => φ (Qav m n))]
    exact Qho fun s _ => Qho fun t _ => by rw [Qdw]
  · exact Qsf φ p q
theorem Qsg {p q : List Tm} (hq : Qa1 q) : Nrm (Qfe p q) := Q4g _ _ (Nat.le_refl _) fun x hx => by
  obtain ⟨t, _, rfl⟩ := List.mem_map.1 hx
  exact Qlq t hq
theorem Qfs {p q : List Tm} (hp : Qa1 p) (hq : Qa1 q) : Nrm (Qbz p q) := by
  unfold Qbz
  split
  · exact Qsg hp
  · exact Qsg hq
theorem Qyk (φ : List Int → Rat) {p : List Tm} (hp : Can p) (a : Rat) : pev φ (Qbq p a) = a * pev φ p := by
  unfold Qbq
  split
  · rename_i h; rw [h, Qb9]; grind
  · rw [Qh3]
    congr 1
    exact Qho fun s hs => by rw [Qo7 (hp s hs)]
theorem Qqn {p : List Tm} (hp : Qa1 p) (a : Rat) : Nrm (Qbq p a) := by
  unfold Qbq
  split
  · exact Nrm.nil
  · exact Qlq _ hp
theorem Q4h (φ : List Int → Rat) {p : List Tm} (hp : Can p) : pev φ (Qjo p) = - pev φ p := by
  rw [Qjo, Qyk φ hp]; grind
theorem Quw (φ : List Int → Rat) {p q : List Tm} (hp : Can p) (hq : Nrm q) : pev φ (Qfr p q) = pev φ p - pev φ q := by
  rw [Qfr, Qgy hp (show Can (Qjo q) from (Qqn hq.s _).c), Q4h φ hq.c]; grind
theorem Qux {p q : List Tm} (hp : Nrm p) (hq : Nrm q) : Nrm (Qfr p q) := Qgz hp (Qqn hq.s _)
def Qfg (p q : List Tm) : List Tm := q.foldl (fun out t => Qw out (Qx p t)) []
theorem Qsh (p : List Tm) (hp : Nrm p) : ∀ (q out : List Tm), Nrm out → Nrm (q.foldl (fun out t => Qw out (Qx p t)) out) ∧
    ∀ φ, pev φ (q.foldl (fun out t => Qw out (Qx p t)) out) = pev φ out + pev (fun m => pev (fun n => φ (Qav n m)) p) q
  | [], out, h => ⟨h, fun φ => by rw [List.foldl_nil, Qb9]; grind⟩
  | t :: q, out, h => by
    obtain ⟨h1, h2⟩ := Qsh p hp q (Qw out (Qx p t)) (Qgz h (Qlq t hp.s))
    refine ⟨h1, fun φ => ?_⟩
    rw [List.foldl_cons, h2, Qgy h.c (Qlp _ _), Qh3, Qah]; grind
theorem Quy {p q : List Tm} (hp : Nrm p) (hq : Nrm q) : Qfg p q = Qbz p q := by
  obtain ⟨h1, h2⟩ := Qsh p hp q [] Nrm.nil
  refine Qkh h1 (Qfs hp.s hq.s) fun φ => ?_
  rw [Qfg, h2, Quv, Qb9, Qpb (fun m n => φ (Qav m n))]
  grind
end Go.FW
namespace Go.FW
open Go
variable {C : Ctx} {fr : Fr} {hp : HP} {w : World} {K R : Qh}
theorem Qv4 {e by_ ty d : Nat} (h0 : 0 < e) : Qfj e by_ ty .nilS (.sl e []) d fr hp K = K (upd (Qam d fr) d (.ms d 0)) (Qs hp d ⟨e, ty, [], false⟩) := by
  have := Qhy (fr := fr) (hp := hp) (K := K) (e := e) (by_ := by_) (ty := ty) (d := d) (x := .sl e []) (ys := []) rfl h0 (by simp) (by simp)
  simpa using this
end Go.FW
namespace Go.FW
open Go
theorem Qrm {m : List Int} {c : Rat} : ∀ {u v : List Tm}, (∀ t ∈ u, 0 < Q9 t.2 m) → (∀ t ∈ v, Q9 t.2 m < 0) → Qw (u ++ v) [(c, m)] = u ++ (c, m) :: v
  | [], [], _, _ => by rw [List.nil_append, Qd2]; rfl
  | [], t :: v, _, hv => by
    have h1 := hv t (by simp)
    rw [List.nil_append, Qhk, if_neg (by show ¬ 0 < Q9 t.2 m; omega), if_pos (by exact h1), Qbx]; rfl
  | t :: u, v, hu, hv => by
    rw [List.cons_append, Qhk, if_pos (by exact hu t (by simp)), Qrm (fun s hs => hu s (by simp [hs])) hv]; rfl
theorem Qw3 {m : List Int} {c d : Rat} : ∀ {u v : List Tm}, (∀ t ∈ u, 0 < Q9 t.2 m) → Qw (u ++ (d, m) :: v) [(c, m)] = u ++ (if d + c = 0 then [] else [(d + c, m)]) ++ v
  | [], v, _ => by
    have h0 := Qjc m
    rw [List.nil_append, Qhk, if_neg (by show ¬ 0 < Q9 m m; omega), if_neg (by show ¬ Q9 m m < 0; omega)]
    show (if d + c = 0 then Qw v [] else (d + c, m) :: Qw v []) = _
    rw [Qbx]
    split <;> rfl
  | t :: u, v, hu => by
    rw [List.cons_append, Qhk, if_pos (by exact hu t (by simp)), Qw3 (fun s hs => hu s (by simp [hs]))]; simp
def Qc6 (p : List Tm) (c : Rat) (m : List Int) : List Tm := Qw p (if c = 0 then [] else [(c, m)])
theorem Quz {p : List Tm} (hs : Qa1 p) : ∀ {i : Nat} (h : i < p.length), ∀ t ∈ p.take i, 0 < Q9 t.2 p[i].2 := by
  induction p with
  | nil => intro i h; simp at h
  | cons s p ih =>
    intro i h t ht
    cases i with
    | zero => simp at ht
    | succ i =>
      simp only [List.take_succ_cons, List.mem_cons] at ht
      have hi : i < p.length := by simpa using h
      show 0 < Q9 t.2 p[i].2
      rcases ht with rfl | ht
      · exact hs.1 _ (List.getElem_mem hi)
      · exact ih hs.2 hi t ht
theorem Q01 {c : Rat} {m : List Int} (hl : m.getLast? ≠ some 0) : Nrm (if c = 0 then [] else [(c, m)]) := by
  split
  · exact Nrm.nil
  · rename_i h; exact Nrm.one h hl
theorem Q02 {p : List Tm} {c : Rat} {m : List Int} (hp : Nrm p) (hl : m.getLast? ≠ some 0) : Nrm (Qc6 p c m) := Qgz hp (Q01 hl)
theorem Q03 {φ : List Int → Rat} {p : List Tm} {c : Rat} {m : List Int} (hp : Can p) (hl : m.getLast? ≠ some 0) : pev φ (Qc6 p c m) = pev φ p + c * φ m := by
  rw [Qc6, Qgy hp (Q01 hl).c]
  split
  · rename_i h; rw [h, Qb9]; grind
  · rw [Qah, Qb9]; grind
end Go.FW
