/- Part 8 of the proof of PseudoBack: W6, FwUE. Own lemmas; no conditions. -/
import Derived.Test.YtmnkngmmfnncoaaGreatPseudoBackPart7
set_option linter.unusedSimpArgs false
set_option linter.unnecessarySimpa false
set_option linter.unusedVariables false
namespace Go.Proofs.YtmnkngmmfnncoaaGreat
open Go Go.FW
set_option linter.unusedSimpArgs false
set_option linter.unusedVariables false
set_option maxRecDepth 100000
theorem Qsk {k : Nat} {a b : List Int} (ha : MB k a) (hb : MB k b) : Qe Tryz.prog 190 [PV.mono a, PV.mono b] (· = .bool (Qf8 a b)) := by
  have h1 := ha.len
  have h2 := hb.len
  refine Qg Qk Tryz.func190 rfl Qabf (by simp [Q6m]) fun C hP => ?_; simp only [Q6m]
  simp +decide (disch := first | omega | rfl | (simp +decide only [go_sem, ↓reduceIte] <;> rfl) | fail) only [go_sem, ↓reduceIte]
  refine Qx (by repeat (first | exact Qw | exact Qq | exact Qr | exact Qs | apply Qp | apply Qv | apply Q2 | apply Q7 | apply Q8 | apply Qn | apply Qac)) [(4, 6), (9, 19)] [] (fun n J hp => ∃ i, n = a.length - i ∧ i ≤ a.length ∧ (∀ j, j < i → eN a j ≤ eN b j) ∧ J 9 = .int .i64 (i : Nat)) a.length ?_ ?_
  · refine ⟨0, rfl, by omega, by omega, ?_⟩
    simp +decide (disch := first | omega | rfl | (simp +decide only [go_sem, ↓reduceIte] <;> rfl) | fail) only [go_sem, ↓reduceIte]
    rfl
  rintro _ J h ⟨i, rfl, hi, hj, h9⟩
  simp +decide (disch := first | omega | rfl | (simp +decide only [go_sem, ↓reduceIte, h9] <;> rfl) | fail) only [go_sem, ↓reduceIte, h9]
  refine Qb (fun hg => ?_) (fun hg => ?_)
  · have hi' : i < a.length := by omega
    have he := Qcx hi'
    have hf := Qz7 (b := b) hi'
    generalize hx : a[i] = x at *
    simp +decide (disch := first | omega | rfl | (simp +decide only [go_sem, ↓reduceIte, h9, hx] <;> rfl) | fail) only [go_sem, ↓reduceIte, h9, hx]
    refine Qa hP (Qh5 (by omega)) rfl rfl rfl ?_
    simp +decide (disch := first | omega | rfl | (simp +decide only [go_sem, ↓reduceIte, h9, hx] <;> rfl) | fail) only [go_sem, ↓reduceIte, h9, hx]
    refine Qb (fun hc => ?_) (fun hc => ?_)
    · simp +decide (disch := first | omega | rfl | (simp +decide only [go_sem, ↓reduceIte] <;> rfl) | fail) only [go_sem, ↓reduceIte]
      exact Qc (congrArg PV.bool (hf (by omega)).symm) rfl
    · simp +decide (disch := first | omega | rfl | (simp +decide only [go_sem, ↓reduceIte, h9] <;> rfl) | fail) only [go_sem, ↓reduceIte, h9]
      refine Qm (a.length - (i + 1)) (by omega) ⟨i + 1, rfl, by omega, fun j hji => ?_, ?_⟩
      · by_cases e : j = i
        · subst e; omega
        · exact hj j (by omega)
      · simp +decide (disch := first | omega | rfl | (simp +decide only [go_sem, ↓reduceIte] <;> rfl) | fail) only [go_sem, ↓reduceIte]
  · obtain rfl : i = a.length := by omega
    simp +decide (disch := first | omega | rfl | (simp +decide only [go_sem, ↓reduceIte] <;> rfl) | fail) only [go_sem, ↓reduceIte]
    exact Qc (congrArg PV.bool (Q2x hj).symm) rfl
theorem Qxo {x y : Int} (h1 : -9223372036854775808 ≤ x - y) (h2 : x - y ≤ 9223372036854775807) : Qe Tryz.prog 192 [.int .i64 x, .int .i64 y] (· = .int .i64 (x - y)) := by
  refine Qg Qk Tryz.func192 rfl Qabh (by simp [Q6o]) fun C hP => ?_; simp only [Q6o]
  simp +decide (disch := first | omega | rfl | (simp +decide only [go_sem, ↓reduceIte] <;> rfl) | fail) only [go_sem, ↓reduceIte]
  exact Qc rfl rfl
theorem Qz8 {k : Nat} {a b : List Int} (ha : MB k a) (hb : MB k b) (hk : k ≤ 1099511627776) : Qe Tryz.prog 138 [PV.mono a, PV.mono b] (· = if Qf8 b a = true then .tup [PV.mono (Qhb a b), .bool true] else .tup [PV.mono [], .bool false]) := by
  have h1 := ha.len
  have h2 := hb.len
  have hz := Qcf (· - ·) a b
  refine Qg Qk Tryz.func138 rfl Qabg (by simp [Q6n]) fun C hP => ?_; simp only [Q6n]
  simp +decide (disch := first | omega | rfl | (simp +decide only [go_sem, ↓reduceIte] <;> rfl) | fail) only [go_sem, ↓reduceIte]
  refine Qa hP (Qsk hb ha) rfl rfl rfl ?_
  cases hd : Qf8 b a
  · simp +decide (disch := first | omega | rfl | (simp +decide only [go_sem, ↓reduceIte] <;> rfl) | fail) only [go_sem, ↓reduceIte]
    exact Qe5 rfl rfl rfl Q44 (Qy _)
  · simp +decide (disch := first | omega | rfl | (simp +decide only [go_sem, ↓reduceIte] <;> rfl) | fail) only [go_sem, ↓reduceIte]
    refine Qa hP (Qlb (f := 192) (g := (· - ·)) (by omega) (by omega) (fun i => Qxo (by have := ha.eN i; have := hb.eN i; omega) (by have := ha.eN i; have := hb.eN i; omega))) rfl rfl rfl ?_
    simp +decide (disch := first | omega | rfl | (simp +decide only [go_sem, ↓reduceIte] <;> rfl) | fail) only [go_sem, ↓reduceIte]
    refine Qa hP (Qo7 (by omega)) rfl rfl rfl ?_
    simp +decide (disch := first | omega | rfl | (simp +decide only [go_sem, ↓reduceIte] <;> rfl) | fail) only [go_sem, ↓reduceIte]
    exact Qe5 rfl rfl rfl (Qy _) (Qy _)
theorem Qtk {x y : Int} (hx : nl x.natAbs < 2 ^ 38) (hy : nl y.natAbs < 2 ^ 38) (h0 : y ≠ 0) : Qe Tryz.prog 146 [PV.zz x, PV.zz y] (· = .tup [PV.rat ((x : Rat) / (y : Rat)), .int .i64 0]) := by
  have hv := Qri x y h0
  have hr := Qnk (n := decide (x < 0) != decide (y < 0)) (a := dig x.natAbs) (d := dig y.natAbs) (Qj _) (Qj _) hx hy
  rw [rv, Qt, hv] at hr
  have hs := Qhk (n := decide (y < 0)) (a := dig y.natAbs) (Qj _) (by show nl _ < _; omega)
  rw [Qer] at hs
  generalize (x : Rat) / (y : Rat) = Q at *
  refine Qg Qk Tryz.func146 rfl Qaa1 (by simp [Q55]) fun C hP => ?_; simp only [Q55]
  simp +decide (disch := first | omega | rfl | (simp +decide only [go_sem, ↓reduceIte] <;> rfl) | fail) only [go_sem, ↓reduceIte]
  refine Qa hP hs rfl rfl rfl ?_
  simp +decide (disch := first | omega | rfl | (simp +decide only [go_sem, ↓reduceIte] <;> rfl) | fail) only [go_sem, ↓reduceIte]
  refine Qb (fun h => absurd (Qpt.1 h) h0) (fun _ => ?_)
  simp +decide (disch := first | omega | rfl | (simp +decide only [go_sem, ↓reduceIte] <;> rfl) | fail) only [go_sem, ↓reduceIte]
  refine Qa hP hr rfl rfl rfl ?_
  simp +decide (disch := first | omega | rfl | (simp +decide only [go_sem, ↓reduceIte] <;> rfl) | fail) only [go_sem, ↓reduceIte]
  refine Qil ?_
  simp +decide (disch := first | omega | rfl | (simp +decide only [go_sem, ↓reduceIte] <;> rfl) | fail) only [go_sem, ↓reduceIte]
  exact Qe5 rfl rfl rfl (Qy _) (Qy _)
theorem Q2y {n m : Bool} {a d b c : List Nat} {k : Nat} (hp : Raw k n a d) (hq : Raw k m b c) (hk : k < 2 ^ 34) (h0 : rv m b c ≠ 0) : Qe Tryz.prog 139 [PV.rr n a d, PV.rr m b c] (· = .tup [PV.rat (rv n a d / rv m b c), .int .i64 0]) := by
  refine Qg Qk Tryz.func139 rfl Qaa2 (by simp [Q56]) fun C hP => ?_; simp only [Q56]
  simp +decide (disch := first | omega | rfl | (simp +decide only [go_sem, ↓reduceIte] <;> rfl) | fail) only [go_sem, ↓reduceIte]
  refine Qci hP (Qc9 hp.la hp.ld hp.k1 hp.sa hp.sd (by omega)) rfl rfl rfl ?_
  rintro _ ⟨n', a', d', rfl, g1, g2, g3, g4, g5, g6⟩
  simp +decide (disch := first | omega | rfl | (simp +decide only [go_sem, ↓reduceIte] <;> rfl) | fail) only [go_sem, ↓reduceIte]
  refine Qci hP (Qc9 hq.la hq.ld hq.k1 hq.sa hq.sd (by omega)) rfl rfl rfl ?_
  rintro _ ⟨m', b', c', rfl, e1, e2, e3, e4, e5, e6⟩
  simp +decide (disch := first | omega | rfl | (simp +decide only [go_sem, ↓reduceIte] <;> rfl) | fail) only [go_sem, ↓reduceIte]
  have hza : nl (zv n' a').natAbs ≤ k := by rw [Qa6]; exact Nat.le_trans (Qae g1) g3
  have hzb : nl (zv m' b').natAbs ≤ k := by rw [Qa6]; exact Nat.le_trans (Qae e1) e3
  have hvd : nl (val d') ≤ k := Nat.le_trans (Qae g2) g4
  have hvc : nl (val c') ≤ k := Nat.le_trans (Qae e2) e4
  have h3 := Qas (zv n' a') (val c')
  have h6 := Qas (zv m' b') (val d')
  rw [Int.natAbs_natCast] at h3 h6
  have hzb0 : zv m' b' ≠ 0 := fun h => h0 (by rw [← e6, rv, h, Rat.zero_mkRat])
  have hne : zv m' b' * (val d' : Int) ≠ 0 := Int.mul_ne_zero hzb0 (by omega)
  have hfin := Qafp (n := n') (a := a') (m := m') (b := b') g5 e5 hzb0
  rw [g6, e6] at hfin
  have hm1 := Qc8 (n := n') (m := false) g1 e2 (by omega) (by omega)
  have hm2 := Qc8 (n := m') (m := false) e1 g2 (by omega) (by omega)
  rw [Qfg] at hm1 hm2
  refine Qa hP (Qdy c') rfl rfl rfl ?_
  simp +decide (disch := first | omega | rfl | (simp +decide only [go_sem, ↓reduceIte] <;> rfl) | fail) only [go_sem, ↓reduceIte]
  refine Qa hP hm1 rfl rfl rfl ?_
  simp +decide (disch := first | omega | rfl | (simp +decide only [go_sem, ↓reduceIte] <;> rfl) | fail) only [go_sem, ↓reduceIte]
  refine Qa hP (Qdy d') rfl rfl rfl ?_
  simp +decide (disch := first | omega | rfl | (simp +decide only [go_sem, ↓reduceIte] <;> rfl) | fail) only [go_sem, ↓reduceIte]
  refine Qa hP hm2 rfl rfl rfl ?_
  generalize zv n' a' * (val c' : Int) = X at *
  generalize zv m' b' * (val d' : Int) = Y at *
  simp +decide (disch := first | omega | rfl | (simp +decide only [go_sem, ↓reduceIte] <;> rfl) | fail) only [go_sem, ↓reduceIte]
  refine Qa hP (Qtk (x := X) (y := Y) (by omega) (by omega) hne) rfl rfl rfl ?_
  rw [hfin]
  generalize rv n a d / rv m b c = Q at *
  simp +decide (disch := first | omega | rfl | (simp +decide only [go_sem, ↓reduceIte] <;> rfl) | fail) only [go_sem, ↓reduceIte]
  refine Qil ?_
  simp +decide (disch := first | omega | rfl | (simp +decide only [go_sem, ↓reduceIte] <;> rfl) | fail) only [go_sem, ↓reduceIte]
  exact Qe5 rfl rfl rfl (Qy _) (Qy _)
theorem Qagi {a b : Rat} {k : Nat} (ha : rs a ≤ k) (hb : rs b ≤ k) (hk : k < 2 ^ 34) (h0 : b ≠ 0) : Qe Tryz.prog 139 [PV.rat a, PV.rat b] (· = .tup [PV.rat (a / b), .int .i64 0]) := by
  have := Q2y (Qb4 ha) (Qb4 hb) hk (by rw [Qct]; exact h0)
  rwa [Qct, Qct] at this
theorem Q2z {x : Int} (hx : nl x.natAbs < 2 ^ 40) : Qe Tryz.prog 158 [PV.zz x] (· = PV.zz (-x)) := by
  have hs := Qd0 (n := !decide (x < 0)) (a := dig x.natAbs) (Qj _) (by show nl _ < _; omega)
  have e : zv (!decide (x < 0)) (dig x.natAbs) = -x := by
    rw [Qgn]; by_cases h : x < 0 <;> simp [h] <;> omega
  rw [e] at hs
  refine Qg Qk Tryz.func158 rfl Qacw (by simp [Q8d]) fun C hP => ?_; simp only [Q8d]
  simp +decide (disch := first | omega | rfl | (simp +decide only [go_sem, ↓reduceIte] <;> rfl) | fail) only [go_sem, ↓reduceIte]
  refine Qa hP hs rfl rfl rfl ?_
  simp +decide (disch := first | omega | rfl | (simp +decide only [go_sem, ↓reduceIte] <;> rfl) | fail) only [go_sem, ↓reduceIte]
  refine Qa3 ?_
  simp +decide (disch := first | omega | rfl | (simp +decide only [go_sem, ↓reduceIte] <;> rfl) | fail) only [go_sem, ↓reduceIte]
  exact Qc rfl rfl
theorem Qz9 {x y : Int} (hx : nl x.natAbs < 2 ^ 35) (hy : nl y.natAbs < 2 ^ 35) (h0 : y ≠ 0) : Qe Tryz.prog 147 [PV.zz x, PV.zz y] (· = .tup [PV.rat ((x : Rat) / (y : Rat)), .int .i64 0]) := by
  have h3 : (y : Rat) ≠ 0 := by rw [Ne, Rat.intCast_eq_zero_iff]; exact h0
  have hnx : nl (-x).natAbs < 2 ^ 35 := by rw [Int.natAbs_neg]; exact hx
  have o1 := Qgs (z := x) (D := y.natAbs) (by omega) (by omega)
  have o2 := Qgs (z := -x) (D := y.natAbs) (by omega) (by omega)
  have e1 : ¬ y < 0 → mkRat x y.natAbs = (x : Rat) / (y : Rat) := fun h => by
    rw [Rat.mkRat_eq_div, ← Rat.intCast_natCast]
    congr 2; omega
  have e2 : y < 0 → mkRat (-x) y.natAbs = (x : Rat) / (y : Rat) := fun h => by
    have e : (((y.natAbs : Nat) : Int) : Rat) = - (y : Rat) := by rw [← Rat.intCast_neg]; congr 1; omega
    rw [Rat.mkRat_eq_div, ← Rat.intCast_natCast, e, Rat.intCast_neg]
    grind
  refine Qg Qk Tryz.func147 rfl Qac1 (by simp [Q8i]) fun C hP => ?_; simp only [Q8i]
  simp +decide (disch := first | omega | rfl | (simp +decide only [go_sem, ↓reduceIte] <;> rfl) | fail) only [go_sem, ↓reduceIte]
  refine Qa hP (Qrh (by omega)) rfl rfl rfl ?_
  simp +decide (disch := first | omega | rfl | (simp +decide only [go_sem, ↓reduceIte] <;> rfl) | fail) only [go_sem, ↓reduceIte]
  refine Qb (fun h => absurd (Qpt.1 h) h0) (fun _ => ?_)
  simp +decide (disch := first | omega | rfl | (simp +decide only [go_sem, ↓reduceIte] <;> rfl) | fail) only [go_sem, ↓reduceIte]
  refine Qb (fun hn => ?_) (fun hn => ?_)
  · rw [e2 hn] at o2
    generalize (x : Rat) / (y : Rat) = Q at *
    simp +decide (disch := first | omega | rfl | (simp +decide only [go_sem, ↓reduceIte] <;> rfl) | fail) only [go_sem, ↓reduceIte]
    refine Qa hP (Q2z (x := x) (by omega)) rfl rfl rfl ?_
    simp +decide (disch := first | omega | rfl | (simp +decide only [go_sem, ↓reduceIte] <;> rfl) | fail) only [go_sem, ↓reduceIte]
    refine Qa hP o2 rfl rfl rfl ?_
    simp +decide (disch := first | omega | rfl | (simp +decide only [go_sem, ↓reduceIte] <;> rfl) | fail) only [go_sem, ↓reduceIte]
    refine Qil ?_
    simp +decide (disch := first | omega | rfl | (simp +decide only [go_sem, ↓reduceIte] <;> rfl) | fail) only [go_sem, ↓reduceIte]
    exact Qe5 rfl rfl rfl (Qy _) (Qy _)
  · rw [e1 hn] at o1
    generalize (x : Rat) / (y : Rat) = Q at *
    simp +decide (disch := first | omega | rfl | (simp +decide only [go_sem, ↓reduceIte] <;> rfl) | fail) only [go_sem, ↓reduceIte]
    refine Qa hP o1 rfl rfl rfl ?_
    simp +decide (disch := first | omega | rfl | (simp +decide only [go_sem, ↓reduceIte] <;> rfl) | fail) only [go_sem, ↓reduceIte]
    refine Qil ?_
    simp +decide (disch := first | omega | rfl | (simp +decide only [go_sem, ↓reduceIte] <;> rfl) | fail) only [go_sem, ↓reduceIte]
    exact Qe5 rfl rfl rfl (Qy _) (Qy _)
theorem Qgv {x y : Int} (hx : -9223372036854775808 ≤ x ∧ x ≤ 9223372036854775807) (hy : -9223372036854775808 ≤ y ∧ y ≤ 9223372036854775807) (h0 : y ≠ 0) : Qe Tryz.prog 71 [.int .i64 x, .int .i64 y] (· = PV.rat ((x : Rat) / (y : Rat))) := by
  have n1 := Qdj (n := x.natAbs) (by omega)
  have n2 := Qdj (n := y.natAbs) (by omega)
  have hm := Qz9 (x := x) (y := y) (by omega) (by omega) h0
  generalize (x : Rat) / (y : Rat) = Q at *
  refine Qg Qk Tryz.func71 rfl Qafc (by simp [c71]) fun C hP => ?_; simp only [c71]
  simp +decide (disch := first | omega | rfl | (simp +decide only [go_sem, ↓reduceIte] <;> rfl) | fail) only [go_sem, ↓reduceIte]
  refine Qa hP (Qmn hx.1 hx.2) rfl rfl rfl ?_
  simp +decide (disch := first | omega | rfl | (simp +decide only [go_sem, ↓reduceIte] <;> rfl) | fail) only [go_sem, ↓reduceIte]
  refine Qa hP (Qmn hy.1 hy.2) rfl rfl rfl ?_
  simp +decide (disch := first | omega | rfl | (simp +decide only [go_sem, ↓reduceIte] <;> rfl) | fail) only [go_sem, ↓reduceIte]
  refine Qa hP hm rfl rfl rfl ?_
  simp +decide (disch := first | omega | rfl | (simp +decide only [go_sem, ↓reduceIte] <;> rfl) | fail) only [go_sem, ↓reduceIte]
  refine Qa3 ?_
  simp +decide (disch := first | omega | rfl | (simp +decide only [go_sem, ↓reduceIte] <;> rfl) | fail) only [go_sem, ↓reduceIte]
  exact Qc rfl rfl
end Go.Proofs.YtmnkngmmfnncoaaGreat
namespace Go.FW
open Go
def Qec (p : List Tm) : Nat := p.foldl (fun g t => Nat.gcd g t.1.num.natAbs) 0
def Qbu (p : List Tm) : Nat := p.foldl (fun l t => l * (t.1.den / Nat.gcd l t.1.den)) 1
theorem Qke {p : List Tm} {i : Nat} (h : i < p.length) : Qec (p.take (i + 1)) = Nat.gcd (Qec (p.take i)) p[i].1.num.natAbs := by
  rw [List.take_succ_eq_append_getElem h, Qec, List.foldl_append]; rfl
theorem Qgb {p : List Tm} {i : Nat} (h : i < p.length) : Qbu (p.take (i + 1)) = Qbu (p.take i) * (p[i].1.den / Nat.gcd (Qbu (p.take i)) p[i].1.den) := by
  rw [List.take_succ_eq_append_getElem h, Qbu, List.foldl_append]; rfl
structure Q8o (G L : Nat) : Prop where
  l0 : 0 < L
  cop : Nat.Coprime G L
theorem Qtl {G L n d : Nat} (h : Q8o G L) (hd : 0 < d) (hc : Nat.Coprime n d) :
    Q8o (Nat.gcd G n) (L * (d / Nat.gcd L d)) ∧ Nat.gcd (G * (d / Nat.gcd L d)) (n * (L / Nat.gcd L d)) = Nat.gcd G n := by
  obtain ⟨g, hg⟩ : ∃ g, g = Nat.gcd L d := ⟨_, rfl⟩
  have hg0 : 0 < g := hg ▸ Nat.gcd_pos_of_pos_left d h.l0
  obtain ⟨a, ha⟩ : g ∣ d := hg ▸ Nat.gcd_dvd_right L d
  obtain ⟨b, hb⟩ : g ∣ L := hg ▸ Nat.gcd_dvd_left L d
  have hab : Nat.Coprime a b := by
    have e : Nat.gcd L d = g * Nat.gcd b a := by
      conv => lhs; rw [hb, ha, Nat.gcd_mul_left]
    rw [← hg] at e
    have : Nat.gcd b a = 1 := by
      apply Nat.eq_of_mul_eq_mul_left hg0
      rw [Nat.mul_one]; exact e.symm
    rw [Nat.Coprime, Nat.gcd_comm]; exact this
  have e1 : d / Nat.gcd L d = a := by rw [← hg, ha, Nat.mul_div_cancel_left _ hg0]
  have e2 : L / Nat.gcd L d = b := by rw [← hg, hb, Nat.mul_div_cancel_left _ hg0]
  have hcop := h.cop
  rw [e1, e2]
  have ha0 : 0 < a := Nat.pos_of_mul_pos_left (ha ▸ hd : 0 < g * a)
  have cna : Nat.Coprime n a := Nat.Coprime.coprime_dvd_right ⟨g, by rw [ha, Nat.mul_comm]⟩ hc
  have cGb : Nat.Coprime G b := Nat.Coprime.coprime_dvd_right ⟨g, by rw [hb, Nat.mul_comm]⟩ hcop
  refine ⟨⟨Nat.mul_pos h.l0 ha0, ?_⟩, ?_⟩
  · refine Nat.Coprime.mul_right ?_ ?_
    · exact Nat.Coprime.coprime_dvd_left (Nat.gcd_dvd_left G n) hcop
    · exact Nat.Coprime.coprime_dvd_left (Nat.gcd_dvd_right G n) cna
  · have c1 : Nat.Coprime a (n * b) := Nat.Coprime.mul_right cna.symm hab
    rw [Nat.mul_comm G a, Nat.Coprime.gcd_mul_left_cancel _ c1, Nat.mul_comm n b, Nat.Coprime.gcd_mul_left_cancel_right _ cGb.symm]
theorem Qyn (q : Rat) : Nat.Coprime q.num.natAbs q.den := q.reduced
theorem Qmo (p : List Tm) : ∀ i, i ≤ p.length → Q8o (Qec (p.take i)) (Qbu (p.take i))
  | 0, _ => ⟨by simp [Qbu], by simp [Qec, Qbu, Nat.Coprime]⟩
  | i + 1, h => by
    rw [Qke (by omega), Qgb (by omega)]
    exact (Qtl (Qmo p i (by omega)) (Nat.pos_of_ne_zero p[i].1.den_nz) (Qyn _)).1
theorem Qwj (p : List Tm) {i : Nat} (h : i < p.length) : Qbu (p.take i) ∣ Qbu (p.take (i + 1)) ∧ p[i].1.den ∣ Qbu (p.take (i + 1)) := by
  rw [Qgb h]
  refine ⟨Nat.dvd_mul_right _ _, ?_⟩
  generalize Qbu (p.take i) = L
  generalize p[i].1.den = d
  obtain ⟨a, ha⟩ : Nat.gcd L d ∣ d := Nat.gcd_dvd_right L d
  obtain ⟨b, hb⟩ : Nat.gcd L d ∣ L := Nat.gcd_dvd_left L d
  generalize hg : Nat.gcd L d = g at *
  rcases Nat.eq_zero_or_pos g with h0 | h0
  · rw [h0, Nat.zero_mul] at ha; subst ha
    rw [h0] at hb; simp at hb; subst hb
    simp
  · have e1 : d / g = a := by rw [ha, Nat.mul_div_cancel_left _ h0]
    rw [e1]
    exact ⟨b, by rw [ha, hb, Nat.mul_right_comm]⟩
theorem Qyo (p : List Tm) : ∀ {i j : Nat}, i ≤ j → j ≤ p.length → Qbu (p.take i) ∣ Qbu (p.take j) := by
  intro i j h hj
  obtain ⟨k, rfl⟩ : ∃ k, j = i + k := ⟨j - i, by omega⟩
  clear h
  induction k with
  | zero => exact Nat.dvd_refl _
  | succ k ih => exact Nat.dvd_trans (ih (by omega)) (Qwj p (i := i + k) (by omega)).1
theorem Q8p (p : List Tm) {i : Nat} (h : i < p.length) : p[i].1.den ∣ Qbu p := by
  have h1 := (Qwj p h).2
  have h2 := Qyo p (i := i + 1) (j := p.length) (by omega) (Nat.le_refl _)
  rw [List.take_length] at h2
  exact Nat.dvd_trans h1 h2
def Qok (L : Nat) (p : List Tm) : Nat := p.foldl (fun g t => Nat.gcd g (t.1.num.natAbs * (L / t.1.den))) 0
theorem Q0a {L : Nat} {p : List Tm} {i : Nat} (h : i < p.length) : Qok L (p.take (i + 1)) = Nat.gcd (Qok L (p.take i)) (p[i].1.num.natAbs * (L / p[i].1.den)) := by
  rw [List.take_succ_eq_append_getElem h, Qok, List.foldl_append]; rfl
theorem Qwk {L : Nat} {p : List Tm} (hL : L = Qbu p) : ∀ i, i ≤ p.length → Qok L (p.take i) = Qec (p.take i) * (L / Qbu (p.take i))
  | 0, _ => by simp [Qok, Qec]
  | i + 1, h => by
    have hi : i < p.length := by omega
    have hd := Qyo p (i := i + 1) (j := p.length) h (Nat.le_refl _)
    rw [List.take_length, ← hL] at hd
    obtain ⟨c, hc⟩ := hd
    have hcs := Qtl (Qmo p i (by omega)) (Nat.pos_of_ne_zero p[i].1.den_nz) (Qyn p[i].1)
    have hl0 := (Qmo p (i + 1) h).l0
    have hli := (Qmo p i (by omega)).l0
    rw [Q0a hi, Qwk hL i (by omega), Qke hi, ← hcs.2]
    rw [Qgb hi] at hc hl0
    rw [Qgb hi]
    have hd0 := Nat.pos_of_ne_zero p[i].1.den_nz
    generalize Qbu (p.take i) = Li at *
    generalize p[i].1.den = d at *
    generalize Qec (p.take i) = G at *
    generalize p[i].1.num.natAbs = n at *
    clear hcs
    obtain ⟨g, hg⟩ : ∃ g, g = Nat.gcd Li d := ⟨_, rfl⟩
    have hg0 : 0 < g := hg ▸ Nat.gcd_pos_of_pos_left d hli
    obtain ⟨a, ha⟩ : g ∣ d := hg ▸ Nat.gcd_dvd_right Li d
    obtain ⟨b, hb⟩ : g ∣ Li := hg ▸ Nat.gcd_dvd_left Li d
    rw [← hg] at hc hl0 ⊢
    have e1 : d / g = a := by rw [ha, Nat.mul_div_cancel_left _ hg0]
    have e2 : Li / g = b := by rw [hb, Nat.mul_div_cancel_left _ hg0]
    rw [e1] at hc hl0 ⊢
    rw [e2]
    have f1 : L / Li = a * c := by rw [hc, Nat.mul_assoc, Nat.mul_div_cancel_left _ hli]
    have f2 : L / d = b * c := by
      have : L = d * (b * c) := by rw [hc, hb, ha]; simp only [Nat.mul_assoc, Nat.mul_left_comm, Nat.mul_comm]
      rw [this, Nat.mul_div_cancel_left _ hd0]
    have f3 : L / (Li * a) = c := by rw [hc, Nat.mul_div_cancel_left _ hl0]
    rw [f1, f2, f3, ← Nat.mul_assoc, ← Nat.mul_assoc, Nat.gcd_mul_right]
theorem Q20 {p : List Tm} : Qok (Qbu p) p = Qec p := by
  have h := Qwk (p := p) rfl p.length (Nat.le_refl _)
  have h2 := (Qmo p p.length (Nat.le_refl _)).l0
  rw [List.take_length] at h h2
  rw [h, Nat.div_self h2, Nat.mul_one]
theorem Qsl {p : List Tm} (hz : NZ p) (h0 : p ≠ []) : Qec p ≠ 0 := by
  have hd : ∀ (l : List Tm) (g : Nat), l.foldl (fun g t => Nat.gcd g t.1.num.natAbs) g ∣ g ∧ ∀ t ∈ l, l.foldl (fun g t => Nat.gcd g t.1.num.natAbs) g ∣ t.1.num.natAbs := by
    intro l
    induction l with
    | nil => intro g; simp
    | cons t l ih =>
      intro g
      obtain ⟨h1, h2⟩ := ih (Nat.gcd g t.1.num.natAbs)
      refine ⟨Nat.dvd_trans h1 (Nat.gcd_dvd_left _ _), fun s hs => ?_⟩
      rcases List.mem_cons.1 hs with rfl | hs
      · exact Nat.dvd_trans h1 (Nat.gcd_dvd_right _ _)
      · exact h2 s hs
  obtain ⟨t, ht⟩ := List.exists_mem_of_ne_nil p h0
  have h2 := (hd p 0).2 t ht
  intro h
  rw [show List.foldl (fun g t => Nat.gcd g t.1.num.natAbs) 0 p = Qec p from rfl, h] at h2
  have h3 := Nat.eq_zero_of_zero_dvd h2
  exact hz t ht (Rat.num_eq_zero.1 (Int.natAbs_eq_zero.1 h3))
theorem Q21 (x y : Nat) : nl (Nat.gcd x y) ≤ max (nl x) (nl y) := by
  rcases Nat.eq_zero_or_pos x with h | h
  · subst h; rw [Nat.gcd_zero_left]; omega
  · have := Qbl (Nat.gcd_le_left y h); omega
theorem Qol {p : List Tm} {K E : Nat} (hp : PB K E p) : ∀ i, i ≤ p.length → nl (Qec (p.take i)) ≤ K
  | 0, _ => by simp [Qec, Qn9]
  | i + 1, h => by
    rw [Qke (by omega)]
    have h1 := Qol hp i (by omega)
    have h2 := Q21 (Qec (p.take i)) p[i].1.num.natAbs
    have h3 := (hp _ (List.getElem_mem (show i < p.length by omega))).c
    unfold rs at h3
    omega
theorem Qom {p : List Tm} {K E : Nat} (hp : PB K E p) : ∀ i, i ≤ p.length → nl (Qbu (p.take i)) ≤ 1 + i * K
  | 0, _ => by simp [Qbu, Qjf]
  | i + 1, h => by
    rw [Qgb (by omega), Nat.succ_mul]
    have h1 := Qom hp i (by omega)
    have h2 := Qex (Qbu (p.take i)) (p[i].1.den / Nat.gcd (Qbu (p.take i)) p[i].1.den)
    have h3 := (hp _ (List.getElem_mem (show i < p.length by omega))).c
    have h4 := Qqt p[i].1.den (Nat.gcd (Qbu (p.take i)) p[i].1.den)
    unfold rs at h3
    omega
def Qdb (p : List Tm) : Rat := ((if (p.headD (0, [])).1 < 0 then -(Qbu p : Int) else (Qbu p : Int) : Int) : Rat) / ((Qec p : Int) : Rat)
theorem Q22 (x y : Int) (hy : y ≠ 0) : rs ((x : Rat) / (y : Rat)) ≤ max (nl x.natAbs) (max (nl y.natAbs) 1) := by
  rw [← Qri x y hy]
  have := Qlz (zv (decide (x < 0) != decide (y < 0)) (dig x.natAbs)) y.natAbs
  rwa [Qa6, Qt] at this
theorem Qyp {p : List Tm} {K E : Nat} (hp : PB K E p) (hz : NZ p) (h0 : p ≠ []) : rs (Qdb p) ≤ 1 + p.length * K + K := by
  have h1 := Qol hp p.length (Nat.le_refl _)
  have h2 := Qom hp p.length (Nat.le_refl _)
  rw [List.take_length] at h1 h2
  have h3 := Qsl hz h0
  unfold Qdb
  refine Nat.le_trans (Q22 _ _ (by omega)) ?_
  rw [Int.natAbs_natCast]
  split
  · rw [Int.natAbs_neg, Int.natAbs_natCast]; omega
  · rw [Int.natAbs_natCast]; omega
theorem Qafq (q : Rat) (h : q ≠ 0) : rs q⁻¹ ≤ rs q := by
  have hn : q.num ≠ 0 := fun e => h (Rat.num_eq_zero.1 e)
  have e : q⁻¹ = (((q.den : Int) : Int) : Rat) / ((q.num : Int) : Rat) := by
    have d1 : q = (q.num : Rat) / ((q.den : Int) : Rat) := by
      conv => lhs; rw [← Rat.mkRat_self q]
      rw [Rat.mkRat_eq_div, Rat.intCast_natCast]
    have k1 : ((q.den : Int) : Rat) ≠ 0 := by rw [Ne, Rat.intCast_eq_zero_iff]; have := q.den_nz; omega
    have k3 : ((q.num : Int) : Rat) ≠ 0 := by rw [Ne, Rat.intCast_eq_zero_iff]; exact hn
    generalize (q.num : Rat) = A at *
    generalize ((q.den : Int) : Rat) = D at *
    rw [d1]
    grind
  have h2 := Q22 (q.den : Int) q.num hn
  have h3 := Qvf q
  rw [e]
  unfold rs at h3 ⊢
  unfold rs at h2
  rw [Int.natAbs_natCast] at h2
  have h4 : 1 ≤ nl q.den := by
    have := q.den_nz
    apply Decidable.byContradiction; intro hc
    exact this (Qij.1 (by omega))
  omega
theorem Qxp {c : Rat} {L : Nat} (h : c.den ∣ L) : (c * ((L : Int) : Rat)).num.natAbs = c.num.natAbs * (L / c.den) := by
  obtain ⟨k, rfl⟩ := h
  have hd0 := c.den_nz
  have e : c * (((c.den * k : Nat) : Int) : Rat) = ((c.num * (k : Int) : Int) : Rat) := by
    have d1 : c = (c.num : Rat) / ((c.den : Int) : Rat) := by
      conv => lhs; rw [← Rat.mkRat_self c]
      rw [Rat.mkRat_eq_div, Rat.intCast_natCast]
    have k1 : ((c.den : Int) : Rat) ≠ 0 := by rw [Ne, Rat.intCast_eq_zero_iff]; omega
    rw [Int.natCast_mul, Rat.intCast_mul, Rat.intCast_mul]
    generalize ((c.den : Int) : Rat) = D at *
    generalize (c.num : Rat) = N at *
    rw [d1]
    grind
  rw [e, Rat.num_intCast, Int.natAbs_mul, Int.natAbs_natCast, Nat.mul_div_cancel_left _ (Nat.pos_of_ne_zero hd0)]
end Go.FW
