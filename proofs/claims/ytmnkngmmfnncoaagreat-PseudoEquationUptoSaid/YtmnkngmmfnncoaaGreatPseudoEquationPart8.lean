/- Part 8 of the proof of PseudoEquation: W6, FwUE. Own lemmas; no conditions. -/
import Derived.Test.YtmnkngmmfnncoaaGreatPseudoEquationPart7
set_option linter.unusedSimpArgs false
set_option linter.unnecessarySimpa false
set_option linter.unusedVariables false
namespace Go.Proofs.YtmnkngmmfnncoaaGreat
open Go Go.FW
set_option linter.unusedSimpArgs false
set_option linter.unusedVariables false
set_option maxRecDepth 100000
theorem Qs0 {k : Nat} {a b : List Int} (ha : MB k a) (hb : MB k b) : Qe Tryz.prog 190 [PV.mono a, PV.mono b] (· = .bool (Qhl a b)) := by
 have h1 := ha.len
 have h2 := hb.len
 refine Qg Qk Tryz.func190 rfl Qabj (by simp [Q6l]) fun C hP => ?_; simp only [Q6l]
 simp +decide (disch := first | omega | rfl | (simp +decide only [go_sem, ↓reduceIte] <;> rfl) | fail) only [go_sem, ↓reduceIte]
 refine Qy (by repeat (first | exact Qv | exact Qp | exact Qq | exact Qr | apply Qo | apply Qu | apply Qz | apply Q8 | apply Q9 | apply Qn | apply Qaf)) [(4, 6), (9, 19)] [] (fun n J hp => ∃ i, n = a.length - i /\ i <= a.length /\ (∀ j, j < i -> eN a j <= eN b j) /\ J 9 = .int .i64 (i : Nat)) a.length ?_ ?_
 ·refine ⟨0, rfl, by omega, by omega, ?_⟩
  simp +decide (disch := first | omega | rfl | (simp +decide only [go_sem, ↓reduceIte] <;> rfl) | fail) only [go_sem, ↓reduceIte]
  rfl
 rintro _ J h ⟨i, rfl, hi, hj, h9⟩
 simp +decide (disch := first | omega | rfl | (simp +decide only [go_sem, ↓reduceIte, h9] <;> rfl) | fail) only [go_sem, ↓reduceIte, h9]
 refine Qb (fun hg => ?_) (fun hg => ?_)
 ·have hi' : i < a.length := by omega
  have he := Qc7 hi'
  have hf := Qz9 (b := b) hi'
  generalize hx : a[i] = x at *
  simp +decide (disch := first | omega | rfl | (simp +decide only [go_sem, ↓reduceIte, h9, hx] <;> rfl) | fail) only [go_sem, ↓reduceIte, h9, hx]
  refine Qa hP (Qif (by omega)) rfl rfl rfl ?_
  simp +decide (disch := first | omega | rfl | (simp +decide only [go_sem, ↓reduceIte, h9, hx] <;> rfl) | fail) only [go_sem, ↓reduceIte, h9, hx]
  refine Qb (fun hc => ?_) (fun hc => ?_)
  ·simp +decide (disch := first | omega | rfl | (simp +decide only [go_sem, ↓reduceIte] <;> rfl) | fail) only [go_sem, ↓reduceIte]
   exact Qc (congrArg PV.bool (hf (by omega)).symm) rfl
  ·simp +decide (disch := first | omega | rfl | (simp +decide only [go_sem, ↓reduceIte, h9] <;> rfl) | fail) only [go_sem, ↓reduceIte, h9]
   refine Ql (a.length - (i + 1)) (by omega) ⟨i + 1, rfl, by omega, fun j hji => ?_, ?_⟩
   ·by_cases e : j = i
    ·subst e; omega
    ·exact hj j (by omega)
   ·simp +decide (disch := first | omega | rfl | (simp +decide only [go_sem, ↓reduceIte] <;> rfl) | fail) only [go_sem, ↓reduceIte]
 ·obtain rfl : i = a.length := by omega
  simp +decide (disch := first | omega | rfl | (simp +decide only [go_sem, ↓reduceIte] <;> rfl) | fail) only [go_sem, ↓reduceIte]
  exact Qc (congrArg PV.bool (Q2v hj).symm) rfl
theorem Qxp {x y : Int} (h1 : -9223372036854775808 <= x - y) (h2 : x - y <= 9223372036854775807) : Qe Tryz.prog 192 [.int .i64 x, .int .i64 y] (· = .int .i64 (x - y)) := by
 refine Qg Qk Tryz.func192 rfl Qabl (by simp [Q6n]) fun C hP => ?_; simp only [Q6n]
 simp +decide (disch := first | omega | rfl | (simp +decide only [go_sem, ↓reduceIte] <;> rfl) | fail) only [go_sem, ↓reduceIte]
 exact Qc rfl rfl
theorem Q0a {k : Nat} {a b : List Int} (ha : MB k a) (hb : MB k b) (hk : k <= 1099511627776) : Qe Tryz.prog 138 [PV.mono a, PV.mono b] (· = if Qhl b a = true then .tup [PV.mono (Qio a b), .bool true] else .tup [PV.mono [], .bool false]) := by
 have h1 := ha.len
 have h2 := hb.len
 have hz := Qc5 (· - ·) a b
 refine Qg Qk Tryz.func138 rfl Qabk (by simp [Q6m]) fun C hP => ?_; simp only [Q6m]
 simp +decide (disch := first | omega | rfl | (simp +decide only [go_sem, ↓reduceIte] <;> rfl) | fail) only [go_sem, ↓reduceIte]
 refine Qa hP (Qs0 hb ha) rfl rfl rfl ?_
 cases hd : Qhl b a
 ·simp +decide (disch := first | omega | rfl | (simp +decide only [go_sem, ↓reduceIte] <;> rfl) | fail) only [go_sem, ↓reduceIte]
  exact Qfe rfl rfl rfl Q43 (Qt _)
 ·simp +decide (disch := first | omega | rfl | (simp +decide only [go_sem, ↓reduceIte] <;> rfl) | fail) only [go_sem, ↓reduceIte]
  refine Qa hP (Qlj (f := 192) (g := (· - ·)) (by omega) (by omega) (fun i => Qxp (by have := ha.eN i; have := hb.eN i; omega) (by have := ha.eN i; have := hb.eN i; omega))) rfl rfl rfl ?_
  simp +decide (disch := first | omega | rfl | (simp +decide only [go_sem, ↓reduceIte] <;> rfl) | fail) only [go_sem, ↓reduceIte]
  refine Qa hP (Qpg (by omega)) rfl rfl rfl ?_
  simp +decide (disch := first | omega | rfl | (simp +decide only [go_sem, ↓reduceIte] <;> rfl) | fail) only [go_sem, ↓reduceIte]
  exact Qfe rfl rfl rfl (Qt _) (Qt _)
theorem Qty {x y : Int} (hx : nl x.natAbs < 2 ^ 38) (hy : nl y.natAbs < 2 ^ 38) (h0 : y ≠ 0) : Qe Tryz.prog 146 [PV.zz x, PV.zz y] (· = .tup [PV.rat ((x : Rat) / (y : Rat)), .int .i64 0]) := by
 have hv := Qrz x y h0
 have hr := Qns (n := decide (x < 0) != decide (y < 0)) (a := dig x.natAbs) (d := dig y.natAbs) (Qj _) (Qj _) hx hy
 rw [rv, Qw, hv] at hr
 have hs := Qhu (n := decide (y < 0)) (a := dig y.natAbs) (Qj _) (by show nl _ < _; omega)
 rw [Qe1] at hs
 generalize (x : Rat) / (y : Rat) = Q at *
 refine Qg Qk Tryz.func146 rfl Qaa5 (by simp [Q54]) fun C hP => ?_; simp only [Q54]
 simp +decide (disch := first | omega | rfl | (simp +decide only [go_sem, ↓reduceIte] <;> rfl) | fail) only [go_sem, ↓reduceIte]
 refine Qa hP hs rfl rfl rfl ?_
 simp +decide (disch := first | omega | rfl | (simp +decide only [go_sem, ↓reduceIte] <;> rfl) | fail) only [go_sem, ↓reduceIte]
 refine Qb (fun h => absurd (Qp3.1 h) h0) (fun _ => ?_)
 simp +decide (disch := first | omega | rfl | (simp +decide only [go_sem, ↓reduceIte] <;> rfl) | fail) only [go_sem, ↓reduceIte]
 refine Qa hP hr rfl rfl rfl ?_
 simp +decide (disch := first | omega | rfl | (simp +decide only [go_sem, ↓reduceIte] <;> rfl) | fail) only [go_sem, ↓reduceIte]
 refine Qkc ?_
 simp +decide (disch := first | omega | rfl | (simp +decide only [go_sem, ↓reduceIte] <;> rfl) | fail) only [go_sem, ↓reduceIte]
 exact Qfe rfl rfl rfl (Qt _) (Qt _)
theorem Q2w {n m : Bool} {a d b c : List Nat} {k : Nat} (hp : Raw k n a d) (hq : Raw k m b c) (hk : k < 2 ^ 34) (h0 : rv m b c ≠ 0) : Qe Tryz.prog 139 [PV.rr n a d, PV.rr m b c] (· = .tup [PV.rat (rv n a d / rv m b c), .int .i64 0]) := by
 refine Qg Qk Tryz.func139 rfl Qaa6 (by simp [Q55]) fun C hP => ?_; simp only [Q55]
 simp +decide (disch := first | omega | rfl | (simp +decide only [go_sem, ↓reduceIte] <;> rfl) | fail) only [go_sem, ↓reduceIte]
 refine Qco hP (Qdi hp.la hp.ld hp.k1 hp.sa hp.sd (by omega)) rfl rfl rfl ?_
 rintro _ ⟨n', a', d', rfl, g1, g2, g3, g4, g5, g6⟩
 simp +decide (disch := first | omega | rfl | (simp +decide only [go_sem, ↓reduceIte] <;> rfl) | fail) only [go_sem, ↓reduceIte]
 refine Qco hP (Qdi hq.la hq.ld hq.k1 hq.sa hq.sd (by omega)) rfl rfl rfl ?_
 rintro _ ⟨m', b', c', rfl, e1, e2, e3, e4, e5, e6⟩
 simp +decide (disch := first | omega | rfl | (simp +decide only [go_sem, ↓reduceIte] <;> rfl) | fail) only [go_sem, ↓reduceIte]
 have hza : nl (zv n' a').natAbs <= k := by rw [Qa9]; exact Nat.le_trans (Qah g1) g3
 have hzb : nl (zv m' b').natAbs <= k := by rw [Qa9]; exact Nat.le_trans (Qah e1) e3
 have hvd : nl (val d') <= k := Nat.le_trans (Qah g2) g4
 have hvc : nl (val c') <= k := Nat.le_trans (Qah e2) e4
 have h3 := Qay (zv n' a') (val c')
 have h6 := Qay (zv m' b') (val d')
 rw [Int.natAbs_natCast] at h3 h6
 have hzb0 : zv m' b' ≠ 0 := fun h => h0 (by rw [<- e6, rv, h, Rat.zero_mkRat])
 have hne : zv m' b' * (val d' : Int) ≠ 0 := Int.mul_ne_zero hzb0 (by omega)
 have hfin := Qaf7 (n := n') (a := a') (m := m') (b := b') g5 e5 hzb0
 rw [g6, e6] at hfin
 have hm1 := Qdh (n := n') (m := false) g1 e2 (by omega) (by omega)
 have hm2 := Qdh (n := m') (m := false) e1 g2 (by omega) (by omega)
 rw [Qfq] at hm1 hm2
 refine Qa hP (Qd9 c') rfl rfl rfl ?_
 simp +decide (disch := first | omega | rfl | (simp +decide only [go_sem, ↓reduceIte] <;> rfl) | fail) only [go_sem, ↓reduceIte]
 refine Qa hP hm1 rfl rfl rfl ?_
 simp +decide (disch := first | omega | rfl | (simp +decide only [go_sem, ↓reduceIte] <;> rfl) | fail) only [go_sem, ↓reduceIte]
 refine Qa hP (Qd9 d') rfl rfl rfl ?_
 simp +decide (disch := first | omega | rfl | (simp +decide only [go_sem, ↓reduceIte] <;> rfl) | fail) only [go_sem, ↓reduceIte]
 refine Qa hP hm2 rfl rfl rfl ?_
 generalize zv n' a' * (val c' : Int) = X at *
 generalize zv m' b' * (val d' : Int) = Y at *
 simp +decide (disch := first | omega | rfl | (simp +decide only [go_sem, ↓reduceIte] <;> rfl) | fail) only [go_sem, ↓reduceIte]
 refine Qa hP (Qty (x := X) (y := Y) (by omega) (by omega) hne) rfl rfl rfl ?_
 rw [hfin]
 generalize rv n a d / rv m b c = Q at *
 simp +decide (disch := first | omega | rfl | (simp +decide only [go_sem, ↓reduceIte] <;> rfl) | fail) only [go_sem, ↓reduceIte]
 refine Qkc ?_
 simp +decide (disch := first | omega | rfl | (simp +decide only [go_sem, ↓reduceIte] <;> rfl) | fail) only [go_sem, ↓reduceIte]
 exact Qfe rfl rfl rfl (Qt _) (Qt _)
theorem Qag1 {a b : Rat} {k : Nat} (ha : rs a <= k) (hb : rs b <= k) (hk : k < 2 ^ 34) (h0 : b ≠ 0) : Qe Tryz.prog 139 [PV.rat a, PV.rat b] (· = .tup [PV.rat (a / b), .int .i64 0]) := by
 have := Q2w (Qb9 ha) (Qb9 hb) hk (by rw [Qc0]; exact h0)
 rwa [Qc0, Qc0] at this
theorem Q2x {x : Int} (hx : nl x.natAbs < 2 ^ 40) : Qe Tryz.prog 158 [PV.zz x] (· = PV.zz (-x)) := by
 have hs := Qea (n := !decide (x < 0)) (a := dig x.natAbs) (Qj _) (by show nl _ < _; omega)
 have e : zv (!decide (x < 0)) (dig x.natAbs) = -x := by
  rw [Qgv]; by_cases h : x < 0 <;> simp [h] <;> omega
 rw [e] at hs
 refine Qg Qk Tryz.func158 rfl Qada (by simp [Q8h]) fun C hP => ?_; simp only [Q8h]
 simp +decide (disch := first | omega | rfl | (simp +decide only [go_sem, ↓reduceIte] <;> rfl) | fail) only [go_sem, ↓reduceIte]
 refine Qa hP hs rfl rfl rfl ?_
 simp +decide (disch := first | omega | rfl | (simp +decide only [go_sem, ↓reduceIte] <;> rfl) | fail) only [go_sem, ↓reduceIte]
 refine Qa7 ?_
 simp +decide (disch := first | omega | rfl | (simp +decide only [go_sem, ↓reduceIte] <;> rfl) | fail) only [go_sem, ↓reduceIte]
 exact Qc rfl rfl
theorem Q0b {x y : Int} (hx : nl x.natAbs < 2 ^ 35) (hy : nl y.natAbs < 2 ^ 35) (h0 : y ≠ 0) : Qe Tryz.prog 147 [PV.zz x, PV.zz y] (· = .tup [PV.rat ((x : Rat) / (y : Rat)), .int .i64 0]) := by
 have h3 : (y : Rat) ≠ 0 := by rw [Ne, Rat.intCast_eq_zero_iff]; exact h0
 have hnx : nl (-x).natAbs < 2 ^ 35 := by rw [Int.natAbs_neg]; exact hx
 have o1 := Qg0 (z := x) (D := y.natAbs) (by omega) (by omega)
 have o2 := Qg0 (z := -x) (D := y.natAbs) (by omega) (by omega)
 have e1 : ¬ y < 0 -> mkRat x y.natAbs = (x : Rat) / (y : Rat) := fun h => by
  rw [Rat.mkRat_eq_div, <- Rat.intCast_natCast]
  congr 2; omega
 have e2 : y < 0 -> mkRat (-x) y.natAbs = (x : Rat) / (y : Rat) := fun h => by
  have e : (((y.natAbs : Nat) : Int) : Rat) = - (y : Rat) := by rw [<- Rat.intCast_neg]; congr 1; omega
  rw [Rat.mkRat_eq_div, <- Rat.intCast_natCast, e, Rat.intCast_neg]
  grind
 refine Qg Qk Tryz.func147 rfl Qadf (by simp [Q8m]) fun C hP => ?_; simp only [Q8m]
 simp +decide (disch := first | omega | rfl | (simp +decide only [go_sem, ↓reduceIte] <;> rfl) | fail) only [go_sem, ↓reduceIte]
 refine Qa hP (Qry (by omega)) rfl rfl rfl ?_
 simp +decide (disch := first | omega | rfl | (simp +decide only [go_sem, ↓reduceIte] <;> rfl) | fail) only [go_sem, ↓reduceIte]
 refine Qb (fun h => absurd (Qp3.1 h) h0) (fun _ => ?_)
 simp +decide (disch := first | omega | rfl | (simp +decide only [go_sem, ↓reduceIte] <;> rfl) | fail) only [go_sem, ↓reduceIte]
 refine Qb (fun hn => ?_) (fun hn => ?_)
 ·rw [e2 hn] at o2
  generalize (x : Rat) / (y : Rat) = Q at *
  simp +decide (disch := first | omega | rfl | (simp +decide only [go_sem, ↓reduceIte] <;> rfl) | fail) only [go_sem, ↓reduceIte]
  refine Qa hP (Q2x (x := x) (by omega)) rfl rfl rfl ?_
  simp +decide (disch := first | omega | rfl | (simp +decide only [go_sem, ↓reduceIte] <;> rfl) | fail) only [go_sem, ↓reduceIte]
  refine Qa hP o2 rfl rfl rfl ?_
  simp +decide (disch := first | omega | rfl | (simp +decide only [go_sem, ↓reduceIte] <;> rfl) | fail) only [go_sem, ↓reduceIte]
  refine Qkc ?_
  simp +decide (disch := first | omega | rfl | (simp +decide only [go_sem, ↓reduceIte] <;> rfl) | fail) only [go_sem, ↓reduceIte]
  exact Qfe rfl rfl rfl (Qt _) (Qt _)
 ·rw [e1 hn] at o1
  generalize (x : Rat) / (y : Rat) = Q at *
  simp +decide (disch := first | omega | rfl | (simp +decide only [go_sem, ↓reduceIte] <;> rfl) | fail) only [go_sem, ↓reduceIte]
  refine Qa hP o1 rfl rfl rfl ?_
  simp +decide (disch := first | omega | rfl | (simp +decide only [go_sem, ↓reduceIte] <;> rfl) | fail) only [go_sem, ↓reduceIte]
  refine Qkc ?_
  simp +decide (disch := first | omega | rfl | (simp +decide only [go_sem, ↓reduceIte] <;> rfl) | fail) only [go_sem, ↓reduceIte]
  exact Qfe rfl rfl rfl (Qt _) (Qt _)
theorem Qn5 {x y : Int} (hx : -9223372036854775808 <= x /\ x <= 9223372036854775807) (hy : -9223372036854775808 <= y /\ y <= 9223372036854775807) (h0 : y ≠ 0) : Qe Tryz.prog 71 [.int .i64 x, .int .i64 y] (· = PV.rat ((x : Rat) / (y : Rat))) := by
 have n1 := Qdr (n := x.natAbs) (by omega)
 have n2 := Qdr (n := y.natAbs) (by omega)
 have hm := Q0b (x := x) (y := y) (by omega) (by omega) h0
 generalize (x : Rat) / (y : Rat) = Q at *
 refine Qg Qk Tryz.func71 rfl Qaft (by simp [c71]) fun C hP => ?_; simp only [c71]
 simp +decide (disch := first | omega | rfl | (simp +decide only [go_sem, ↓reduceIte] <;> rfl) | fail) only [go_sem, ↓reduceIte]
 refine Qa hP (Qmv hx.1 hx.2) rfl rfl rfl ?_
 simp +decide (disch := first | omega | rfl | (simp +decide only [go_sem, ↓reduceIte] <;> rfl) | fail) only [go_sem, ↓reduceIte]
 refine Qa hP (Qmv hy.1 hy.2) rfl rfl rfl ?_
 simp +decide (disch := first | omega | rfl | (simp +decide only [go_sem, ↓reduceIte] <;> rfl) | fail) only [go_sem, ↓reduceIte]
 refine Qa hP hm rfl rfl rfl ?_
 simp +decide (disch := first | omega | rfl | (simp +decide only [go_sem, ↓reduceIte] <;> rfl) | fail) only [go_sem, ↓reduceIte]
 refine Qa7 ?_
 simp +decide (disch := first | omega | rfl | (simp +decide only [go_sem, ↓reduceIte] <;> rfl) | fail) only [go_sem, ↓reduceIte]
 exact Qc rfl rfl
end Go.Proofs.YtmnkngmmfnncoaaGreat
namespace Go.FW
open Go
def Qf4 (p : List Tm) : Nat := p.foldl (fun g t => Nat.gcd g t.1.num.natAbs) 0
def Qdw (p : List Tm) : Nat := p.foldl (fun l t => l * (t.1.den / Nat.gcd l t.1.den)) 1
theorem Qn6 {p : List Tm} {i : Nat} (h : i < p.length) : Qf4 (p.take (i + 1)) = Nat.gcd (Qf4 (p.take i)) p[i].1.num.natAbs := by
 rw [List.take_succ_eq_append_getElem h, Qf4, List.foldl_append]; rfl
theorem Qn7 {p : List Tm} {i : Nat} (h : i < p.length) : Qdw (p.take (i + 1)) = Qdw (p.take i) * (p[i].1.den / Nat.gcd (Qdw (p.take i)) p[i].1.den) := by
 rw [List.take_succ_eq_append_getElem h, Qdw, List.foldl_append]; rfl
structure Q8u (G L : Nat) : Prop where
 l0 : 0 < L
 cop : Nat.Coprime G L
theorem Q2y {G L n d : Nat} (h : Q8u G L) (hd : 0 < d) (hc : Nat.Coprime n d) :
  Q8u (Nat.gcd G n) (L * (d / Nat.gcd L d)) /\ Nat.gcd (G * (d / Nat.gcd L d)) (n * (L / Nat.gcd L d)) = Nat.gcd G n := by
 obtain ⟨g, hg⟩ : ∃ g, g = Nat.gcd L d := ⟨_, rfl⟩
 have hg0 : 0 < g := hg ▸ Nat.gcd_pos_of_pos_left d h.l0
 obtain ⟨a, ha⟩ : g ∣ d := hg ▸ Nat.gcd_dvd_right L d
 obtain ⟨b, hb⟩ : g ∣ L := hg ▸ Nat.gcd_dvd_left L d
 have hab : Nat.Coprime a b := by
  have e : Nat.gcd L d = g * Nat.gcd b a := by
   conv => lhs; rw [hb, ha, Nat.gcd_mul_left]
  rw [<- hg] at e
  have : Nat.gcd b a = 1 := by
   apply Nat.eq_of_mul_eq_mul_left hg0
   rw [Nat.mul_one]; exact e.symm
  rw [Nat.Coprime, Nat.gcd_comm]; exact this
 have e1 : d / Nat.gcd L d = a := by rw [<- hg, ha, Nat.mul_div_cancel_left _ hg0]
 have e2 : L / Nat.gcd L d = b := by rw [<- hg, hb, Nat.mul_div_cancel_left _ hg0]
 have hcop := h.cop
 rw [e1, e2]
 have ha0 : 0 < a := Nat.pos_of_mul_pos_left (ha ▸ hd : 0 < g * a)
 have cna : Nat.Coprime n a := Nat.Coprime.coprime_dvd_right ⟨g, by rw [ha, Nat.mul_comm]⟩ hc
 have cGb : Nat.Coprime G b := Nat.Coprime.coprime_dvd_right ⟨g, by rw [hb, Nat.mul_comm]⟩ hcop
 refine ⟨⟨Nat.mul_pos h.l0 ha0, ?_⟩, ?_⟩
 ·refine Nat.Coprime.mul_right ?_ ?_
  ·exact Nat.Coprime.coprime_dvd_left (Nat.gcd_dvd_left G n) hcop
  ·exact Nat.Coprime.coprime_dvd_left (Nat.gcd_dvd_right G n) cna
 ·have c1 : Nat.Coprime a (n * b) := Nat.Coprime.mul_right cna.symm hab
  rw [Nat.mul_comm G a, Nat.Coprime.gcd_mul_left_cancel _ c1, Nat.mul_comm n b, Nat.Coprime.gcd_mul_left_cancel_right _ cGb.symm]
theorem Qadk (q : Rat) : Nat.Coprime q.num.natAbs q.den := q.reduced
theorem Q9c (p : List Tm) : ∀ i, i <= p.length -> Q8u (Qf4 (p.take i)) (Qdw (p.take i))
 | 0, _ => ⟨by simp [Qdw], by simp [Qf4, Qdw, Nat.Coprime]⟩
 | i + 1, h => by
  rw [Qn6 (by omega), Qn7 (by omega)]
  exact (Q2y (Q9c p i (by omega)) (Nat.pos_of_ne_zero p[i].1.den_nz) (Qadk _)).1
theorem Qym {p : List Tm} (hz : NZ p) (h0 : p ≠ []) : Qf4 p ≠ 0 := by
 have hd : ∀ (l : List Tm) (g : Nat), l.foldl (fun g t => Nat.gcd g t.1.num.natAbs) g ∣ g /\ ∀ t ∈ l, l.foldl (fun g t => Nat.gcd g t.1.num.natAbs) g ∣ t.1.num.natAbs := by
  intro l
  induction l with
  | nil => intro g; simp
  | cons t l ih =>
   intro g
   obtain ⟨h1, h2⟩ := ih (Nat.gcd g t.1.num.natAbs)
   refine ⟨Nat.dvd_trans h1 (Nat.gcd_dvd_left _ _), fun s hs => ?_⟩
   rcases List.mem_cons.1 hs with rfl | hs
   ·exact Nat.dvd_trans h1 (Nat.gcd_dvd_right _ _)
   ·exact h2 s hs
 obtain ⟨t, ht⟩ := List.exists_mem_of_ne_nil p h0
 have h2 := (hd p 0).2 t ht
 intro h
 rw [show List.foldl (fun g t => Nat.gcd g t.1.num.natAbs) 0 p = Qf4 p from rfl, h] at h2
 have h3 := Nat.eq_zero_of_zero_dvd h2
 exact hz t ht (Rat.num_eq_zero.1 (Int.natAbs_eq_zero.1 h3))
theorem Q2z (x y : Nat) : nl (Nat.gcd x y) <= max (nl x) (nl y) := by
 rcases Nat.eq_zero_or_pos x with h | h
 ·subst h; rw [Nat.gcd_zero_left]; omega
 ·have := Qbo (Nat.gcd_le_left y h); omega
theorem Qov {p : List Tm} {K E : Nat} (hp : PB K E p) : ∀ i, i <= p.length -> nl (Qf4 (p.take i)) <= K
 | 0, _ => by simp [Qf4, Qol]
 | i + 1, h => by
  rw [Qn6 (by omega)]
  have h1 := Qov hp i (by omega)
  have h2 := Q2z (Qf4 (p.take i)) p[i].1.num.natAbs
  have h3 := (hp _ (List.getElem_mem (show i < p.length by omega))).c
  unfold rs at h3
  omega
theorem Qow {p : List Tm} {K E : Nat} (hp : PB K E p) : ∀ i, i <= p.length -> nl (Qdw (p.take i)) <= 1 + i * K
 | 0, _ => by simp [Qdw, Qjl]
 | i + 1, h => by
  rw [Qn7 (by omega), Nat.succ_mul]
  have h1 := Qow hp i (by omega)
  have h2 := Qe7 (Qdw (p.take i)) (p[i].1.den / Nat.gcd (Qdw (p.take i)) p[i].1.den)
  have h3 := (hp _ (List.getElem_mem (show i < p.length by omega))).c
  have h4 := Qq4 p[i].1.den (Nat.gcd (Qdw (p.take i)) p[i].1.den)
  unfold rs at h3
  omega
def Qn8 (p : List Tm) : Rat := ((if (p.headD (0, [])).1 < 0 then -(Qdw p : Int) else (Qdw p : Int) : Int) : Rat) / ((Qf4 p : Int) : Rat)
theorem Q20 (x y : Int) (hy : y ≠ 0) : rs ((x : Rat) / (y : Rat)) <= max (nl x.natAbs) (max (nl y.natAbs) 1) := by
 rw [<- Qrz x y hy]
 have := Ql9 (zv (decide (x < 0) != decide (y < 0)) (dig x.natAbs)) y.natAbs
 rwa [Qa9, Qw] at this
theorem Qadl {p : List Tm} {K E : Nat} (hp : PB K E p) (hz : NZ p) (h0 : p ≠ []) : rs (Qn8 p) <= 1 + p.length * K + K := by
 have h1 := Qov hp p.length (Nat.le_refl _)
 have h2 := Qow hp p.length (Nat.le_refl _)
 rw [List.take_length] at h1 h2
 have h3 := Qym hz h0
 unfold Qn8
 refine Nat.le_trans (Q20 _ _ (by omega)) ?_
 rw [Int.natAbs_natCast]
 split
 ·rw [Int.natAbs_neg, Int.natAbs_natCast]; omega
 ·rw [Int.natAbs_natCast]; omega
theorem Qaf8 (q : Rat) (h : q ≠ 0) : rs q⁻¹ <= rs q := by
 have hn : q.num ≠ 0 := fun e => h (Rat.num_eq_zero.1 e)
 have e : q⁻¹ = (((q.den : Int) : Int) : Rat) / ((q.num : Int) : Rat) := by
  have d1 : q = (q.num : Rat) / ((q.den : Int) : Rat) := by
   conv => lhs; rw [<- Rat.mkRat_self q]
   rw [Rat.mkRat_eq_div, Rat.intCast_natCast]
  have k1 : ((q.den : Int) : Rat) ≠ 0 := by rw [Ne, Rat.intCast_eq_zero_iff]; have := q.den_nz; omega
  have k3 : ((q.num : Int) : Rat) ≠ 0 := by rw [Ne, Rat.intCast_eq_zero_iff]; exact hn
  generalize (q.num : Rat) = A at *
  generalize ((q.den : Int) : Rat) = D at *
  rw [d1]
  grind
 have h2 := Q20 (q.den : Int) q.num hn
 have h3 := Qvs q
 rw [e]
 unfold rs at h3 ⊢
 unfold rs at h2
 rw [Int.natAbs_natCast] at h2
 have h4 : 1 <= nl q.den := by
  have := q.den_nz
  apply Decidable.byContradiction; intro hc
  exact this (Qiv.1 (by omega))
 omega
end Go.FW
