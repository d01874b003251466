/- Part 4 of the proof of PseudoEquation: R3, R4, M1, M2, P1, P2, P3, FwQA, FwSD. Own lemmas; no conditions. -/
import Derived.Test.YtmnkngmmfnncoaaGreatPseudoEquationPart3
set_option linter.unusedSimpArgs false
set_option linter.unnecessarySimpa false
set_option linter.unusedVariables false
namespace Go.Proofs.YtmnkngmmfnncoaaGreat
open Go Go.FW
set_option linter.unusedSimpArgs false
set_option linter.unusedVariables false
set_option maxRecDepth 100000
theorem Q2g {n m : Bool} {a d b c : List Nat} {k : Nat} (hp : Raw k n a d) (hq : Raw k m b c) (hk : k < 2 ^ 36) : Qe Tryz.prog 38 [PV.rr n a d, PV.rr m b c] (· = PV.rat (rv n a d * rv m b c)) := by
 refine Qg Qk Tryz.func38 rfl Qafc (by simp [c38]) fun C hP => ?_; simp only [c38]
 simp +decide (disch := first | omega | rfl | (simp +decide only [go_sem, ↓reduceIte] <;> rfl) | fail) only [go_sem, ↓reduceIte]
 refine Qco hP (Qdi hp.la hp.ld hp.k1 hp.sa hp.sd (by omega)) rfl rfl rfl ?_
 rintro _ ⟨n', a', d', rfl, g1, g2, g3, g4, g5, g6⟩
 simp +decide (disch := first | omega | rfl | (simp +decide only [go_sem, ↓reduceIte] <;> rfl) | fail) only [go_sem, ↓reduceIte]
 refine Qco hP (Qdi hq.la hq.ld hq.k1 hq.sa hq.sd (by omega)) rfl rfl rfl ?_
 rintro _ ⟨m', b', c', rfl, e1, e2, e3, e4, e5, e6⟩
 simp +decide (disch := first | omega | rfl | (simp +decide only [go_sem, ↓reduceIte] <;> rfl) | fail) only [go_sem, ↓reduceIte]
 have hza : nl (zv n' a').natAbs <= k := by rw [Qa9]; exact Nat.le_trans (Qah g1) g3
 have hzb : nl (zv m' b').natAbs <= k := by rw [Qa9]; exact Nat.le_trans (Qah e1) e3
 have hvd : nl (val d') <= k := Nat.le_trans (Qah g2) g4
 have hvc : nl (val c') <= k := Nat.le_trans (Qah e2) e4
 have h3 := Qay (zv n' a') (zv m' b')
 have h6 := Qe7 (val d') (val c')
 refine Qa hP (Qdh (n := n') (m := m') g1 e1 (by omega) (by omega)) rfl rfl rfl ?_
 simp +decide (disch := first | omega | rfl | (simp +decide only [go_sem, ↓reduceIte] <;> rfl) | fail) only [go_sem, ↓reduceIte]
 refine Qa hP (Qjn g2 e2 (by omega) (by omega)) rfl rfl rfl ?_
 simp +decide (disch := first | omega | rfl | (simp +decide only [go_sem, ↓reduceIte] <;> rfl) | fail) only [go_sem, ↓reduceIte]
 refine Qa hP (Qix (z := zv n' a' * zv m' b') (Qj _) (by omega) (by show nl _ < _; omega)) rfl rfl rfl ?_
 simp +decide (disch := first | omega | rfl | (simp +decide only [go_sem, ↓reduceIte] <;> rfl) | fail) only [go_sem, ↓reduceIte]
 refine Qa7 ?_
 simp +decide (disch := first | omega | rfl | (simp +decide only [go_sem, ↓reduceIte] <;> rfl) | fail) only [go_sem, ↓reduceIte]
 refine Qc ?_ rfl
 rw [Qw, <- g6, <- e6]
 unfold rv
 rw [Rat.mkRat_mul_mkRat]
theorem Qmo {n : Bool} {a d : List Nat} {k : Nat} (hp : Raw k n a d) (hk : k < 2 ^ 36) : Qe Tryz.prog 36 [PV.rr n a d] (· = .int .i64 (Qdb (rv n a d))) := by
 refine Qg Qk Tryz.func36 rfl Qafa (by simp [c36]) fun C hP => ?_; simp only [c36]
 simp +decide (disch := first | omega | rfl | (simp +decide only [go_sem, ↓reduceIte] <;> rfl) | fail) only [go_sem, ↓reduceIte]
 refine Qco hP (Qdi hp.la hp.ld hp.k1 hp.sa hp.sd (by omega)) rfl rfl rfl ?_
 rintro _ ⟨n', a', d', rfl, g1, g2, g3, g4, g5, g6⟩
 simp +decide (disch := first | omega | rfl | (simp +decide only [go_sem, ↓reduceIte] <;> rfl) | fail) only [go_sem, ↓reduceIte]
 refine Qa hP (Qhu g1 (by omega)) rfl rfl rfl ?_
 simp +decide (disch := first | omega | rfl | (simp +decide only [go_sem, ↓reduceIte] <;> rfl) | fail) only [go_sem, ↓reduceIte]
 exact Qc (by rw [<- g6]; unfold rv; rw [Q12 g5]) rfl
theorem Q2h {n m : Bool} {a d b c : List Nat} {k : Nat} (hp : Raw k n a d) (hq : Raw k m b c) (hk : k < 2 ^ 36) : Qe Tryz.prog 115 [PV.rr n a d, PV.rr m b c] (· = .int .i64 (Qhb (rv n a d) (rv m b c))) := by
 refine Qg Qk Tryz.func115 rfl Qaa3 (by simp [Q52]) fun C hP => ?_; simp only [Q52]
 simp +decide (disch := first | omega | rfl | (simp +decide only [go_sem, ↓reduceIte] <;> rfl) | fail) only [go_sem, ↓reduceIte]
 refine Qa hP (Qmo hp hk) rfl rfl rfl ?_
 simp +decide (disch := first | omega | rfl | (simp +decide only [go_sem, ↓reduceIte] <;> rfl) | fail) only [go_sem, ↓reduceIte]
 refine Qa hP (Qmo hq hk) rfl rfl rfl ?_
 simp +decide (disch := first | omega | rfl | (simp +decide only [go_sem, ↓reduceIte] <;> rfl) | fail) only [go_sem, ↓reduceIte]
 refine Qb (fun h1 => ?_) (fun h1 => ?_)
 ·simp +decide (disch := first | omega | rfl | (simp +decide only [go_sem, ↓reduceIte] <;> rfl) | fail) only [go_sem, ↓reduceIte]
  refine Qb (fun h2 => ?_) (fun h2 => ?_)
  ·simp +decide (disch := first | omega | rfl | (simp +decide only [go_sem, ↓reduceIte] <;> rfl) | fail) only [go_sem, ↓reduceIte]
   exact Qc (by rw [Qvw h2]) rfl
  ·simp +decide (disch := first | omega | rfl | (simp +decide only [go_sem, ↓reduceIte] <;> rfl) | fail) only [go_sem, ↓reduceIte]
   exact Qc (by rw [Q4z (by omega)]) rfl
 simp +decide (disch := first | omega | rfl | (simp +decide only [go_sem, ↓reduceIte] <;> rfl) | fail) only [go_sem, ↓reduceIte]
 refine Qco hP (Qdi hp.la hp.ld hp.k1 hp.sa hp.sd (by omega)) rfl rfl rfl ?_
 rintro _ ⟨n', a', d', rfl, g1, g2, g3, g4, g5, g6⟩
 simp +decide (disch := first | omega | rfl | (simp +decide only [go_sem, ↓reduceIte] <;> rfl) | fail) only [go_sem, ↓reduceIte]
 refine Qco hP (Qdi hq.la hq.ld hq.k1 hq.sa hq.sd (by omega)) rfl rfl rfl ?_
 rintro _ ⟨m', b', c', rfl, e1, e2, e3, e4, e5, e6⟩
 have hza : nl (zv n' a').natAbs <= k := by rw [Qa9]; exact Nat.le_trans (Qah g1) g3
 have hzb : nl (zv m' b').natAbs <= k := by rw [Qa9]; exact Nat.le_trans (Qah e1) e3
 have hvd : nl (val d') <= k := Nat.le_trans (Qah g2) g4
 have hvc : nl (val c') <= k := Nat.le_trans (Qah e2) e4
 have h3 := Qay (zv n' a') (val c')
 have h4 := Qay (zv m' b') (val d')
 rw [Int.natAbs_natCast] at h3 h4
 simp +decide (disch := first | omega | rfl | (simp +decide only [go_sem, ↓reduceIte] <;> rfl) | fail) only [go_sem, ↓reduceIte]
 refine Qa hP (Qd9 _) rfl rfl rfl ?_
 simp +decide (disch := first | omega | rfl | (simp +decide only [go_sem, ↓reduceIte] <;> rfl) | fail) only [go_sem, ↓reduceIte]
 refine Qa hP (Qdh (n := n') (m := false) g1 e2 (by omega) (by omega)) rfl rfl rfl ?_
 simp +decide (disch := first | omega | rfl | (simp +decide only [go_sem, ↓reduceIte] <;> rfl) | fail) only [go_sem, ↓reduceIte]
 refine Qa hP (Qd9 _) rfl rfl rfl ?_
 simp +decide (disch := first | omega | rfl | (simp +decide only [go_sem, ↓reduceIte] <;> rfl) | fail) only [go_sem, ↓reduceIte]
 refine Qa hP (Qdh (n := m') (m := false) e1 g2 (by omega) (by omega)) rfl rfl rfl ?_
 rw [Qfq, Qfq]
 simp +decide (disch := first | omega | rfl | (simp +decide only [go_sem, ↓reduceIte] <;> rfl) | fail) only [go_sem, ↓reduceIte]
 refine Qa hP (Q6a (x := zv n' a' * (val c' : Int)) (y := zv m' b' * (val d' : Int)) (by omega) (by omega)) rfl rfl rfl ?_
 simp +decide (disch := first | omega | rfl | (simp +decide only [go_sem, ↓reduceIte] <;> rfl) | fail) only [go_sem, ↓reduceIte]
 exact Qc (by rw [<- g6, <- e6]; unfold rv; rw [Qx6 g5 e5]) rfl
theorem Q2i {x : Int} (h1 : -9223372036854775808 <= x) (h2 : x <= 9223372036854775807) : Qe Tryz.prog 154 [.int .i64 x] (· = PV.zz x) := by
 refine Qg Qk Tryz.func154 rfl Qaas (by simp [Q5r]) fun C hP => ?_; simp only [Q5r]
 simp +decide (disch := first | omega | rfl | (simp +decide only [go_sem, ↓reduceIte] <;> rfl) | fail) only [go_sem, ↓reduceIte]
 refine Qb (fun hc => ?_) (fun hc => ?_)
 ·obtain ⟨y, hy⟩ : ∃ y : Nat, x = -((y : Int) + 1) := ⟨(-(x + 1)).toNat, by omega⟩
  have e1 : IntKind.i64.wrap (x + 1) = -(y : Int) := by rw [Qgc (by omega) (by omega)]; omega
  have e2 : IntKind.i64.wrap (0 - -(y : Int)) = (y : Int) := by rw [Qgc (by omega) (by omega)]; omega
  have e3 : IntKind.u64.wrap (y : Int) = (y : Int) := Qez (by omega) (by omega)
  have e4 : IntKind.u64.wrap ((y + 1 : Nat) : Int) = ((y + 1 : Nat) : Int) := Qez (by omega) (by omega)
  simp +decide (disch := first | omega | rfl | (simp +decide only [go_sem, ↓reduceIte, e1, e2, e3, e4] <;> rfl) | fail) only [go_sem, ↓reduceIte, e1, e2, e3, e4]
  refine Qa hP (Qli (by omega)) rfl rfl rfl ?_
  simp +decide (disch := first | omega | rfl | (simp +decide only [go_sem, ↓reduceIte] <;> rfl) | fail) only [go_sem, ↓reduceIte]
  refine Qa hP (Qfa true (y + 1)) rfl rfl rfl ?_
  simp +decide (disch := first | omega | rfl | (simp +decide only [go_sem, ↓reduceIte] <;> rfl) | fail) only [go_sem, ↓reduceIte]
  refine Qa7 ?_
  simp +decide (disch := first | omega | rfl | (simp +decide only [go_sem, ↓reduceIte] <;> rfl) | fail) only [go_sem, ↓reduceIte]
  exact Qc (congrArg PV.zz (by simp; omega)) rfl
 ·obtain ⟨y, rfl⟩ : ∃ y : Nat, x = y := ⟨x.toNat, by omega⟩
  simp +decide (disch := first | omega | rfl | (simp +decide only [go_sem, ↓reduceIte] <;> rfl) | fail) only [go_sem, ↓reduceIte]
  refine Qa hP (Qli (by omega)) rfl rfl rfl ?_
  simp +decide (disch := first | omega | rfl | (simp +decide only [go_sem, ↓reduceIte] <;> rfl) | fail) only [go_sem, ↓reduceIte]
  refine Qa hP (Qfa false y) rfl rfl rfl ?_
  simp +decide (disch := first | omega | rfl | (simp +decide only [go_sem, ↓reduceIte] <;> rfl) | fail) only [go_sem, ↓reduceIte]
  refine Qa7 ?_
  simp +decide (disch := first | omega | rfl | (simp +decide only [go_sem, ↓reduceIte] <;> rfl) | fail) only [go_sem, ↓reduceIte]
  exact Qc (congrArg PV.zz (by simp)) rfl
theorem Qie {x : Int} (h1 : -9223372036854775808 <= x) (h2 : x <= 9223372036854775807) : Qe Tryz.prog 79 [.int .i64 x] (· = PV.rat (x : Rat)) := by
 refine Qg Qk Tryz.func79 rfl Qae9 (by simp [c79]) fun C hP => ?_; simp only [c79]
 simp +decide (disch := first | omega | rfl | (simp +decide only [go_sem, ↓reduceIte] <;> rfl) | fail) only [go_sem, ↓reduceIte]
 refine Qa hP (Q2i h1 h2) rfl rfl rfl ?_
 simp +decide (disch := first | omega | rfl | (simp +decide only [go_sem, ↓reduceIte] <;> rfl) | fail) only [go_sem, ↓reduceIte]
 refine Qa hP Qkg rfl rfl rfl ?_
 simp +decide (disch := first | omega | rfl | (simp +decide only [go_sem, ↓reduceIte] <;> rfl) | fail) only [go_sem, ↓reduceIte]
 refine Qa7 ?_
 simp +decide (disch := first | omega | rfl | (simp +decide only [go_sem, ↓reduceIte] <;> rfl) | fail) only [go_sem, ↓reduceIte]
 exact Qc (by rw [PV.rat, Rat.num_intCast, Rat.den_intCast, PV.num, PV.num, Qfx]; rfl) rfl
end Go.Proofs.YtmnkngmmfnncoaaGreat
namespace Go.Proofs.YtmnkngmmfnncoaaGreat
open Go Go.FW
set_option linter.unusedSimpArgs false
set_option linter.unusedVariables false
set_option maxRecDepth 100000
end Go.Proofs.YtmnkngmmfnncoaaGreat
namespace Go.Proofs.YtmnkngmmfnncoaaGreat
open Go Go.FW
set_option linter.unusedSimpArgs false
set_option linter.unusedVariables false
set_option maxRecDepth 100000
theorem Qpg {a : List Int} (hl : a.length < 2 ^ 42) : Qe Tryz.prog 186 [PV.mono a] (· = PV.mono (Qcs a)) := by
 refine Qg Qk Tryz.func186 rfl Qabd (by simp [Q6f]) fun C hP => ?_; simp only [Q6f]
 simp +decide (disch := first | omega | rfl | (simp +decide only [go_sem, ↓reduceIte] <;> rfl) | fail) only [go_sem, ↓reduceIte]
 refine Qy (by repeat (first | exact Qv | exact Qp | exact Qq | exact Qr | apply Qo | apply Qu | apply Qz | apply Q8 | apply Q9 | apply Qn)) [(3, 3), (6, 17)] [] (fun n J hp => n <= a.length /\ Qfr a n = Qcs a /\ J 3 = .int .i64 n /\ hp = hp0) a.length ?_ ?_
 ·refine ⟨Nat.le_refl _, rfl, ?_⟩
  simp +decide (disch := first | omega | rfl | (simp +decide only [go_sem, ↓reduceIte] <;> rfl) | fail) only [go_sem, ↓reduceIte]
 rintro n J _ ⟨hn, hc, h3, rfl⟩
 simp +decide (disch := first | omega | rfl | (simp +decide only [go_sem, ↓reduceIte, h3] <;> rfl) | fail) only [go_sem, ↓reduceIte, h3]
 refine Qar (fun hg => ?_) (fun hg => ?_)
 ·obtain _ | n := n
  ·omega
  have e : ((n + 1 : Nat) : Int) - 1 = n := by omega
  simp only [Qfr] at hc
  simp +decide (disch := first | omega | rfl | (simp +decide only [go_sem, ↓reduceIte, h3, e] <;> rfl) | fail) only [go_sem, ↓reduceIte, h3, e]
  refine Qb (fun hz => ?_) (fun hz => ?_)
  ·rw [if_pos (by simp [hz, show n < a.length by omega])] at hc
   simp +decide (disch := first | omega | rfl | (simp +decide only [go_sem, ↓reduceIte, h3, e] <;> rfl) | fail) only [go_sem, ↓reduceIte, h3, e]
   refine Ql n (by omega) ⟨by omega, hc, ?_⟩
   simp +decide (disch := first | omega | rfl | (simp +decide only [go_sem, ↓reduceIte] <;> rfl) | fail) only [go_sem, ↓reduceIte]
  ·rw [if_neg (by simpa [show n < a.length by omega] using hz)] at hc
   simp +decide (disch := first | omega | rfl | (simp +decide only [go_sem, ↓reduceIte, h3, e] <;> rfl) | fail) only [go_sem, ↓reduceIte, h3, e]
   refine Qb (fun h => by omega) (fun h => ?_)
   simp +decide (disch := first | omega | rfl | (simp +decide only [go_sem, ↓reduceIte, h3, e] <;> rfl) | fail) only [go_sem, ↓reduceIte, h3, e]
   exact Qc (congrArg PV.mono hc) rfl
 ·obtain rfl : n = 0 := by omega
  simp +decide (disch := first | omega | rfl | (simp +decide only [go_sem, ↓reduceIte, h3] <;> rfl) | fail) only [go_sem, ↓reduceIte, h3]
  exact Qc3 (Qte (by rw [<- hc]; rfl)) rfl
theorem Qm0 {a : List Int} (hl : a.length <= 1048576) (hb : ∀ x ∈ a, 0 <= x /\ x <= 1099511627776) : Qe Tryz.prog 193 [PV.mono a] (· = .int .i64 (Qf3 a)) := by
 refine Qg Qk Tryz.func193 rfl Qabe (by simp [Q6g]) fun C hP => ?_; simp only [Q6g]
 simp +decide (disch := first | omega | rfl | (simp +decide only [go_sem, ↓reduceIte] <;> rfl) | fail) only [go_sem, ↓reduceIte]
 refine Qy (by repeat (first | exact Qv | exact Qp | exact Qq | exact Qr | apply Qo | apply Qu | apply Qz | apply Q8 | apply Q9 | apply Qn)) [(3, 3), (5, 5), (8, 15)] [] (fun k J hp => ∃ (i : Nat) (s : Int), k = a.length - i /\ i <= a.length /\ 0 <= s /\ s <= 1099511627776 * i /\ s + (a.drop i).sum = Qf3 a /\ J 8 = .int .i64 (i : Nat) /\ J 3 = .int .i64 s /\ hp = hp0) a.length ?_ ?_
 ·refine ⟨0, 0, rfl, by omega, by omega, by omega, by simp [Qf3], ?_⟩
  simp +decide (disch := first | omega | rfl | (simp +decide only [go_sem, ↓reduceIte] <;> rfl) | fail) only [go_sem, ↓reduceIte]
  simp
 rintro _ J _ ⟨i, s, rfl, hi, hs0, hs1, hsum, h8, h3, rfl⟩
 simp +decide (disch := first | omega | rfl | (simp +decide only [go_sem, ↓reduceIte, h8, h3] <;> rfl) | fail) only [go_sem, ↓reduceIte, h8, h3]
 refine Qb (fun hg => ?_) (fun hg => ?_)
 ·have hi' : i < a.length := by omega
  have hx := hb _ (List.getElem_mem hi')
  rw [List.drop_eq_getElem_cons hi', List.sum_cons] at hsum
  generalize hxx : a[i] = x at *
  simp +decide (disch := first | omega | rfl | (simp +decide only [go_sem, ↓reduceIte, h8, h3, hxx] <;> rfl) | fail) only [go_sem, ↓reduceIte, h8, h3, hxx]
  refine Ql (a.length - (i + 1)) (by omega) ⟨i + 1, s + x, rfl, by omega, by omega, by push_cast; omega, by omega, ?_⟩
  simp +decide (disch := first | omega | rfl | (simp +decide only [go_sem, ↓reduceIte] <;> rfl) | fail) only [go_sem, ↓reduceIte]
 ·rw [List.drop_of_length_le (by omega), List.sum_nil, Int.add_zero] at hsum
  simp +decide (disch := first | omega | rfl | (simp +decide only [go_sem, ↓reduceIte, h3] <;> rfl) | fail) only [go_sem, ↓reduceIte, h3]
  exact Qc (by rw [hsum]) rfl
theorem Qrd {a : List Int} {v : Int} (hl : a.length < 2 ^ 42) : Qe Tryz.prog 130 [PV.mono a, .int .i64 v] (· = .int .i64 (if v < 0 then 0 else eN a v.toNat)) := by
 refine Qg Qk Tryz.func130 rfl Qabf (by simp [Q6h]) fun C hP => ?_; simp only [Q6h]
 simp +decide (disch := first | omega | rfl | (simp +decide only [go_sem, ↓reduceIte] <;> rfl) | fail) only [go_sem, ↓reduceIte]
 refine Q6 (fun h1 => ?_) (fun h1 => ?_)
 ·simp +decide (disch := first | omega | rfl | (simp +decide only [go_sem, ↓reduceIte] <;> rfl) | fail) only [go_sem, ↓reduceIte]
  exact Qc (by rw [if_pos h1]) rfl
 ·obtain ⟨n, rfl⟩ : ∃ n : Nat, v = n := ⟨v.toNat, by omega⟩
  rw [if_neg h1]
  simp +decide (disch := first | omega | rfl | (simp +decide only [go_sem, ↓reduceIte] <;> rfl) | fail) only [go_sem, ↓reduceIte]
  refine Qb (fun h2 => ?_) (fun h2 => ?_)
  ·simp +decide (disch := first | omega | rfl | (simp +decide only [go_sem, ↓reduceIte] <;> rfl) | fail) only [go_sem, ↓reduceIte]
   exact Qc (by rw [Qck (by omega)]) rfl
  ·have hn : n < a.length := by omega
   simp +decide (disch := first | omega | rfl | (simp +decide only [go_sem, ↓reduceIte] <;> rfl) | fail) only [go_sem, ↓reduceIte]
   exact Qc (by rw [Qc7 hn]) rfl
theorem Qif {a : List Int} {i : Nat} (hl : a.length < 2 ^ 42) : Qe Tryz.prog 130 [PV.mono a, .int .i64 i] (· = .int .i64 (eN a i)) := by
 have := Qrd (v := i) hl
 rwa [if_neg (by omega), Int.toNat_natCast] at this
end Go.Proofs.YtmnkngmmfnncoaaGreat
namespace Go.Proofs.YtmnkngmmfnncoaaGreat
open Go Go.FW
set_option linter.unusedSimpArgs false
set_option linter.unusedVariables false
set_option maxRecDepth 100000
theorem Qlj {a b : List Int} {f : Nat} {g : Int -> Int -> Int} (hla : a.length < 2 ^ 40) (hlb : b.length < 2 ^ 40) (hf : ∀ i, Qe Tryz.prog f [.int .i64 (eN a i), .int .i64 (eN b i)] (· = .int .i64 (g (eN a i) (eN b i)))) :
  Qe Tryz.prog 191 [PV.mono a, PV.mono b, .fn f [] []] (· = PV.mono (Qgf g a b)) := by
 refine Qg Qk Tryz.func191 rfl Qabc (by simp [Q6e]) fun C hP => ?_; simp only [Q6e]
 simp +decide (disch := first | omega | rfl | (simp +decide only [go_sem, ↓reduceIte] <;> rfl) | fail) only [go_sem, ↓reduceIte]
 refine Qy (by repeat (first | exact Qv | exact Qp | exact Qq | exact Qr | apply Qo | apply Qu | apply Qz | apply Q8 | apply Q9 | apply Qn)) [(8, 10), (19, 45)] [] (fun k J hp => ∃ i, k = max a.length b.length - i /\ i <= max a.length b.length /\ J 19 = .int .i64 (i : Nat) /\ hp = Qs hp0 16 ⟨1, 3, Qf2 ((Qgf g a b).take i ++ List.replicate (max a.length b.length - i) 0), false⟩) (max a.length b.length) ?_ ?_
 ·refine ⟨0, rfl, by omega, ?_⟩
  simp +decide (disch := first | omega | rfl | (simp +decide only [go_sem, ↓reduceIte] <;> rfl) | fail) only [go_sem, ↓reduceIte]
  simp
 rintro _ J _ ⟨i, rfl, hi, h19, rfl⟩
 simp +decide (disch := first | omega | rfl | (simp +decide only [go_sem, ↓reduceIte, h19] <;> rfl) | fail) only [go_sem, ↓reduceIte, h19]
 refine Qb (fun hg => ?_) (fun hg => ?_)
 ·have hi' : i < max a.length b.length := by omega
  have hfi := hf i
  have htl : ((Qgf g a b).take i).length = i := by rw [List.length_take, Qc5]; omega
  have hset := fun v => Q13 (v := v) (z := (0 : Int)) htl (show 0 < max a.length b.length - i by omega)
  have hlen : i < ((Qgf g a b).take i ++ List.replicate (max a.length b.length - i) (0 : Int)).length := by rw [List.length_append, htl, List.length_replicate]; omega
  have htk := Q14 (g := g) hi'
  have fin : ∀ x y, x = eN a i -> y = eN b i -> Qe Tryz.prog f [.int .i64 x, .int .i64 y] (· = .int .i64 (g (eN a i) (eN b i))) := by rintro _ _ rfl rfl; exact hfi
  simp +decide (disch := first | omega | rfl | (simp +decide only [go_sem, ↓reduceIte, h19] <;> rfl) | fail) only [go_sem, ↓reduceIte, h19]
  refine Qb (fun h1 => ?_) (fun h1 => ?_)
  ·have h1' : i < a.length := by omega
   simp +decide (disch := first | omega | rfl | (simp +decide only [go_sem, ↓reduceIte, h19] <;> rfl) | fail) only [go_sem, ↓reduceIte, h19]
   refine Qb (fun h2 => ?_) (fun h2 => ?_)
   ·have h2' : i < b.length := by omega
    simp +decide (disch := first | omega | rfl | (simp +decide only [go_sem, ↓reduceIte, h19] <;> rfl) | fail) only [go_sem, ↓reduceIte, h19]
    refine Qa hP (fin _ _ (Qc7 h1').symm (Qc7 h2').symm) rfl rfl rfl ?_
    simp +decide (disch := first | omega | rfl | (simp +decide only [go_sem, ↓reduceIte, h19, hset, <- htk] <;> rfl) | fail) only [go_sem, ↓reduceIte, h19, hset, <- htk]
    refine Ql (max a.length b.length - (i + 1)) (by omega) ⟨i + 1, rfl, by omega, ?_⟩
    simp +decide (disch := first | omega | rfl | (simp +decide only [go_sem, ↓reduceIte, Nat.sub_sub] <;> rfl) | fail) only [go_sem, ↓reduceIte, Nat.sub_sub]
   ·simp +decide (disch := first | omega | rfl | (simp +decide only [go_sem, ↓reduceIte, h19] <;> rfl) | fail) only [go_sem, ↓reduceIte, h19]
    refine Qa hP (fin _ _ (Qc7 h1').symm (Qck (by omega)).symm) rfl rfl rfl ?_
    simp +decide (disch := first | omega | rfl | (simp +decide only [go_sem, ↓reduceIte, h19, hset, <- htk] <;> rfl) | fail) only [go_sem, ↓reduceIte, h19, hset, <- htk]
    refine Ql (max a.length b.length - (i + 1)) (by omega) ⟨i + 1, rfl, by omega, ?_⟩
    simp +decide (disch := first | omega | rfl | (simp +decide only [go_sem, ↓reduceIte, Nat.sub_sub] <;> rfl) | fail) only [go_sem, ↓reduceIte, Nat.sub_sub]
  ·simp +decide (disch := first | omega | rfl | (simp +decide only [go_sem, ↓reduceIte, h19] <;> rfl) | fail) only [go_sem, ↓reduceIte, h19]
   refine Qb (fun h2 => ?_) (fun h2 => by omega)
   have h2' : i < b.length := by omega
   simp +decide (disch := first | omega | rfl | (simp +decide only [go_sem, ↓reduceIte, h19] <;> rfl) | fail) only [go_sem, ↓reduceIte, h19]
   refine Qa hP (fin _ _ (Qck (by omega)).symm (Qc7 h2').symm) rfl rfl rfl ?_
   simp +decide (disch := first | omega | rfl | (simp +decide only [go_sem, ↓reduceIte, h19, hset, <- htk] <;> rfl) | fail) only [go_sem, ↓reduceIte, h19, hset, <- htk]
   refine Ql (max a.length b.length - (i + 1)) (by omega) ⟨i + 1, rfl, by omega, ?_⟩
   simp +decide (disch := first | omega | rfl | (simp +decide only [go_sem, ↓reduceIte, Nat.sub_sub] <;> rfl) | fail) only [go_sem, ↓reduceIte, Nat.sub_sub]
 ·obtain rfl : i = max a.length b.length := by omega
  simp +decide (disch := first | omega | rfl | (simp +decide only [go_sem, ↓reduceIte, Qd, List.contains_cons, List.contains_nil, List.flatMap_cons, List.flatMap_nil, List.append_nil] <;> rfl) | fail) only [go_sem, ↓reduceIte, Qd, List.contains_cons, List.contains_nil, List.flatMap_cons, List.flatMap_nil, List.append_nil]
  exact Qc (by simp [List.take_of_length_le, Qc5]) rfl
theorem Qxd {x y : Int} (h1 : -9223372036854775808 <= x + y) (h2 : x + y <= 9223372036854775807) : Qe Tryz.prog 219 [.int .i64 x, .int .i64 y] (· = .int .i64 (x + y)) := by
 refine Qg Qk Tryz.func219 rfl Qabh (by simp [Q6j]) fun C hP => ?_; simp only [Q6j]
 simp +decide (disch := first | omega | rfl | (simp +decide only [go_sem, ↓reduceIte] <;> rfl) | fail) only [go_sem, ↓reduceIte]
 exact Qc rfl rfl
theorem Qzr {k : Nat} {a b : List Int} (ha : MB k a) (hb : MB k b) (hk : k <= 1099511627776) : Qe Tryz.prog 194 [PV.mono a, PV.mono b] (· = PV.mono (Qat a b)) := by
 have h1 := ha.len
 have h2 := hb.len
 have hz := Qc5 (· + ·) a b
 refine Qg Qk Tryz.func194 rfl Qabg (by simp [Q6i]) fun C hP => ?_; simp only [Q6i]
 simp +decide (disch := first | omega | rfl | (simp +decide only [go_sem, ↓reduceIte] <;> rfl) | fail) only [go_sem, ↓reduceIte]
 refine Qa hP (Qlj (f := 219) (g := (· + ·)) (by omega) (by omega) (fun i => Qxd (by have := ha.eN i; have := hb.eN i; omega) (by have := ha.eN i; have := hb.eN i; omega))) rfl rfl rfl ?_
 simp +decide (disch := first | omega | rfl | (simp +decide only [go_sem, ↓reduceIte] <;> rfl) | fail) only [go_sem, ↓reduceIte]
 refine Qa hP (Qpg (by omega)) rfl rfl rfl ?_
 simp +decide (disch := first | omega | rfl | (simp +decide only [go_sem, ↓reduceIte] <;> rfl) | fail) only [go_sem, ↓reduceIte]
 exact Qc rfl rfl
theorem Qmp {k : Nat} {a b : List Int} {o : Int} (ha : MB k a) (hb : MB k b) (hk : k <= 1099511627776) : Qe Tryz.prog 140 [PV.mono a, PV.mono b, .int .i64 o] (· = .int .i64 (Qfg o a b)) := by
 have h1 := ha.len
 have h2 := hb.len
 have hda : ∀ x ∈ a, 0 <= x /\ x <= 1099511627776 := fun x hx => by have := ha.lo x hx; have := ha.hi x hx; omega
 have hdb : ∀ x ∈ b, 0 <= x /\ x <= 1099511627776 := fun x hx => by have := hb.lo x hx; have := hb.hi x hx; omega
 refine Qg Qk Tryz.func140 rfl Qabi (by simp [Q6k]) fun C hP => ?_; simp only [Q6k]
 simp +decide (disch := first | omega | rfl | (simp +decide only [go_sem, ↓reduceIte] <;> rfl) | fail) only [go_sem, ↓reduceIte]
 refine Qb (fun ho => ?_) (fun ho => ?_)
 ·simp +decide (disch := first | omega | rfl | (simp +decide only [go_sem, ↓reduceIte] <;> rfl) | fail) only [go_sem, ↓reduceIte]
  refine Qa hP (Qm0 (by omega) hda) rfl rfl rfl ?_
  simp +decide (disch := first | omega | rfl | (simp +decide only [go_sem, ↓reduceIte] <;> rfl) | fail) only [go_sem, ↓reduceIte]
  refine Qa hP (Qm0 (by omega) hdb) rfl rfl rfl ?_
  simp +decide (disch := first | omega | rfl | (simp +decide only [go_sem, ↓reduceIte] <;> rfl) | fail) only [go_sem, ↓reduceIte]
  refine Qb (fun hd => ?_) (fun hd => ?_)
  ·have hord : Qfg o a b = Qbr (Qf3 a) (Qf3 b) := by unfold Qfg; rw [if_pos ⟨ho, hd⟩]
   simp +decide (disch := first | omega | rfl | (simp +decide only [go_sem, ↓reduceIte] <;> rfl) | fail) only [go_sem, ↓reduceIte]
   refine Qb (fun h5 => ?_) (fun h5 => ?_)
   ·simp +decide (disch := first | omega | rfl | (simp +decide only [go_sem, ↓reduceIte] <;> rfl) | fail) only [go_sem, ↓reduceIte]
    exact Qc (by rw [hord, Qbr, if_pos h5]) rfl
   ·simp +decide (disch := first | omega | rfl | (simp +decide only [go_sem, ↓reduceIte] <;> rfl) | fail) only [go_sem, ↓reduceIte]
    exact Qc (by rw [hord, Qbr, if_neg h5, if_pos (by omega)]) rfl
  have hord : Qfg o a b = Qae a b := by unfold Qfg; rw [if_neg (fun h => hd h.2)]
  simp +decide (disch := first | omega | rfl | (simp +decide only [go_sem, ↓reduceIte] <;> rfl) | fail) only [go_sem, ↓reduceIte]
  refine Qy (by repeat (first | exact Qv | exact Qp | exact Qq | exact Qr | apply Qo | apply Qu | apply Qz | apply Q8 | apply Q9 | apply Qn)) [(6, 6), (9, 11), (30, 45)] [] (fun n J hp => n <= max a.length b.length /\ Qbw a b n = Qae a b /\ J 9 = .int .i64 ((n : Int) - 1) /\ hp = hp0) (max a.length b.length) ?_ ?_
  ·refine ⟨by omega, rfl, ?_⟩
   simp +decide (disch := first | omega | rfl | (simp +decide only [go_sem, ↓reduceIte] <;> rfl) | fail) only [go_sem, ↓reduceIte]
  rintro n J _ ⟨hn, hc, h9, rfl⟩
  simp +decide (disch := first | omega | rfl | (simp +decide only [go_sem, ↓reduceIte, h9] <;> rfl) | fail) only [go_sem, ↓reduceIte, h9]
  refine Qb (fun hg => ?_) (fun hg => ?_)
  ·obtain _ | n := n
   ·omega
   have e : ((n + 1 : Nat) : Int) - 1 = n := by omega
   rw [Qbw] at hc
   simp +decide (disch := first | omega | rfl | (simp +decide only [go_sem, ↓reduceIte, h9, e] <;> rfl) | fail) only [go_sem, ↓reduceIte, h9, e]
   refine Qa hP (Qif (by omega)) rfl rfl rfl ?_
   simp +decide (disch := first | omega | rfl | (simp +decide only [go_sem, ↓reduceIte, h9, e] <;> rfl) | fail) only [go_sem, ↓reduceIte, h9, e]
   refine Qa hP (Qif (by omega)) rfl rfl rfl ?_
   simp +decide (disch := first | omega | rfl | (simp +decide only [go_sem, ↓reduceIte, h9, e] <;> rfl) | fail) only [go_sem, ↓reduceIte, h9, e]
   refine Qb (fun h4 => ?_) (fun h4 => ?_)
   ·rw [if_neg h4] at hc
    simp +decide (disch := first | omega | rfl | (simp +decide only [go_sem, ↓reduceIte, h9, e] <;> rfl) | fail) only [go_sem, ↓reduceIte, h9, e]
    refine Qb (fun h5 => ?_) (fun h5 => ?_)
    ·simp +decide (disch := first | omega | rfl | (simp +decide only [go_sem, ↓reduceIte, h9, e] <;> rfl) | fail) only [go_sem, ↓reduceIte, h9, e]
     exact Qc (by rw [hord, <- hc, Qbr, if_pos h5]) rfl
    ·simp +decide (disch := first | omega | rfl | (simp +decide only [go_sem, ↓reduceIte, h9, e] <;> rfl) | fail) only [go_sem, ↓reduceIte, h9, e]
     exact Qc (by rw [hord, <- hc, Qbr, if_neg h5, if_pos (by omega)]) rfl
   ·rw [if_pos (by omega)] at hc
    simp +decide (disch := first | omega | rfl | (simp +decide only [go_sem, ↓reduceIte, h9, e] <;> rfl) | fail) only [go_sem, ↓reduceIte, h9, e]
    refine Ql n (by omega) ⟨by omega, hc, ?_⟩
    simp +decide (disch := first | omega | rfl | (simp +decide only [go_sem, ↓reduceIte] <;> rfl) | fail) only [go_sem, ↓reduceIte]
  ·obtain rfl : n = 0 := by omega
   simp +decide (disch := first | omega | rfl | (simp +decide only [go_sem, ↓reduceIte] <;> rfl) | fail) only [go_sem, ↓reduceIte]
   exact Qc (by rw [hord, <- hc]; rfl) rfl
 ·have hord : Qfg o a b = Qae a b := by unfold Qfg; rw [if_neg (fun h => ho h.1)]
  simp +decide (disch := first | omega | rfl | (simp +decide only [go_sem, ↓reduceIte] <;> rfl) | fail) only [go_sem, ↓reduceIte]
  refine Qy (by repeat (first | exact Qv | exact Qp | exact Qq | exact Qr | apply Qo | apply Qu | apply Qz | apply Q8 | apply Q9 | apply Qn)) [(6, 6), (9, 11), (30, 45)] [] (fun n J hp => n <= max a.length b.length /\ Qbw a b n = Qae a b /\ J 9 = .int .i64 ((n : Int) - 1) /\ hp = hp0) (max a.length b.length) ?_ ?_
  ·refine ⟨by omega, rfl, ?_⟩
   simp +decide (disch := first | omega | rfl | (simp +decide only [go_sem, ↓reduceIte] <;> rfl) | fail) only [go_sem, ↓reduceIte]
  rintro n J _ ⟨hn, hc, h9, rfl⟩
  simp +decide (disch := first | omega | rfl | (simp +decide only [go_sem, ↓reduceIte, h9] <;> rfl) | fail) only [go_sem, ↓reduceIte, h9]
  refine Qb (fun hg => ?_) (fun hg => ?_)
  ·obtain _ | n := n
   ·omega
   have e : ((n + 1 : Nat) : Int) - 1 = n := by omega
   rw [Qbw] at hc
   simp +decide (disch := first | omega | rfl | (simp +decide only [go_sem, ↓reduceIte, h9, e] <;> rfl) | fail) only [go_sem, ↓reduceIte, h9, e]
   refine Qa hP (Qif (by omega)) rfl rfl rfl ?_
   simp +decide (disch := first | omega | rfl | (simp +decide only [go_sem, ↓reduceIte, h9, e] <;> rfl) | fail) only [go_sem, ↓reduceIte, h9, e]
   refine Qa hP (Qif (by omega)) rfl rfl rfl ?_
   simp +decide (disch := first | omega | rfl | (simp +decide only [go_sem, ↓reduceIte, h9, e] <;> rfl) | fail) only [go_sem, ↓reduceIte, h9, e]
   refine Qb (fun h4 => ?_) (fun h4 => ?_)
   ·rw [if_neg h4] at hc
    simp +decide (disch := first | omega | rfl | (simp +decide only [go_sem, ↓reduceIte, h9, e] <;> rfl) | fail) only [go_sem, ↓reduceIte, h9, e]
    refine Qb (fun h5 => ?_) (fun h5 => ?_)
    ·simp +decide (disch := first | omega | rfl | (simp +decide only [go_sem, ↓reduceIte, h9, e] <;> rfl) | fail) only [go_sem, ↓reduceIte, h9, e]
     exact Qc (by rw [hord, <- hc, Qbr, if_pos h5]) rfl
    ·simp +decide (disch := first | omega | rfl | (simp +decide only [go_sem, ↓reduceIte, h9, e] <;> rfl) | fail) only [go_sem, ↓reduceIte, h9, e]
     exact Qc (by rw [hord, <- hc, Qbr, if_neg h5, if_pos (by omega)]) rfl
   ·rw [if_pos (by omega)] at hc
    simp +decide (disch := first | omega | rfl | (simp +decide only [go_sem, ↓reduceIte, h9, e] <;> rfl) | fail) only [go_sem, ↓reduceIte, h9, e]
    refine Ql n (by omega) ⟨by omega, hc, ?_⟩
    simp +decide (disch := first | omega | rfl | (simp +decide only [go_sem, ↓reduceIte] <;> rfl) | fail) only [go_sem, ↓reduceIte]
  ·obtain rfl : n = 0 := by omega
   simp +decide (disch := first | omega | rfl | (simp +decide only [go_sem, ↓reduceIte] <;> rfl) | fail) only [go_sem, ↓reduceIte]
   exact Qc (by rw [hord, <- hc]; rfl) rfl
end Go.Proofs.YtmnkngmmfnncoaaGreat
namespace Go.Proofs.YtmnkngmmfnncoaaGreat
open Go Go.FW
set_option linter.unusedSimpArgs false
set_option linter.unusedVariables false
set_option maxRecDepth 100000
theorem Qagx {a b : Rat} {k : Nat} (ha : rs a <= k) (hb : rs b <= k) (hk : k < 2 ^ 36) : Qe Tryz.prog 37 [PV.rat a, PV.rat b] (· = PV.rat (a + b)) := by
 have := Qto (Qb9 ha) (Qb9 hb) hk
 rwa [Qc0, Qc0] at this
theorem Qagy {a b : Rat} {k : Nat} (ha : rs a <= k) (hb : rs b <= k) (hk : k < 2 ^ 36) : Qe Tryz.prog 38 [PV.rat a, PV.rat b] (· = PV.rat (a * b)) := by
 have := Q2g (Qb9 ha) (Qb9 hb) hk
 rwa [Qc0, Qc0] at this
theorem Qagz {a b : Rat} {k : Nat} (ha : rs a <= k) (hb : rs b <= k) (hk : k < 2 ^ 36) : Qe Tryz.prog 115 [PV.rat a, PV.rat b] (· = .int .i64 (Qhb a b)) := by
 have := Q2h (Qb9 ha) (Qb9 hb) hk
 rwa [Qc0, Qc0] at this
theorem Qnt {a : Rat} (ha : rs a < 2 ^ 36) : Qe Tryz.prog 36 [PV.rat a] (· = .int .i64 (Qdb a)) := by
 have := Qmo (Qb9 (Nat.le_refl (rs a))) ha
 rwa [Qc0] at this
theorem Qre {s t : Tm} {E : Nat} (hs : MB E s.2) (ht : MB E t.2) (hE : E <= 2 ^ 38) : Qe Tryz.prog 152 [PV.term s, PV.term t] (· = .int .i64 (Qae s.2 t.2)) := by
 refine Qg Qk Tryz.func152 rfl Qabn (by simp [Q6p]) fun C hP => ?_; simp only [Q6p]
 simp +decide (disch := first | omega | rfl | (simp +decide only [go_sem, ↓reduceIte] <;> rfl) | fail) only [go_sem, ↓reduceIte]
 refine Qa hP (Qmp (o := 0) hs ht (by omega)) rfl rfl rfl ?_
 simp +decide (disch := first | omega | rfl | (simp +decide only [go_sem, ↓reduceIte] <;> rfl) | fail) only [go_sem, ↓reduceIte]
 exact Qc (by rw [Qnq]) rfl
theorem Qwa {s t : Tm} {k : Nat} (hs : rs s.1 <= k) (ht : rs t.1 <= k) (hk : k < 2 ^ 34) : Qe Tryz.prog 153 [PV.term s, PV.term t] (· = .tup [PV.term (s.1 + t.1, s.2), .bool (decide (¬ s.1 + t.1 = 0))]) := by
 have hr := Qq5 s.1 t.1
 refine Qg Qk Tryz.func153 rfl Qabo (by simp [Q6q]) fun C hP => ?_; simp only [Q6q]
 simp +decide (disch := first | omega | rfl | (simp +decide only [go_sem, ↓reduceIte] <;> rfl) | fail) only [go_sem, ↓reduceIte]
 refine Qa hP (Qagx (a := s.1) (b := t.1) hs ht (by omega)) rfl rfl rfl ?_
 simp +decide (disch := first | omega | rfl | (simp +decide only [go_sem, ↓reduceIte] <;> rfl) | fail) only [go_sem, ↓reduceIte]
 refine Qa hP (Qnt (a := s.1 + t.1) (by omega)) rfl rfl rfl ?_
 simp +decide (disch := first | omega | rfl | (simp +decide only [go_sem, ↓reduceIte] <;> rfl) | fail) only [go_sem, ↓reduceIte]
 refine Qkc ?_
 simp +decide (disch := first | omega | rfl | (simp +decide only [go_sem, ↓reduceIte] <;> rfl) | fail) only [go_sem, ↓reduceIte]
 exact Qfe rfl rfl rfl (Qt _) (Qfo (congrArg PV.bool (decide_eq_decide.2 (not_congr Qbg))))
theorem Qm1 {c : Rat} {m : List Int} (hc : rs c < 2 ^ 36) : Qe Tryz.prog 181 [PV.rat c, PV.mono m] (· = PV.poly (if c = 0 then [] else [(c, m)])) := by
 refine Qg Qk Tryz.func181 rfl Qabp (by simp [Q6r]) fun C hP => ?_; simp only [Q6r]
 simp +decide (disch := first | omega | rfl | (simp +decide only [go_sem, ↓reduceIte] <;> rfl) | fail) only [go_sem, ↓reduceIte]
 refine Qa hP (Qnt (a := c) hc) rfl rfl rfl ?_
 simp +decide (disch := first | omega | rfl | (simp +decide only [go_sem, ↓reduceIte] <;> rfl) | fail) only [go_sem, ↓reduceIte]
 refine Qb (fun h0 => ?_) (fun h0 => ?_)
 ·rw [if_pos (Qbg.1 h0)]
  simp +decide (disch := first | omega | rfl | (simp +decide only [go_sem, ↓reduceIte] <;> rfl) | fail) only [go_sem, ↓reduceIte]
  exact Qc3 Qc4 rfl
 ·rw [if_neg (fun h => h0 (Qbg.2 h))]
  simp +decide (disch := first | omega | rfl | (simp +decide only [go_sem, ↓reduceIte, Qd, List.contains_cons, List.contains_nil, List.flatMap_cons, List.flatMap_nil, List.append_nil] <;> rfl) | fail) only [go_sem, ↓reduceIte, Qd, List.contains_cons, List.contains_nil, List.flatMap_cons, List.flatMap_nil, List.append_nil]
  exact Qc rfl rfl
theorem Qwb {p q : List Tm} {K E : Nat} (hp : PB K E p) (hq : PB K E q) (hK : K <= 2 ^ 33) (hE : E <= 2 ^ 38) (hlp : p.length <= 2 ^ 36) (hlq : q.length <= 2 ^ 36) :
  Qe Tryz.prog 151 [PV.poly p, PV.poly q, .fn 152 [] [], .fn 153 [] []] (· = PV.poly (Q3 p q)) := by
 refine Qg Qk Tryz.func151 rfl Qabm (by simp [Q6o]) fun C hP => ?_; simp only [Q6o]
 simp +decide (disch := first | omega | rfl | (simp +decide only [go_sem, ↓reduceIte] <;> rfl) | fail) only [go_sem, ↓reduceIte]
 refine Qy (by repeat (first | exact Qv | exact Qp | exact Qq | exact Qr | apply Qo | apply Qu | apply Qz | apply Q8 | apply Q9 | apply Qn)) [(9, 14), (21, 86)] [13, 20, 57, 58, 71, 72, 83, 84] (fun n J hp => ∃ i k out, n = (p.length - i) + (q.length - k) /\ i <= p.length /\ k <= q.length /\ out.length <= i + k /\ out ++ Q3 (p.drop i) (q.drop k) = Q3 p q /\
  J 9 = .ms 20 out.length /\ J 10 = .int .i64 (i : Nat) /\ J 11 = .int .i64 (k : Nat) /\ hp 20 = some ⟨4, 133, out.map PV.term, false⟩) (p.length + q.length) ?_ ?_
 ·refine ⟨0, 0, [], by omega, by omega, by omega, by simp, rfl, ?_⟩
  simp +decide (disch := first | omega | rfl | (simp +decide only [go_sem, ↓reduceIte] <;> rfl) | fail) only [go_sem, ↓reduceIte]
  simp
 rintro _ J h ⟨i, k, out, rfl, hi, hk, hol, hpad, h9, h10, h11, hh⟩
 simp +decide (disch := first | omega | rfl | (simp +decide only [go_sem, ↓reduceIte, h9, h10, h11] <;> rfl) | fail) only [go_sem, ↓reduceIte, h9, h10, h11]
 refine Qar (fun hg => ?_) (fun hg => ?_)
 ·have hi' : i < p.length := by omega
  simp +decide (disch := first | omega | rfl | (simp +decide only [go_sem, ↓reduceIte, h9, h10, h11] <;> rfl) | fail) only [go_sem, ↓reduceIte, h9, h10, h11]
  refine Qb (fun hg2 => ?_) (fun hg2 => ?_)
  ·have hk' : k < q.length := by omega
   have htp := hp.get hi'
   have htq := hq.get hk'
   rw [Qtf hi' hk'] at hpad
   have c1 := htp.c
   have c2 := htq.c
   generalize hx : p[i] = x at *
   generalize hy : q[k] = y at *
   simp +decide (disch := first | omega | rfl | (simp +decide only [go_sem, ↓reduceIte, h9, h10, h11, hx, hy] <;> rfl) | fail) only [go_sem, ↓reduceIte, h9, h10, h11, hx, hy]
   refine Qa hP (Qre (s := x) (t := y) htp.m htq.m hE) rfl rfl rfl ?_
   simp +decide (disch := first | omega | rfl | (simp +decide only [go_sem, ↓reduceIte, h9, h10, h11, hx, hy] <;> rfl) | fail) only [go_sem, ↓reduceIte, h9, h10, h11, hx, hy]
   refine Qb (fun hc => ?_) (fun hc => ?_)
   ·rw [if_pos hc] at hpad
    simp +decide (disch := first | omega | rfl | (simp +decide only [go_sem, ↓reduceIte, h9, h10, h11, hx, hy] <;> rfl) | fail) only [go_sem, ↓reduceIte, h9, h10, h11, hx, hy]
    rw [Qak (f := PV.term) (y := x) (xs := out) (ty' := 133) (fz := false) (by simp +decide (disch := first | omega | rfl | (simp +decide only [go_sem, ↓reduceIte, hh] <;> rfl) | fail) only [go_sem, ↓reduceIte, hh]) (by simp +decide (disch := first | omega | rfl | (simp +decide only [go_sem, ↓reduceIte] <;> rfl) | fail) only [go_sem, ↓reduceIte] <;> rfl) (by omega) rfl (by omega) (by omega)]
    simp +decide (disch := first | omega | rfl | (simp +decide only [go_sem, ↓reduceIte, h9, h10, h11, hx, hy] <;> rfl) | fail) only [go_sem, ↓reduceIte, h9, h10, h11, hx, hy]
    refine Ql ((p.length - (i + 1)) + (q.length - k)) (by omega) ⟨i + 1, k, out ++ [x], rfl, by omega, hk, by simp; omega, by simpa using hpad, ?_⟩
    simp +decide (disch := first | omega | rfl | (simp +decide only [go_sem, ↓reduceIte, h9, h10, h11] <;> rfl) | fail) only [go_sem, ↓reduceIte, h9, h10, h11]
    simp
   rw [if_neg hc] at hpad
   simp +decide (disch := first | omega | rfl | (simp +decide only [go_sem, ↓reduceIte, h9, h10, h11, hx, hy] <;> rfl) | fail) only [go_sem, ↓reduceIte, h9, h10, h11, hx, hy]
   refine Qb (fun hc2 => ?_) (fun hc2 => ?_)
   ·rw [if_pos hc2] at hpad
    simp +decide (disch := first | omega | rfl | (simp +decide only [go_sem, ↓reduceIte, h9, h10, h11, hx, hy] <;> rfl) | fail) only [go_sem, ↓reduceIte, h9, h10, h11, hx, hy]
    rw [Qak (f := PV.term) (y := y) (xs := out) (ty' := 133) (fz := false) (by simp +decide (disch := first | omega | rfl | (simp +decide only [go_sem, ↓reduceIte, hh] <;> rfl) | fail) only [go_sem, ↓reduceIte, hh]) (by simp +decide (disch := first | omega | rfl | (simp +decide only [go_sem, ↓reduceIte] <;> rfl) | fail) only [go_sem, ↓reduceIte] <;> rfl) (by omega) rfl (by omega) (by omega)]
    simp +decide (disch := first | omega | rfl | (simp +decide only [go_sem, ↓reduceIte, h9, h10, h11, hx, hy] <;> rfl) | fail) only [go_sem, ↓reduceIte, h9, h10, h11, hx, hy]
    refine Ql ((p.length - i) + (q.length - (k + 1))) (by omega) ⟨i, k + 1, out ++ [y], rfl, hi, by omega, by simp; omega, by simpa using hpad, ?_⟩
    simp +decide (disch := first | omega | rfl | (simp +decide only [go_sem, ↓reduceIte, h9, h10, h11] <;> rfl) | fail) only [go_sem, ↓reduceIte, h9, h10, h11]
    simp
   rw [if_neg hc2] at hpad
   simp +decide (disch := first | omega | rfl | (simp +decide only [go_sem, ↓reduceIte, h9, h10, h11, hx, hy] <;> rfl) | fail) only [go_sem, ↓reduceIte, h9, h10, h11, hx, hy]
   refine Qe0 ?_ ?_
   all_goals
    simp +decide (disch := first | omega | rfl | (simp +decide only [go_sem, ↓reduceIte, h9, h10, h11, hx, hy] <;> rfl) | fail) only [go_sem, ↓reduceIte, h9, h10, h11, hx, hy]
    refine Qa hP (Qwa (s := x) (t := y) (k := 2 ^ 33) (by omega) (by omega) (by omega)) rfl rfl rfl ?_
    simp +decide (disch := first | omega | rfl | (simp +decide only [go_sem, ↓reduceIte, h9, h10, h11, hx, hy] <;> rfl) | fail) only [go_sem, ↓reduceIte, h9, h10, h11, hx, hy]
    refine Qb (fun hz => ?_) (fun hz => ?_)
    ·rw [if_neg hz] at hpad
     simp +decide (disch := first | omega | rfl | (simp +decide only [go_sem, ↓reduceIte, h9, h10, h11, hx, hy] <;> rfl) | fail) only [go_sem, ↓reduceIte, h9, h10, h11, hx, hy]
     rw [Qak (f := PV.term) (y := (x.1 + y.1, x.2)) (xs := out) (ty' := 133) (fz := false) (by simp +decide (disch := first | omega | rfl | (simp +decide only [go_sem, ↓reduceIte, hh] <;> rfl) | fail) only [go_sem, ↓reduceIte, hh]) (by simp +decide (disch := first | omega | rfl | (simp +decide only [go_sem, ↓reduceIte] <;> rfl) | fail) only [go_sem, ↓reduceIte] <;> rfl) (by omega) rfl (by omega) (by omega)]
     simp +decide (disch := first | omega | rfl | (simp +decide only [go_sem, ↓reduceIte, h9, h10, h11, hx, hy] <;> rfl) | fail) only [go_sem, ↓reduceIte, h9, h10, h11, hx, hy]
     refine Ql ((p.length - (i + 1)) + (q.length - (k + 1))) (by omega) ⟨i + 1, k + 1, out ++ [(x.1 + y.1, x.2)], rfl, by omega, by omega, by simp; omega, by simpa using hpad, ?_⟩
     simp +decide (disch := first | omega | rfl | (simp +decide only [go_sem, ↓reduceIte, h9, h10, h11] <;> rfl) | fail) only [go_sem, ↓reduceIte, h9, h10, h11]
     simp
    ·rw [if_pos (Decidable.not_not.1 hz)] at hpad
     simp +decide (disch := first | omega | rfl | (simp +decide only [go_sem, ↓reduceIte, h9, h10, h11, hx, hy] <;> rfl) | fail) only [go_sem, ↓reduceIte, h9, h10, h11, hx, hy]
     refine Ql ((p.length - (i + 1)) + (q.length - (k + 1))) (by omega) ⟨i + 1, k + 1, out, rfl, by omega, by omega, by omega, hpad, ?_⟩
     simp +decide (disch := first | omega | rfl | (simp +decide only [go_sem, ↓reduceIte, h9, h10, h11, hh] <;> rfl) | fail) only [go_sem, ↓reduceIte, h9, h10, h11, hh]
  ·have hfin : (out ++ p.drop i ++ q.drop k).take (out.length + (p.drop i).length + (q.drop k).length) = Q3 p q := by
    rw [List.take_of_length_le (by simp; omega), <- hpad, List.drop_of_length_le (by omega : q.length <= k), Qct, List.append_nil]
   simp +decide (disch := first | omega | rfl | (simp +decide only [go_sem, ↓reduceIte, h9, h10, h11] <;> rfl) | fail) only [go_sem, ↓reduceIte, h9, h10, h11]
   rw [Qc8 (f := PV.term) (xs := out) (ys := p.drop i) (by simp +decide (disch := first | omega | rfl | (simp +decide only [go_sem, ↓reduceIte, hh] <;> rfl) | fail) only [go_sem, ↓reduceIte, hh]) rfl (by omega) (by simp; omega) (by simp; omega)]
   simp +decide (disch := first | omega | rfl | (simp +decide only [go_sem, ↓reduceIte, h9, h10, h11] <;> rfl) | fail) only [go_sem, ↓reduceIte, h9, h10, h11]
   rw [Qc8 (f := PV.term) (xs := out ++ p.drop i) (ys := q.drop k) (by simp +decide (disch := first | omega | rfl | (simp +decide only [go_sem, ↓reduceIte] <;> rfl) | fail) only [go_sem, ↓reduceIte]) (by simp) (by omega) (by simp; omega) (by simp; omega)]
   simp +decide (disch := first | omega | rfl | (simp +decide only [go_sem, ↓reduceIte, h9, h10, h11, Qd, List.contains_cons, List.contains_nil, List.flatMap_cons, List.flatMap_nil, List.append_nil] <;> rfl) | fail) only [go_sem, ↓reduceIte, h9, h10, h11, Qd, List.contains_cons, List.contains_nil, List.flatMap_cons, List.flatMap_nil, List.append_nil]
   exact Qc (by rw [<- List.map_take, hfin]) rfl
 ·have hfin : (out ++ p.drop i ++ q.drop k).take (out.length + (p.drop i).length + (q.drop k).length) = Q3 p q := by
   rw [List.take_of_length_le (by simp; omega), <- hpad, List.drop_of_length_le (by omega : p.length <= i), Qfs, List.append_nil]
  simp +decide (disch := first | omega | rfl | (simp +decide only [go_sem, ↓reduceIte, h9, h10, h11] <;> rfl) | fail) only [go_sem, ↓reduceIte, h9, h10, h11]
  rw [Qc8 (f := PV.term) (xs := out) (ys := p.drop i) (by simp +decide (disch := first | omega | rfl | (simp +decide only [go_sem, ↓reduceIte, hh] <;> rfl) | fail) only [go_sem, ↓reduceIte, hh]) rfl (by omega) (by simp; omega) (by simp; omega)]
  simp +decide (disch := first | omega | rfl | (simp +decide only [go_sem, ↓reduceIte, h9, h10, h11] <;> rfl) | fail) only [go_sem, ↓reduceIte, h9, h10, h11]
  rw [Qc8 (f := PV.term) (xs := out ++ p.drop i) (ys := q.drop k) (by simp +decide (disch := first | omega | rfl | (simp +decide only [go_sem, ↓reduceIte] <;> rfl) | fail) only [go_sem, ↓reduceIte]) (by simp) (by omega) (by simp; omega) (by simp; omega)]
  simp +decide (disch := first | omega | rfl | (simp +decide only [go_sem, ↓reduceIte, h9, h10, h11, Qd, List.contains_cons, List.contains_nil, List.flatMap_cons, List.flatMap_nil, List.append_nil] <;> rfl) | fail) only [go_sem, ↓reduceIte, h9, h10, h11, Qd, List.contains_cons, List.contains_nil, List.flatMap_cons, List.flatMap_nil, List.append_nil]
  exact Qc (by rw [<- List.map_take, hfin]) rfl
theorem Qfz {p q : List Tm} {K E : Nat} (hp : PB K E p) (hq : PB K E q) (hK : K <= 2 ^ 33) (hE : E <= 2 ^ 38) (hlp : p.length <= 2 ^ 36) (hlq : q.length <= 2 ^ 36) :
  Qe Tryz.prog 75 [PV.poly p, PV.poly q] (· = PV.poly (Q3 p q)) := by
 refine Qg Qk Tryz.func75 rfl Qafj (by simp [c75]) fun C hP => ?_; simp only [c75]
 simp +decide (disch := first | omega | rfl | (simp +decide only [go_sem, ↓reduceIte] <;> rfl) | fail) only [go_sem, ↓reduceIte]
 refine Qa hP (Qwb hp hq hK hE hlp hlq) rfl rfl rfl ?_
 simp +decide (disch := first | omega | rfl | (simp +decide only [go_sem, ↓reduceIte] <;> rfl) | fail) only [go_sem, ↓reduceIte]
 exact Qc rfl rfl
end Go.Proofs.YtmnkngmmfnncoaaGreat
namespace Go.Proofs.YtmnkngmmfnncoaaGreat
open Go Go.FW
set_option linter.unusedSimpArgs false
set_option linter.unusedVariables false
set_option maxRecDepth 100000
theorem Qrf {K E : Nat} (hE : E <= 2 ^ 38) : ∀ (n : Nat) (l : List (List Tm)), l.length <= n -> (∀ p ∈ l, PB K E p) -> l.length * K <= 2 ^ 33 -> l.length <= 2 ^ 36 -> Qmc l <= 2 ^ 36 -> Qe Tryz.prog 142 [PV.polys l] (· = PV.poly (Qcd l)) := by
 intro n
 induction n with
 | zero =>
  intro l hl _ _ _ _
  have : l = [] := List.length_eq_zero_iff.1 (by omega)
  subst this
  refine Qg Qk Tryz.func142 rfl Qyg (by simp [Qv9]) fun C hP => ?_; simp only [Qv9]
  simp +decide (disch := first | omega | rfl | (simp +decide only [go_sem, ↓reduceIte, List.map_nil, List.length_nil] <;> rfl) | fail) only [go_sem, ↓reduceIte, List.map_nil, List.length_nil]
  exact Qc3 (Qic (by rw [Qcd])) rfl
 | succ n ih =>
  intro l hl hb hK hll hpl
  refine Qg Qk Tryz.func142 rfl Qyg (by simp [Qv9]) fun C hP => ?_; simp only [Qv9]
  simp +decide (disch := first | omega | rfl | (simp +decide only [go_sem, ↓reduceIte] <;> rfl) | fail) only [go_sem, ↓reduceIte]
  refine Qb (fun h0 => ?_) (fun h0 => ?_)
  ·have : l = [] := List.length_eq_zero_iff.1 (by omega)
   subst this
   simp +decide (disch := first | omega | rfl | (simp +decide only [go_sem, ↓reduceIte] <;> rfl) | fail) only [go_sem, ↓reduceIte]
   exact Qc3 (Qic (by rw [Qcd])) rfl
  simp +decide (disch := first | omega | rfl | (simp +decide only [go_sem, ↓reduceIte] <;> rfl) | fail) only [go_sem, ↓reduceIte]
  refine Qb (fun h1 => ?_) (fun h1 => ?_)
  ·obtain ⟨p, rfl⟩ : ∃ p, l = [p] := List.length_eq_one_iff.1 (by omega)
   simp +decide (disch := first | omega | rfl | (simp +decide only [go_sem, ↓reduceIte, List.map_cons, List.map_nil] <;> rfl) | fail) only [go_sem, ↓reduceIte, List.map_cons, List.map_nil]
   exact Qc (by rw [Qcd]; rfl) rfl
  have h2 : 2 <= l.length := by omega
  have hs := Qq7 l (l.length / 2)
  have e : (2 : Int) = ((2 : Nat) : Int) := rfl
  have hq : ∀ d fr hp K, Qa0 .quo false (.int .i64 (l.length : Int)) (.int .i64 2) d fr hp K = K (upd fr d (.int .i64 ((l.length / 2 : Nat) : Int))) hp := fun d fr hp K => by
   rw [e, Qsj (by omega) (by omega)]
  have b1 := Qmd (K := K) (E := E) _ (l.take (l.length / 2)) (Nat.le_refl _) (fun p hp => hb p (List.mem_of_mem_take hp))
  have b2 := Qmd (K := K) (E := E) _ (l.drop (l.length / 2)) (Nat.le_refl _) (fun p hp => hb p (List.mem_of_mem_drop hp))
  have l1 : (l.take (l.length / 2)).length * K <= l.length * K := Nat.mul_le_mul_right _ (by rw [List.length_take]; omega)
  have l2 : (l.drop (l.length / 2)).length * K <= l.length * K := Nat.mul_le_mul_right _ (by rw [List.length_drop]; omega)
  simp +decide (disch := first | omega | rfl | (simp +decide only [go_sem, ↓reduceIte, hq] <;> rfl) | fail) only [go_sem, ↓reduceIte, hq]
  refine Qa hP (ih (l.take (l.length / 2)) (by rw [List.length_take]; omega) (fun p hp => hb p (List.mem_of_mem_take hp)) (by omega) (by rw [List.length_take]; omega) (by omega)) rfl rfl rfl ?_
  simp +decide (disch := first | omega | rfl | (simp +decide only [go_sem, ↓reduceIte, hq] <;> rfl) | fail) only [go_sem, ↓reduceIte, hq]
  refine Qa hP (ih (l.drop (l.length / 2)) (by rw [List.length_drop]; omega) (fun p hp => hb p (List.mem_of_mem_drop hp)) (by omega) (by rw [List.length_drop]; omega) (by omega)) rfl rfl rfl ?_
  simp +decide (disch := first | omega | rfl | (simp +decide only [go_sem, ↓reduceIte, hq] <;> rfl) | fail) only [go_sem, ↓reduceIte, hq]
  refine Qa hP (Qfz (b1.1.mono (K' := l.length * K) l1 (Nat.le_refl _)) (b2.1.mono l2 (Nat.le_refl _)) hK hE (by omega) (by omega)) rfl rfl rfl ?_
  simp +decide (disch := first | omega | rfl | (simp +decide only [go_sem, ↓reduceIte] <;> rfl) | fail) only [go_sem, ↓reduceIte]
  exact Qc (by rw [Qia h2]) rfl
theorem Qxe {p : List Tm} {t : Tm} {i : Nat} (h : i < p.length) : Qap (p.take (i + 1)) t = Qap (p.take i) t ++ (if p[i].1 * t.1 = 0 then [] else [(p[i].1 * t.1, Qat p[i].2 t.2)]) := by
 rw [List.take_succ_eq_append_getElem h, Qap, List.filterMap_append, Qap]
 congr 1
 simp only [List.filterMap_cons, List.filterMap_nil]
 split <;> split <;> simp_all
theorem Qjo {p : List Tm} {t : Tm} {K E : Nat} (hp : PB K E p) (ht : TB K E t) (hK : K <= 2 ^ 33) (hE : E <= 2 ^ 38) (hlp : p.length <= 2 ^ 36) :
  Qe Tryz.prog 141 [PV.poly p, PV.term t] (· = PV.poly (Qap p t)) := by
 refine Qg Qk Tryz.func141 rfl Qabw (by simp [Q6y]) fun C hP => ?_; simp only [Q6y]
 simp +decide (disch := first | omega | rfl | (simp +decide only [go_sem, ↓reduceIte] <;> rfl) | fail) only [go_sem, ↓reduceIte]
 refine Qy (by repeat (first | exact Qv | exact Qp | exact Qq | exact Qr | apply Qo | apply Qu | apply Qz | apply Q8 | apply Q9 | apply Qn)) [(5, 5), (7, 8), (14, 36)] [7, 8, 11, 34, 35] (fun n J hp => ∃ i, n = p.length - i /\ i <= p.length /\ J 5 = .ms 11 (Qap (p.take i) t).length /\ J 14 = .int .i64 (i : Nat) /\ hp 3 = some ⟨4, 133, [PV.term t], false⟩ /\ hp 11 = some ⟨4, 133, (Qap (p.take i) t).map PV.term, false⟩) p.length ?_ ?_
 ·refine ⟨0, rfl, by omega, ?_⟩
  simp +decide (disch := first | omega | rfl | (simp +decide only [go_sem, ↓reduceIte] <;> rfl) | fail) only [go_sem, ↓reduceIte]
  simp [Qap]
 rintro _ J h ⟨i, rfl, hi, h5, h14, hh3, hh11⟩
 simp +decide (disch := first | omega | rfl | (simp +decide only [go_sem, ↓reduceIte, h5, h14] <;> rfl) | fail) only [go_sem, ↓reduceIte, h5, h14]
 refine Qb (fun hg => ?_) (fun hg => ?_)
 ·have hi' : i < p.length := by omega
  have htp := hp.get hi'
  have htk := Qxe (t := t) hi'
  have hlen := Qil (p.take i) t
  rw [List.length_take] at hlen
  have c1 := htp.c
  have c2 := ht.c
  have hrm := Qvt p[i].1 t.1
  generalize hx : p[i] = x at *
  simp +decide (disch := first | omega | rfl | (simp +decide only [go_sem, ↓reduceIte, h5, h14, hh3, hx] <;> rfl) | fail) only [go_sem, ↓reduceIte, h5, h14, hh3, hx]
  refine Qa hP (Qagy (a := x.1) (b := t.1) (k := 2 ^ 33) (by omega) (by omega) (by omega)) rfl rfl rfl ?_
  simp +decide (disch := first | omega | rfl | (simp +decide only [go_sem, ↓reduceIte, h5, h14, hh3, hx] <;> rfl) | fail) only [go_sem, ↓reduceIte, h5, h14, hh3, hx]
  refine Qa hP (Qnt (a := x.1 * t.1) (by omega)) rfl rfl rfl ?_
  simp +decide (disch := first | omega | rfl | (simp +decide only [go_sem, ↓reduceIte, h5, h14, hh3, hx] <;> rfl) | fail) only [go_sem, ↓reduceIte, h5, h14, hh3, hx]
  refine Qb (fun hz => ?_) (fun hz => ?_)
  ·rw [if_neg (fun h => hz (Qbg.2 h))] at htk
   simp +decide (disch := first | omega | rfl | (simp +decide only [go_sem, ↓reduceIte, h5, h14, hh3, hx] <;> rfl) | fail) only [go_sem, ↓reduceIte, h5, h14, hh3, hx]
   refine Qa hP (Qzr htp.m ht.m (by omega)) rfl rfl rfl ?_
   simp +decide (disch := first | omega | rfl | (simp +decide only [go_sem, ↓reduceIte, h5, h14, hh3, hx] <;> rfl) | fail) only [go_sem, ↓reduceIte, h5, h14, hh3, hx]
   rw [Qak (f := PV.term) (y := (x.1 * t.1, Qat x.2 t.2)) (xs := Qap (p.take i) t) (ty' := 133) (fz := false) (by simp +decide (disch := first | omega | rfl | (simp +decide only [go_sem, ↓reduceIte, hh11] <;> rfl) | fail) only [go_sem, ↓reduceIte, hh11]) (by simp +decide (disch := first | omega | rfl | (simp +decide only [go_sem, ↓reduceIte] <;> rfl) | fail) only [go_sem, ↓reduceIte] <;> rfl) (by omega) rfl (by omega) (by omega)]
   rw [<- htk]
   simp +decide (disch := first | omega | rfl | (simp +decide only [go_sem, ↓reduceIte, h5, h14, hh3, hx] <;> rfl) | fail) only [go_sem, ↓reduceIte, h5, h14, hh3, hx]
   refine Ql (p.length - (i + 1)) (by omega) ⟨i + 1, rfl, by omega, ?_⟩
   rw [htk]
   simp +decide (disch := first | omega | rfl | (simp +decide only [go_sem, ↓reduceIte, h5, h14, hh3, List.length_append] <;> rfl) | fail) only [go_sem, ↓reduceIte, h5, h14, hh3, List.length_append]
  ·rw [if_pos (Qbg.1 (Decidable.not_not.1 hz)), List.append_nil] at htk
   simp +decide (disch := first | omega | rfl | (simp +decide only [go_sem, ↓reduceIte, h5, h14, hh3, hx] <;> rfl) | fail) only [go_sem, ↓reduceIte, h5, h14, hh3, hx]
   refine Ql (p.length - (i + 1)) (by omega) ⟨i + 1, rfl, by omega, ?_⟩
   rw [htk]
   simp +decide (disch := first | omega | rfl | (simp +decide only [go_sem, ↓reduceIte, h5, h14, hh3, hh11] <;> rfl) | fail) only [go_sem, ↓reduceIte, h5, h14, hh3, hh11]
 ·obtain rfl : i = p.length := by omega
  rw [List.take_length] at h5 hh11
  simp +decide (disch := first | omega | rfl | (simp +decide only [go_sem, ↓reduceIte, h5, hh11, Qd, List.contains_cons, List.contains_nil, List.flatMap_cons, List.flatMap_nil, List.append_nil] <;> rfl) | fail) only [go_sem, ↓reduceIte, h5, hh11, Qd, List.contains_cons, List.contains_nil, List.flatMap_cons, List.flatMap_nil, List.append_nil]
  exact Qc (by simp [List.take_of_length_le]) rfl
theorem Qb4 {p q : List Tm} {K E : Nat} (hp : PB K E p) (hq : PB K E q) (hE : E <= 2 ^ 37) (hlp : p.length <= 2 ^ 30) (hlq : q.length <= 2 ^ 30) (hlm : p.length * q.length <= 2 ^ 36) (hK : min p.length q.length * (K + K) <= 2 ^ 33) (hK2 : K <= 2 ^ 33) :
  Qe Tryz.prog 68 [PV.poly p, PV.poly q] (· = PV.poly (Qad p q)) := by
 have main : ∀ (p q : List Tm), PB K E p -> PB K E q -> p.length <= 2 ^ 30 -> q.length <= 2 ^ 30 -> p.length * q.length <= 2 ^ 36 -> p.length * (K + K) <= 2 ^ 33 -> p.length <= q.length -> True := fun _ _ _ _ _ _ _ _ _ => trivial
 refine Qg Qk Tryz.func68 rfl Qafk (by simp [c68]) fun C hP => ?_; simp only [c68]
 simp +decide (disch := first | omega | rfl | (simp +decide only [go_sem, ↓reduceIte] <;> rfl) | fail) only [go_sem, ↓reduceIte]
 refine Qb (fun hg => ?_) (fun hg => ?_)
 ·have hfin : Qht q p = Qad p q := by rw [Qad, if_pos (by omega)]
  have hK3 : q.length * (K + K) <= 2 ^ 33 := by rw [Nat.min_eq_right (by omega)] at hK; exact hK
  have hlm2 : q.length * p.length <= 2 ^ 36 := by rw [Nat.mul_comm]; exact hlm
  simp +decide (disch := first | omega | rfl | (simp +decide only [go_sem, ↓reduceIte] <;> rfl) | fail) only [go_sem, ↓reduceIte]
  refine Qy (by repeat (first | exact Qv | exact Qp | exact Qq | exact Qr | apply Qo | apply Qu | apply Qz | apply Q8 | apply Q9 | apply Qn)) [(5, 5), (7, 7), (20, 30)] [7, 17, 28, 29] (fun n J hp => ∃ i, n = q.length - i /\ i <= q.length /\ J 5 = .ms 17 i /\ J 20 = .int .i64 (i : Nat) /\ hp 17 = some ⟨1, 65, ((q.take i).map (Qap p)).map PV.poly, false⟩) q.length ?_ ?_
  ·refine ⟨0, rfl, by omega, ?_⟩
   simp +decide (disch := first | omega | rfl | (simp +decide only [go_sem, ↓reduceIte] <;> rfl) | fail) only [go_sem, ↓reduceIte]
   simp
  rintro _ J h ⟨i, rfl, hi, h5, h20, hh⟩
  simp +decide (disch := first | omega | rfl | (simp +decide only [go_sem, ↓reduceIte, h5, h20] <;> rfl) | fail) only [go_sem, ↓reduceIte, h5, h20]
  refine Qb (fun hg2 => ?_) (fun hg2 => ?_)
  ·have hi' : i < q.length := by omega
   have htp := hq.get hi'
   have htk : (q.take (i + 1)).map (Qap p) = (q.take i).map (Qap p) ++ [Qap p q[i]] := by
    rw [List.take_succ_eq_append_getElem hi', List.map_append]; rfl
   generalize hx : q[i] = x at *
   simp +decide (disch := first | omega | rfl | (simp +decide only [go_sem, ↓reduceIte, h5, h20, hx] <;> rfl) | fail) only [go_sem, ↓reduceIte, h5, h20, hx]
   refine Qa hP (Qjo (t := x) hp htp hK2 (by omega) (by omega)) rfl rfl rfl ?_
   simp +decide (disch := first | omega | rfl | (simp +decide only [go_sem, ↓reduceIte, h5, h20, hx] <;> rfl) | fail) only [go_sem, ↓reduceIte, h5, h20, hx]
   rw [Qak (f := PV.poly) (y := Qap p x) (xs := (q.take i).map (Qap p)) (ty' := 65) (fz := false) (by simp +decide (disch := first | omega | rfl | (simp +decide only [go_sem, ↓reduceIte, hh] <;> rfl) | fail) only [go_sem, ↓reduceIte, hh]) (by simp +decide (disch := first | omega | rfl | (simp +decide only [go_sem, ↓reduceIte] <;> rfl) | fail) only [go_sem, ↓reduceIte] <;> rfl) (by omega) (by simp; omega) (by omega) (by omega)]
   rw [<- htk]
   simp +decide (disch := first | omega | rfl | (simp +decide only [go_sem, ↓reduceIte, h5, h20, hx] <;> rfl) | fail) only [go_sem, ↓reduceIte, h5, h20, hx]
   refine Ql (q.length - (i + 1)) (by omega) ⟨i + 1, rfl, by omega, ?_⟩
   simp +decide (disch := first | omega | rfl | (simp +decide only [go_sem, ↓reduceIte, h5, h20] <;> rfl) | fail) only [go_sem, ↓reduceIte, h5, h20]
  ·obtain rfl : i = q.length := by omega
   rw [List.take_length] at hh
   have hpl := Qhe q p
   simp +decide (disch := first | omega | rfl | (simp +decide only [go_sem, ↓reduceIte, h5, hh] <;> rfl) | fail) only [go_sem, ↓reduceIte, h5, hh]
   refine Qbz hP (Qrf (K := K + K) (E := E + E) (by omega) _ (q.map (Qap p)) (Nat.le_refl _) (fun x hx => by
    obtain ⟨t, ht, rfl⟩ := List.mem_map.1 hx
    exact Qkf hp (hq t ht)) (by rw [List.length_map]; omega) (by rw [List.length_map]; omega) (by omega)) (by simp +decide (disch := first | omega | rfl | (simp +decide only [go_sem, ↓reduceIte, hh, Qd, List.contains_cons, List.contains_nil, List.flatMap_cons, List.flatMap_nil, List.append_nil] <;> rfl) | fail) only [go_sem, ↓reduceIte, hh, Qd, List.contains_cons, List.contains_nil, List.flatMap_cons, List.flatMap_nil, List.append_nil]; simp [List.take_of_length_le]) rfl ?_
   simp +decide (disch := first | omega | rfl | (simp +decide only [go_sem, ↓reduceIte] <;> rfl) | fail) only [go_sem, ↓reduceIte]
   exact Qc (congrArg PV.poly hfin) rfl
 ·have hfin : Qht p q = Qad p q := by rw [Qad, if_neg (by omega)]
  have hK3 : p.length * (K + K) <= 2 ^ 33 := by rw [Nat.min_eq_left (by omega)] at hK; exact hK
  simp +decide (disch := first | omega | rfl | (simp +decide only [go_sem, ↓reduceIte] <;> rfl) | fail) only [go_sem, ↓reduceIte]
  refine Qy (by repeat (first | exact Qv | exact Qp | exact Qq | exact Qr | apply Qo | apply Qu | apply Qz | apply Q8 | apply Q9 | apply Qn)) [(5, 5), (7, 7), (20, 30)] [7, 17, 28, 29] (fun n J hp => ∃ i, n = p.length - i /\ i <= p.length /\ J 5 = .ms 17 i /\ J 20 = .int .i64 (i : Nat) /\ hp 17 = some ⟨1, 65, ((p.take i).map (Qap q)).map PV.poly, false⟩) p.length ?_ ?_
  ·refine ⟨0, rfl, by omega, ?_⟩
   simp +decide (disch := first | omega | rfl | (simp +decide only [go_sem, ↓reduceIte] <;> rfl) | fail) only [go_sem, ↓reduceIte]
   simp
  rintro _ J h ⟨i, rfl, hi, h5, h20, hh⟩
  simp +decide (disch := first | omega | rfl | (simp +decide only [go_sem, ↓reduceIte, h5, h20] <;> rfl) | fail) only [go_sem, ↓reduceIte, h5, h20]
  refine Qb (fun hg2 => ?_) (fun hg2 => ?_)
  ·have hi' : i < p.length := by omega
   have htp := hp.get hi'
   have htk : (p.take (i + 1)).map (Qap q) = (p.take i).map (Qap q) ++ [Qap q p[i]] := by
    rw [List.take_succ_eq_append_getElem hi', List.map_append]; rfl
   generalize hx : p[i] = x at *
   simp +decide (disch := first | omega | rfl | (simp +decide only [go_sem, ↓reduceIte, h5, h20, hx] <;> rfl) | fail) only [go_sem, ↓reduceIte, h5, h20, hx]
   refine Qa hP (Qjo (t := x) hq htp hK2 (by omega) (by omega)) rfl rfl rfl ?_
   simp +decide (disch := first | omega | rfl | (simp +decide only [go_sem, ↓reduceIte, h5, h20, hx] <;> rfl) | fail) only [go_sem, ↓reduceIte, h5, h20, hx]
   rw [Qak (f := PV.poly) (y := Qap q x) (xs := (p.take i).map (Qap q)) (ty' := 65) (fz := false) (by simp +decide (disch := first | omega | rfl | (simp +decide only [go_sem, ↓reduceIte, hh] <;> rfl) | fail) only [go_sem, ↓reduceIte, hh]) (by simp +decide (disch := first | omega | rfl | (simp +decide only [go_sem, ↓reduceIte] <;> rfl) | fail) only [go_sem, ↓reduceIte] <;> rfl) (by omega) (by simp; omega) (by omega) (by omega)]
   rw [<- htk]
   simp +decide (disch := first | omega | rfl | (simp +decide only [go_sem, ↓reduceIte, h5, h20, hx] <;> rfl) | fail) only [go_sem, ↓reduceIte, h5, h20, hx]
   refine Ql (p.length - (i + 1)) (by omega) ⟨i + 1, rfl, by omega, ?_⟩
   simp +decide (disch := first | omega | rfl | (simp +decide only [go_sem, ↓reduceIte, h5, h20] <;> rfl) | fail) only [go_sem, ↓reduceIte, h5, h20]
  ·obtain rfl : i = p.length := by omega
   rw [List.take_length] at hh
   have hpl := Qhe p q
   simp +decide (disch := first | omega | rfl | (simp +decide only [go_sem, ↓reduceIte, h5, hh] <;> rfl) | fail) only [go_sem, ↓reduceIte, h5, hh]
   refine Qbz hP (Qrf (K := K + K) (E := E + E) (by omega) _ (p.map (Qap q)) (Nat.le_refl _) (fun x hx => by
    obtain ⟨t, ht, rfl⟩ := List.mem_map.1 hx
    exact Qkf hq (hp t ht)) (by rw [List.length_map]; omega) (by rw [List.length_map]; omega) (by omega)) (by simp +decide (disch := first | omega | rfl | (simp +decide only [go_sem, ↓reduceIte, hh, Qd, List.contains_cons, List.contains_nil, List.flatMap_cons, List.flatMap_nil, List.append_nil] <;> rfl) | fail) only [go_sem, ↓reduceIte, hh, Qd, List.contains_cons, List.contains_nil, List.flatMap_cons, List.flatMap_nil, List.append_nil]; simp [List.take_of_length_le]) rfl ?_
   simp +decide (disch := first | omega | rfl | (simp +decide only [go_sem, ↓reduceIte] <;> rfl) | fail) only [go_sem, ↓reduceIte]
   exact Qc (congrArg PV.poly hfin) rfl
end Go.Proofs.YtmnkngmmfnncoaaGreat
namespace Go.Proofs.YtmnkngmmfnncoaaGreat
open Go Go.FW
set_option linter.unusedSimpArgs false
set_option linter.unusedVariables false
set_option maxRecDepth 100000
theorem Qjp {p : List Tm} {a : Rat} {K E : Nat} (hp : PB K E p) (ha : rs a + 1 <= K) (hK : K <= 2 ^ 33) (hE : E <= 2 ^ 38) (hlp : p.length <= 2 ^ 36) : Qe Tryz.prog 70 [PV.poly p, PV.rat a] (· = PV.poly (Qc1 p a)) := by
 refine Qg Qk Tryz.func70 rfl Qafl (by simp [c70]) fun C hP => ?_; simp only [c70]
 simp +decide (disch := first | omega | rfl | (simp +decide only [go_sem, ↓reduceIte] <;> rfl) | fail) only [go_sem, ↓reduceIte]
 refine Qa hP (Qnt (a := a) (by omega)) rfl rfl rfl ?_
 simp +decide (disch := first | omega | rfl | (simp +decide only [go_sem, ↓reduceIte] <;> rfl) | fail) only [go_sem, ↓reduceIte]
 refine Qb (fun h0 => ?_) (fun h0 => ?_)
 ·simp +decide (disch := first | omega | rfl | (simp +decide only [go_sem, ↓reduceIte] <;> rfl) | fail) only [go_sem, ↓reduceIte]
  exact Qc3 (Qic (by rw [Qc1, if_pos (Qbg.1 h0)])) rfl
 ·simp +decide (disch := first | omega | rfl | (simp +decide only [go_sem, ↓reduceIte] <;> rfl) | fail) only [go_sem, ↓reduceIte]
  refine Qa hP ((Qjo (t := (a, [])) hp (TB.num ha) hK hE hlp).le (args' := [PV.poly p, .agg [.bool (decide (a.num < 0)), PV.num a.num.natAbs, PV.num a.den, .nilS]]) ⟨Qt _, ⟨rfl, Qey _, Qey _, trivial, trivial⟩, trivial⟩) rfl rfl rfl ?_
  simp +decide (disch := first | omega | rfl | (simp +decide only [go_sem, ↓reduceIte] <;> rfl) | fail) only [go_sem, ↓reduceIte]
  exact Qc (by rw [Qc1, if_neg (fun h => h0 (Qbg.2 h))]) rfl
theorem Qzs {p : List Tm} {K E : Nat} (hp : PB K E p) (hK2 : 2 <= K) (hK : K <= 2 ^ 33) (hE : E <= 2 ^ 38) (hlp : p.length <= 2 ^ 36) : Qe Tryz.prog 182 [PV.poly p] (· = PV.poly (Qmf p)) := by
 have h1 := Q9b
 refine Qg Qk Tryz.func182 rfl Qabu (by simp [Q6w]) fun C hP => ?_; simp only [Q6w]
 simp +decide (disch := first | omega | rfl | (simp +decide only [go_sem, ↓reduceIte] <;> rfl) | fail) only [go_sem, ↓reduceIte]
 refine Qa hP (Qie (x := -1) (by omega) (by omega)) rfl rfl rfl ?_
 simp +decide (disch := first | omega | rfl | (simp +decide only [go_sem, ↓reduceIte] <;> rfl) | fail) only [go_sem, ↓reduceIte]
 refine Qa hP (Qjp (a := ((-1 : Int) : Rat)) hp (by have : ((-1 : Int) : Rat) = -1 := rfl; rw [this]; omega) hK hE hlp) rfl rfl rfl ?_
 simp +decide (disch := first | omega | rfl | (simp +decide only [go_sem, ↓reduceIte] <;> rfl) | fail) only [go_sem, ↓reduceIte]
 exact Qc rfl rfl
theorem Qgy {p q : List Tm} {K E : Nat} (hp : PB K E p) (hq : PB K E q) (hK2 : 2 <= K) (hK : K <= 2 ^ 32) (hE : E <= 2 ^ 38) (hlp : p.length <= 2 ^ 36) (hlq : q.length <= 2 ^ 36) : Qe Tryz.prog 124 [PV.poly p, PV.poly q] (· = PV.poly (Qhf p q)) := by
 have hl := Qf7 q (-1)
 refine Qg Qk Tryz.func124 rfl Qabv (by simp [Q6x]) fun C hP => ?_; simp only [Q6x]
 simp +decide (disch := first | omega | rfl | (simp +decide only [go_sem, ↓reduceIte] <;> rfl) | fail) only [go_sem, ↓reduceIte]
 refine Qa hP (Qzs hq hK2 (by omega) hE hlq) rfl rfl rfl ?_
 simp +decide (disch := first | omega | rfl | (simp +decide only [go_sem, ↓reduceIte] <;> rfl) | fail) only [go_sem, ↓reduceIte]
 refine Qa hP (Qfz (hp.mono (K' := K + 2) (by omega) (Nat.le_refl _)) (Qsr hq) (by omega) hE hlp (by show (Qc1 q (-1)).length <= _; omega)) rfl rfl rfl ?_
 simp +decide (disch := first | omega | rfl | (simp +decide only [go_sem, ↓reduceIte] <;> rfl) | fail) only [go_sem, ↓reduceIte]
 exact Qc rfl rfl
theorem Qzt {n : Bool} {a d : List Nat} {k : Nat} (hp : Raw k n a d) (hk : k < 2 ^ 36) : Qe Tryz.prog 37 [PV.rr n a d, PV.rat ((0 : Int) : Rat)] (· = PV.rat (rv n a d)) := by
 have h0 : rs ((0 : Int) : Rat) <= k := by have := rs_0; have := hp.k1; have e : ((0 : Int) : Rat) = 0 := rfl; rw [e]; omega
 have := Qto hp (Qb9 h0) hk
 rw [Qc0] at this
 have e : rv n a d + ((0 : Int) : Rat) = rv n a d := Rat.add_zero _
 rwa [e] at this
theorem Qwc {n : Bool} {a d : List Nat} {k : Nat} (hp : Raw k n a d) (hk : k < 2 ^ 36) : Qe Tryz.prog 123 [PV.rr n a d] (· = PV.poly (Qd8 (rv n a d))) := by
 have hr := hp.rs
 refine Qg Qk Tryz.func123 rfl Qabq (by simp [Q6s]) fun C hP => ?_; simp only [Q6s]
 simp +decide (disch := first | omega | rfl | (simp +decide only [go_sem, ↓reduceIte] <;> rfl) | fail) only [go_sem, ↓reduceIte]
 refine Qa hP (Qie (x := 0) (by omega) (by omega)) rfl rfl rfl ?_
 simp +decide (disch := first | omega | rfl | (simp +decide only [go_sem, ↓reduceIte] <;> rfl) | fail) only [go_sem, ↓reduceIte]
 refine Qa hP (Qzt hp hk) rfl rfl rfl ?_
 simp +decide (disch := first | omega | rfl | (simp +decide only [go_sem, ↓reduceIte] <;> rfl) | fail) only [go_sem, ↓reduceIte]
 refine Qa hP ((Qm1 (c := rv n a d) (m := []) (by omega)).le (args' := [PV.rat (rv n a d), .nilS]) ⟨Qt _, trivial, trivial⟩) rfl rfl rfl ?_
 simp +decide (disch := first | omega | rfl | (simp +decide only [go_sem, ↓reduceIte] <;> rfl) | fail) only [go_sem, ↓reduceIte]
 exact Qc rfl rfl
theorem Qrg {v : Int} (h1 : -9223372036854775808 <= v) (h2 : v < 9223372036854775807) : Qe Tryz.prog 122 [.int .i64 v] (· = PV.poly (Qa8 v)) := by
 refine Qg Qk Tryz.func122 rfl Qabr (by simp [Q6t]) fun C hP => ?_; simp only [Q6t]
 simp +decide (disch := first | omega | rfl | (simp +decide only [go_sem, ↓reduceIte] <;> rfl) | fail) only [go_sem, ↓reduceIte]
 refine Q6 (fun h => ?_) (fun h => ?_)
 ·simp +decide (disch := first | omega | rfl | (simp +decide only [go_sem, ↓reduceIte] <;> rfl) | fail) only [go_sem, ↓reduceIte]
  exact Qc3 (Qic (by rw [Qa8, if_pos (.inl h)])) rfl
 obtain ⟨n, rfl⟩ : ∃ n : Nat, v = n := ⟨v.toNat, by omega⟩
 simp +decide (disch := first | omega | rfl | (simp +decide only [go_sem, ↓reduceIte] <;> rfl) | fail) only [go_sem, ↓reduceIte]
 refine Qb (fun h => ?_) (fun h => ?_)
 ·simp +decide (disch := first | omega | rfl | (simp +decide only [go_sem, ↓reduceIte] <;> rfl) | fail) only [go_sem, ↓reduceIte]
  exact Qc3 (Qic (by rw [Qa8, if_pos (.inr h)])) rfl
 have hset : (List.replicate (n + 1) (0 : Int)).set n 1 = Qku n := by
  rw [List.replicate_succ', Qku, List.set_append_right _ _ (by simp)]; simp
 have hl : n < (List.replicate (n + 1) (0 : Int)).length := by simp
 have hr := Qsq
 simp +decide (disch := first | omega | rfl | (simp +decide only [go_sem, ↓reduceIte, hset] <;> rfl) | fail) only [go_sem, ↓reduceIte, hset]
 refine Qa hP (Qie (x := 1) (by omega) (by omega)) rfl rfl rfl ?_
 simp +decide (disch := first | omega | rfl | (simp +decide only [go_sem, ↓reduceIte] <;> rfl) | fail) only [go_sem, ↓reduceIte]
 refine Qbz hP (Qm1 (c := ((1 : Int) : Rat)) (m := Qku n) (by have : ((1 : Int) : Rat) = 1 := rfl; rw [this]; omega)) (by simp +decide (disch := first | omega | rfl | (simp +decide only [go_sem, ↓reduceIte, Qd, List.contains_cons, List.contains_nil, List.flatMap_cons, List.flatMap_nil, List.append_nil] <;> rfl) | fail) only [go_sem, ↓reduceIte, Qd, List.contains_cons, List.contains_nil, List.flatMap_cons, List.flatMap_nil, List.append_nil]; simp [Qku, List.take_of_length_le]) rfl ?_
 simp +decide (disch := first | omega | rfl | (simp +decide only [go_sem, ↓reduceIte] <;> rfl) | fail) only [go_sem, ↓reduceIte]
 refine Qc ?_ rfl
 rw [Qa8, if_neg (show ¬ ((n : Int) < 0 ∨ 64 <= (n : Int)) by omega), Int.toNat_natCast]
 rfl
theorem Qxf {s t : Tm} {K E : Nat} (hs : TB K E s) (ht : TB K E t) (hK : K <= 2 ^ 33) (hE : E <= 2 ^ 38) : Qe Tryz.prog 188 [PV.term s, PV.term t] (· = .int .i64 (Qgx s t)) := by
 have c1 := hs.c
 have c2 := ht.c
 refine Qg Qk Tryz.func188 rfl Qabt (by simp [Q6v]) fun C hP => ?_; simp only [Q6v]
 simp +decide (disch := first | omega | rfl | (simp +decide only [go_sem, ↓reduceIte] <;> rfl) | fail) only [go_sem, ↓reduceIte]
 refine Qa hP (Qre (s := s) (t := t) hs.m ht.m hE) rfl rfl rfl ?_
 simp +decide (disch := first | omega | rfl | (simp +decide only [go_sem, ↓reduceIte] <;> rfl) | fail) only [go_sem, ↓reduceIte]
 refine Qb (fun h => ?_) (fun h => ?_)
 ·simp +decide (disch := first | omega | rfl | (simp +decide only [go_sem, ↓reduceIte] <;> rfl) | fail) only [go_sem, ↓reduceIte]
  exact Qc (by rw [Qgx, if_pos h]) rfl
 ·simp +decide (disch := first | omega | rfl | (simp +decide only [go_sem, ↓reduceIte] <;> rfl) | fail) only [go_sem, ↓reduceIte]
  refine Qa hP (Qagz (a := s.1) (b := t.1) (k := 2 ^ 33) (by omega) (by omega) (by omega)) rfl rfl rfl ?_
  simp +decide (disch := first | omega | rfl | (simp +decide only [go_sem, ↓reduceIte] <;> rfl) | fail) only [go_sem, ↓reduceIte]
  exact Qc (by rw [Qgx, if_neg h]) rfl
theorem Qnu {p q : List Tm} {K E : Nat} (hp : PB K E p) (hq : PB K E q) (hK : K <= 2 ^ 33) (hE : E <= 2 ^ 38) (hlp : p.length <= 2 ^ 36) (hlq : q.length <= 2 ^ 36) :
  Qe Tryz.prog 189 [PV.poly p, PV.poly q, .fn 188 [] []] (· = .int .i64 (Qej p q)) := by
 refine Qg Qk Tryz.func189 rfl Qab0 (by simp [Q62]) fun C hP => ?_; simp only [Q62]
 simp +decide (disch := first | omega | rfl | (simp +decide only [go_sem, ↓reduceIte] <;> rfl) | fail) only [go_sem, ↓reduceIte]
 refine Qy (by repeat (first | exact Qv | exact Qp | exact Qq | exact Qr | apply Qo | apply Qu | apply Qz | apply Q8 | apply Q9 | apply Qn)) [(6, 10), (13, 33)] [8, 9] (fun n J hp => ∃ i, n = p.length - i /\ i <= p.length /\ (i <= q.length) /\ Qej (p.drop i) (q.drop i) = Qej p q /\ J 13 = .int .i64 (i : Nat)) p.length ?_ ?_
 ·refine ⟨0, rfl, by omega, by omega, rfl, ?_⟩
  simp +decide (disch := first | omega | rfl | (simp +decide only [go_sem, ↓reduceIte] <;> rfl) | fail) only [go_sem, ↓reduceIte]
  rfl
 rintro _ J h ⟨i, rfl, hi, hi2, hpc, h13⟩
 simp +decide (disch := first | omega | rfl | (simp +decide only [go_sem, ↓reduceIte, h13] <;> rfl) | fail) only [go_sem, ↓reduceIte, h13]
 refine Qb (fun hg => ?_) (fun hg => ?_)
 ·have hi' : i < p.length := by omega
  have htp := hp.get hi'
  have hdp : p.drop i = p[i] :: p.drop (i + 1) := List.drop_eq_getElem_cons hi'
  have hpcd := fun hk => Qth (q := q) hi' hk
  generalize hx : p[i] = x at *
  simp +decide (disch := first | omega | rfl | (simp +decide only [go_sem, ↓reduceIte, h13, hx] <;> rfl) | fail) only [go_sem, ↓reduceIte, h13, hx]
  refine Qb (fun hk => ?_) (fun hk => ?_)
  ·rw [hdp, List.drop_of_length_le (show q.length <= i by omega), Qej] at hpc
   simp +decide (disch := first | omega | rfl | (simp +decide only [go_sem, ↓reduceIte] <;> rfl) | fail) only [go_sem, ↓reduceIte]
   exact Qc (by rw [hpc]) rfl
  ·have hk' : i < q.length := by omega
   have htq := hq.get hk'
   have hpcd := hpcd hk'
   generalize hy : q[i] = y at *
   rw [hpcd] at hpc
   simp +decide (disch := first | omega | rfl | (simp +decide only [go_sem, ↓reduceIte, h13, hx, hy] <;> rfl) | fail) only [go_sem, ↓reduceIte, h13, hx, hy]
   refine Qa hP (Qxf (s := x) (t := y) htp htq hK hE) rfl rfl rfl ?_
   simp +decide (disch := first | omega | rfl | (simp +decide only [go_sem, ↓reduceIte, h13, hx, hy] <;> rfl) | fail) only [go_sem, ↓reduceIte, h13, hx, hy]
   refine Qb (fun hc => ?_) (fun hc => ?_)
   ·rw [if_pos hc] at hpc
    simp +decide (disch := first | omega | rfl | (simp +decide only [go_sem, ↓reduceIte] <;> rfl) | fail) only [go_sem, ↓reduceIte]
    exact Qc (by rw [hpc]) rfl
   ·rw [if_neg hc] at hpc
    simp +decide (disch := first | omega | rfl | (simp +decide only [go_sem, ↓reduceIte, h13] <;> rfl) | fail) only [go_sem, ↓reduceIte, h13]
    refine Ql (p.length - (i + 1)) (by omega) ⟨i + 1, rfl, by omega, by omega, hpc, ?_⟩
    simp +decide (disch := first | omega | rfl | (simp +decide only [go_sem, ↓reduceIte] <;> rfl) | fail) only [go_sem, ↓reduceIte]
 ·obtain rfl : i = p.length := by omega
  rw [List.drop_of_length_le (Nat.le_refl _), Qjm] at hpc
  simp +decide (disch := first | omega | rfl | (simp +decide only [go_sem, ↓reduceIte] <;> rfl) | fail) only [go_sem, ↓reduceIte]
  refine Qb (fun hk => ?_) (fun hk => ?_)
  ·rw [if_neg (by rw [List.length_drop]; omega)] at hpc
   simp +decide (disch := first | omega | rfl | (simp +decide only [go_sem, ↓reduceIte] <;> rfl) | fail) only [go_sem, ↓reduceIte]
   exact Qc (by rw [hpc]) rfl
  ·rw [if_pos (by rw [List.length_drop]; omega)] at hpc
   simp +decide (disch := first | omega | rfl | (simp +decide only [go_sem, ↓reduceIte] <;> rfl) | fail) only [go_sem, ↓reduceIte]
   exact Qc (by rw [hpc]) rfl
theorem Qzu {p q : List Tm} {K E : Nat} (hp : PB K E p) (hq : PB K E q) (hK : K <= 2 ^ 33) (hE : E <= 2 ^ 38) (hlp : p.length <= 2 ^ 36) (hlq : q.length <= 2 ^ 36) : Qe Tryz.prog 136 [PV.poly p, PV.poly q] (· = .int .i64 (Qej p q)) := by
 refine Qg Qk Tryz.func136 rfl Qabs (by simp [Q6u]) fun C hP => ?_; simp only [Q6u]
 simp +decide (disch := first | omega | rfl | (simp +decide only [go_sem, ↓reduceIte] <;> rfl) | fail) only [go_sem, ↓reduceIte]
 refine Qa hP (Qnu hp hq hK hE hlp hlq) rfl rfl rfl ?_
 simp +decide (disch := first | omega | rfl | (simp +decide only [go_sem, ↓reduceIte] <;> rfl) | fail) only [go_sem, ↓reduceIte]
 exact Qc rfl rfl
theorem Qnv {p q : List Tm} {K E : Nat} (hp : PB K E p) (hq : PB K E q) (hK : K <= 2 ^ 33) (hE : E <= 2 ^ 38) (hlp : p.length <= 2 ^ 36) (hlq : q.length <= 2 ^ 36) : Qe Tryz.prog 65 [PV.poly p, PV.poly q] (· = .bool (decide (p = q))) := by
 refine Qg Qk Tryz.func65 rfl Qafi (by simp [c65]) fun C hP => ?_; simp only [c65]
 simp +decide (disch := first | omega | rfl | (simp +decide only [go_sem, ↓reduceIte] <;> rfl) | fail) only [go_sem, ↓reduceIte]
 refine Qa hP (Qzu hp hq hK hE hlp hlq) rfl rfl rfl ?_
 simp +decide (disch := first | omega | rfl | (simp +decide only [go_sem, ↓reduceIte] <;> rfl) | fail) only [go_sem, ↓reduceIte]
 exact Qc (congrArg PV.bool (decide_eq_decide.2 (Qss hp.last hq.last))) rfl
end Go.Proofs.YtmnkngmmfnncoaaGreat
namespace Go.FW
open Go
def pev (φ : List Int -> Rat) : List Tm -> Rat
 | [] => 0
 | t :: p => t.1 * φ t.2 + pev φ p
theorem Qb7 (φ : List Int -> Rat) : pev φ [] = 0 := rfl
theorem Qal (φ : List Int -> Rat) (t : Tm) (p : List Tm) : pev φ (t :: p) = t.1 * φ t.2 + pev φ p := rfl
theorem Qzv (φ : List Int -> Rat) : ∀ (p q : List Tm), pev φ (p ++ q) = pev φ p + pev φ q
 | [], q => by rw [List.nil_append, Qb7]; grind
 | t :: p, q => by rw [List.cons_append, Qal, Qal, Qzv φ p q]; grind
theorem Qb1 {φ ψ : List Int -> Rat} : ∀ {p : List Tm}, (∀ t ∈ p, φ t.2 = ψ t.2) -> pev φ p = pev ψ p
 | [], _ => rfl
 | t :: p, h => by
  rw [Qal, Qal, h t (by simp), Qb1 (p := p) (fun x hx => h x (by simp [hx]))]
theorem Qyh (φ ψ : List Int -> Rat) : ∀ (p : List Tm), pev (fun m => φ m + ψ m) p = pev φ p + pev ψ p
 | [] => by simp only [Qb7]; grind
 | t :: p => by simp only [Qal]; rw [Qyh φ ψ p]; grind
theorem Qwd (c : Rat) (φ : List Int -> Rat) : ∀ (p : List Tm), pev (fun m => c * φ m) p = c * pev φ p
 | [] => by simp only [Qb7]; grind
 | t :: p => by simp only [Qal]; rw [Qwd c φ p]; grind
theorem Qwe : ∀ (p : List Tm), pev (fun _ => 0) p = 0
 | [] => rfl
 | t :: p => by simp only [Qal]; rw [Qwe p]; grind
theorem Qmq (ψ : List Int -> List Int -> Rat) (q : List Tm) : ∀ (p : List Tm), pev (fun m => pev (fun n => ψ m n) q) p = pev (fun n => pev (fun m => ψ m n) p) q
 | [] => by simp only [Qb7]; rw [Qwe]
 | t :: p => by
  simp only [Qal]
  rw [Qmq ψ q p, Qyh (fun n => t.1 * ψ t.2 n), Qwd]
def Can (p : List Tm) : Prop := ∀ t ∈ p, t.2.getLast? ≠ some 0
def NZ (p : List Tm) : Prop := ∀ t ∈ p, t.1 ≠ 0
structure Nrm (p : List Tm) : Prop where
 c : Can p
 z : NZ p
 s : Qa3 p
theorem Can.cons {t : Tm} {p : List Tm} : Can (t :: p) ↔ t.2.getLast? ≠ some 0 /\ Can p := by simp [Can]
theorem NZ.cons {t : Tm} {p : List Tm} : NZ (t :: p) ↔ t.1 ≠ 0 /\ NZ p := by simp [NZ]
theorem Nrm.nil : Nrm [] := ⟨by simp [Can], by simp [NZ], trivial⟩
theorem Nrm.tail {t : Tm} {p : List Tm} (h : Nrm (t :: p)) : Nrm p := ⟨(Can.cons.1 h.c).2, (NZ.cons.1 h.z).2, h.s.2⟩
theorem Nrm.one {t : Tm} (h : t.1 ≠ 0) (hm : t.2.getLast? ≠ some 0) : Nrm [t] := ⟨by simpa [Can] using hm, by simpa [NZ] using h, ⟨by simp, trivial⟩⟩
theorem PVd.nrm {p : List Tm} (h : PVd p) : Nrm p := ⟨fun t ht => Qpc (h.t t ht).m, fun t ht => (h.t t ht).c, h.s⟩
theorem Q2j {E : Nat} {a : List Int} (h : MB E a) (hE : E <= 1048576) (hl : a.getLast? ≠ some 0) : Qb8 a = true := by
 simp only [Qb8, Bool.and_eq_true, decide_eq_true_eq, List.all_eq_true]
 exact ⟨h.len, hl, fun x hx => ⟨h.lo x hx, by have := h.hi x hx; omega⟩⟩
theorem Qe3 {φ : List Int -> Rat} : ∀ {p q : List Tm}, Can p -> Can q -> pev φ (Q3 p q) = pev φ p + pev φ q := by
 intro p q
 induction p, q using Q3.induct with
 | case1 q => rw [Q3, Qb7]; intros; grind
 | case2 p h => rw [Qct, Qb7]; intros; grind
 | case3 c m p d l q h ih =>
  intro hp hq
  rw [Q3, if_pos h, Qal, Qal, ih (Can.cons.1 hp).2 hq]; grind
 | case4 c m p d l q h1 h2 ih =>
  intro hp hq
  rw [Q3, if_neg h1, if_pos h2, Qal, ih hp (Can.cons.1 hq).2, Qal φ (d, l)]; grind
 | case5 c m p d l q h1 h2 h3 ih =>
  intro hp hq
  have e := Qme h1 h2 (Can.cons.1 hp).1 (Can.cons.1 hq).1
  rw [Q3, if_neg h1, if_neg h2, if_pos h3, ih (Can.cons.1 hp).2 (Can.cons.1 hq).2, Qal, Qal]
  subst e
  have : c * φ m + d * φ m = 0 := by rw [<- Rat.add_mul, h3]; grind
  grind
 | case6 c m p d l q h1 h2 h3 ih =>
  intro hp hq
  have e := Qme h1 h2 (Can.cons.1 hp).1 (Can.cons.1 hq).1
  rw [Q3, if_neg h1, if_neg h2, if_neg h3, Qal, ih (Can.cons.1 hp).2 (Can.cons.1 hq).2, Qal, Qal]
  subst e
  grind
theorem Qhh : ∀ {p q : List Tm} {t : Tm}, t ∈ Q3 p q -> (∃ s ∈ p, s.2 = t.2) ∨ (∃ s ∈ q, s.2 = t.2) := by
 intro p q
 induction p, q using Q3.induct with
 | case1 q => rw [Q3]; intro t ht; exact Or.inr ⟨t, ht, rfl⟩
 | case2 p h => rw [Qct]; intro t ht; exact Or.inl ⟨t, ht, rfl⟩
 | case3 c m p d l q h ih =>
  intro t ht
  rw [Q3, if_pos h] at ht
  rcases List.mem_cons.1 ht with rfl | ht
  ·exact Or.inl ⟨_, by simp, rfl⟩
  ·rcases ih ht with ⟨s, h1, h2⟩ | h1
   ·exact Or.inl ⟨s, by simp [h1], h2⟩
   ·exact Or.inr h1
 | case4 c m p d l q h1 h2 ih =>
  intro t ht
  rw [Q3, if_neg h1, if_pos h2] at ht
  rcases List.mem_cons.1 ht with rfl | ht
  ·exact Or.inr ⟨_, by simp, rfl⟩
  ·rcases ih ht with h3 | ⟨s, h3, h4⟩
   ·exact Or.inl h3
   ·exact Or.inr ⟨s, by simp [h3], h4⟩
 | case5 c m p d l q h1 h2 h3 ih =>
  intro t ht
  rw [Q3, if_neg h1, if_neg h2, if_pos h3] at ht
  rcases ih ht with ⟨s, h4, h5⟩ | ⟨s, h4, h5⟩
  ·exact Or.inl ⟨s, by simp [h4], h5⟩
  ·exact Or.inr ⟨s, by simp [h4], h5⟩
 | case6 c m p d l q h1 h2 h3 ih =>
  intro t ht
  rw [Q3, if_neg h1, if_neg h2, if_neg h3] at ht
  rcases List.mem_cons.1 ht with rfl | ht
  ·exact Or.inl ⟨(c, m), by simp, rfl⟩
  ·rcases ih ht with ⟨s, h4, h5⟩ | ⟨s, h4, h5⟩
   ·exact Or.inl ⟨s, by simp [h4], h5⟩
   ·exact Or.inr ⟨s, by simp [h4], h5⟩
theorem Qwf {p q : List Tm} (hp : Can p) (hq : Can q) : Can (Q3 p q) := fun t ht => by
 rcases Qhh ht with ⟨s, h1, h2⟩ | ⟨s, h1, h2⟩
 ·rw [<- h2]; exact hp s h1
 ·rw [<- h2]; exact hq s h1
theorem Qab5 : ∀ {p q : List Tm}, NZ p -> NZ q -> NZ (Q3 p q) := by
 intro p q
 induction p, q using Q3.induct with
 | case1 q => rw [Q3]; exact fun _ h => h
 | case2 p h => rw [Qct]; exact fun h _ => h
 | case3 c m p d l q h ih =>
  intro hp hq
  rw [Q3, if_pos h, NZ.cons]
  exact ⟨(NZ.cons.1 hp).1, ih (NZ.cons.1 hp).2 hq⟩
 | case4 c m p d l q h1 h2 ih =>
  intro hp hq
  rw [Q3, if_neg h1, if_pos h2, NZ.cons]
  exact ⟨(NZ.cons.1 hq).1, ih hp (NZ.cons.1 hq).2⟩
 | case5 c m p d l q h1 h2 h3 ih =>
  intro hp hq
  rw [Q3, if_neg h1, if_neg h2, if_pos h3]
  exact ih (NZ.cons.1 hp).2 (NZ.cons.1 hq).2
 | case6 c m p d l q h1 h2 h3 ih =>
  intro hp hq
  rw [Q3, if_neg h1, if_neg h2, if_neg h3, NZ.cons]
  exact ⟨h3, ih (NZ.cons.1 hp).2 (NZ.cons.1 hq).2⟩
theorem Qzw {a b c : List Int} (h : Qae a b = 0) (h2 : 0 < Qae b c) : 0 < Qae a c := by
 have e : ∀ i, eN a i = eN b i := by
  intro i
  have := (Qkd a b _).1 h
  by_cases hi : i < max a.length b.length
  ·exact this i hi
  ·rw [Qck (by omega), Qck (by omega)]
 rw [Qzh e (fun _ => rfl)]; exact h2
theorem Qph : ∀ {p q : List Tm}, Qa3 p -> Qa3 q -> Qa3 (Q3 p q) := by
 intro p q
 induction p, q using Q3.induct with
 | case1 q => rw [Q3]; exact fun _ h => h
 | case2 p h => rw [Qct]; exact fun h _ => h
 | case3 c m p d l q h ih =>
  intro hp hq
  rw [Q3, if_pos h]
  refine ⟨fun t ht => ?_, ih hp.2 hq⟩
  rcases Qhh ht with ⟨s, h1, h2⟩ | ⟨s, h1, h2⟩
  ·rw [<- h2]; exact hp.1 s h1
  ·rw [<- h2]
   rcases List.mem_cons.1 h1 with rfl | h1
   ·exact h
   ·exact Qd1 h (hq.1 s h1)
 | case4 c m p d l q h1 h2 ih =>
  intro hp hq
  rw [Q3, if_neg h1, if_pos h2]
  have h2' : 0 < Qae l m := by have := Qhd m l; omega
  refine ⟨fun t ht => ?_, ih hp hq.2⟩
  rcases Qhh ht with ⟨s, h3, h4⟩ | ⟨s, h3, h4⟩
  ·rw [<- h4]
   rcases List.mem_cons.1 h3 with rfl | h3
   ·exact h2'
   ·exact Qd1 h2' (hp.1 s h3)
  ·rw [<- h4]; exact hq.1 s h3
 | case5 c m p d l q h1 h2 h3 ih =>
  intro hp hq
  rw [Q3, if_neg h1, if_neg h2, if_pos h3]
  exact ih hp.2 hq.2
 | case6 c m p d l q h1 h2 h3 ih =>
  intro hp hq
  rw [Q3, if_neg h1, if_neg h2, if_neg h3]
  refine ⟨fun t ht => ?_, ih hp.2 hq.2⟩
  rcases Qhh ht with ⟨s, h4, h5⟩ | ⟨s, h4, h5⟩
  ·rw [<- h5]; exact hp.1 s h4
  ·rw [<- h5]; exact Qzw (b := l) (by show Qae m l = 0; omega) (hq.1 s h4)
theorem Qdt {p q : List Tm} (hp : Nrm p) (hq : Nrm q) : Nrm (Q3 p q) := ⟨Qwf hp.c hq.c, Qab5 hp.z hq.z, Qph hp.s hq.s⟩
def ind (m : List Int) : List Int -> Rat := fun n => if n = m then 1 else 0
theorem Qhv {m : List Int} : ∀ {p : List Tm}, (∀ t ∈ p, t.2 ≠ m) -> pev (ind m) p = 0
 | [], _ => rfl
 | t :: p, h => by
  rw [Qal, Qhv (p := p) (fun x hx => h x (by simp [hx])), ind, if_neg (h t (by simp))]; grind
theorem Qkh {a b : List Int} (h : 0 < Qae a b) : b ≠ a := by rintro rfl; rw [Qke] at h; omega
theorem Qfb {t : Tm} {p : List Tm} (h : Qa3 (t :: p)) : pev (ind t.2) (t :: p) = t.1 := by
 rw [Qal, Qhv (fun s hs => Qkh (h.1 s hs)), ind, if_pos rfl]; grind
theorem Qhi : ∀ {p q : List Tm}, Nrm p -> Nrm q -> (∀ φ, pev φ p = pev φ q) -> p = q
 | [], [], _, _, _ => rfl
 | [], t :: q, _, hq, h => by
  have := h (ind t.2)
  rw [Qfb hq.s, Qb7] at this
  exact absurd this.symm (hq.z t (by simp))
 | t :: p, [], hp, _, h => by
  have := h (ind t.2)
  rw [Qfb hp.s, Qb7] at this
  exact absurd this (hp.z t (by simp))
 | s :: p, t :: q, hp, hq, h => by
  by_cases h1 : 0 < Qae s.2 t.2
  ·have := h (ind s.2)
   rw [Qfb hp.s, Qhv (fun x hx => ?_)] at this
   ·exact absurd this (hp.z s (by simp))
   ·rcases List.mem_cons.1 hx with rfl | hx
    ·exact Qkh h1
    ·exact Qkh (Qd1 h1 (hq.s.1 x hx))
  ·by_cases h2 : Qae s.2 t.2 < 0
   ·have h2' : 0 < Qae t.2 s.2 := by have := Qhd s.2 t.2; omega
    have := h (ind t.2)
    rw [Qfb hq.s, Qhv (fun x hx => ?_)] at this
    ·exact absurd this.symm (hq.z t (by simp))
    ·rcases List.mem_cons.1 hx with rfl | hx
     ·exact Qkh h2'
     ·exact Qkh (Qd1 h2' (hp.s.1 x hx))
   ·have e := Qme h1 h2 (hp.c s (by simp)) (hq.c t (by simp))
    have e2 := h (ind s.2)
    rw [Qfb hp.s, e, Qfb hq.s] at e2
    have e3 : s = t := Prod.ext e2 e
    subst e3
    rw [Qhi hp.tail hq.tail (fun φ => by have := h φ; rw [Qal, Qal] at this; grind)]
theorem Q2k {φ : List Int -> Rat} : ∀ (n : Nat) (l : List (List Tm)), l.length <= n -> (∀ p ∈ l, Can p) -> Can (Qcd l) /\ pev φ (Qcd l) = (l.map (pev φ)).sum := by
 intro n
 induction n with
 | zero =>
  intro l hl _
  have : l = [] := List.length_eq_zero_iff.1 (by omega)
  subst this
  rw [Qcd]; exact ⟨Nrm.nil.c, rfl⟩
 | succ n ih =>
  intro l hl h
  match l, h with
  | [], _ => rw [Qcd]; exact ⟨Nrm.nil.c, rfl⟩
  | [p], h => rw [Qcd]; exact ⟨h p (by simp), by simp; grind⟩
  | p :: q :: r, h =>
   rw [Qia (by simp)]
   generalize hL : p :: q :: r = L at *
   have hlen : 2 <= L.length := by rw [<- hL]; simp
   obtain ⟨a1, a2⟩ := ih (L.take (L.length / 2)) (by rw [List.length_take]; omega) (fun x hx => h x (List.mem_of_mem_take hx))
   obtain ⟨b1, b2⟩ := ih (L.drop (L.length / 2)) (by rw [List.length_drop]; omega) (fun x hx => h x (List.mem_of_mem_drop hx))
   refine ⟨Qwf a1 b1, ?_⟩
   rw [Qe3 a1 b1, a2, b2, <- List.sum_append, <- List.map_append, List.take_append_drop]
theorem Q67 : ∀ (n : Nat) (l : List (List Tm)), l.length <= n -> (∀ p ∈ l, Nrm p) -> Nrm (Qcd l) := by
 intro n
 induction n with
 | zero =>
  intro l hl _
  have : l = [] := List.length_eq_zero_iff.1 (by omega)
  subst this
  rw [Qcd]; exact Nrm.nil
 | succ n ih =>
  intro l hl h
  match l, h with
  | [], _ => rw [Qcd]; exact Nrm.nil
  | [p], h => rw [Qcd]; exact h p (by simp)
  | p :: q :: r, h =>
   rw [Qia (by simp)]
   generalize hL : p :: q :: r = L at *
   have hlen : 2 <= L.length := by rw [<- hL]; simp
   exact Qdt (ih (L.take (L.length / 2)) (by rw [List.length_take]; omega) (fun x hx => h x (List.mem_of_mem_take hx)))
    (ih (L.drop (L.length / 2)) (by rw [List.length_drop]; omega) (fun x hx => h x (List.mem_of_mem_drop hx)))
theorem Qmr (φ : List Int -> Rat) (t : Tm) : ∀ (p : List Tm), pev φ (Qap p t) = t.1 * pev (fun m => φ (Qat m t.2)) p
 | [] => by rw [Qap, List.filterMap_nil, Qb7, Qb7]; grind
 | s :: p => by
  have ih := Qmr φ t p
  rw [Qap] at ih ⊢
  rw [List.filterMap_cons]
  by_cases h : s.1 * t.1 = 0
  ·simp only [h, if_true, Qal]
   rw [ih]
   have : t.1 * (s.1 * φ (Qat s.2 t.2)) = (s.1 * t.1) * φ (Qat s.2 t.2) := by grind
   rw [Rat.mul_add, this, h]; grind
  ·simp only [h, if_false, Qal]
   rw [ih]; grind
theorem Qrh (p : List Tm) (t : Tm) : Can (Qap p t) := by
 intro x hx
 simp only [Qap, List.mem_filterMap] at hx
 obtain ⟨y, hy, h⟩ := hx
 split at h
 ·cases h
 ·cases h; exact Qcy _ _
theorem Q2l (p : List Tm) (t : Tm) : NZ (Qap p t) := by
 intro x hx
 simp only [Qap, List.mem_filterMap] at hx
 obtain ⟨y, hy, h⟩ := hx
 split at h
 ·cases h
 ·rename_i h0; cases h; exact h0
theorem Qm2 (t : Tm) : ∀ (p : List Tm), Qa3 p -> Qa3 (Qap p t)
 | [], _ => trivial
 | s :: p, hp => by
  have ih := Qm2 t p hp.2
  rw [Qap] at ih ⊢
  rw [List.filterMap_cons]
  split
  ·exact ih
  ·rename_i b hb
   split at hb
   ·cases hb
   ·cases hb
    refine ⟨fun x hx => ?_, ih⟩
    simp only [List.mem_filterMap] at hx
    obtain ⟨y, hy, h⟩ := hx
    split at h
    ·cases h
    ·cases h
     simp only [Qp5]
     exact hp.1 y hy
theorem Qri {p : List Tm} (t : Tm) (hp : Qa3 p) : Nrm (Qap p t) := ⟨Qrh _ _, Q2l _ _, Qm2 t p hp⟩
theorem Qrj (φ : List Int -> Rat) (q : List Tm) : ∀ (p : List Tm), ((p.map (Qap q)).map (pev φ)).sum = pev (fun m => pev (fun n => φ (Qat m n)) q) p
 | [] => rfl
 | t :: p => by
  rw [List.map_cons, List.map_cons, List.sum_cons, Qrj φ q p, Qmr, Qal]
  congr 2
  exact Qb1 fun s _ => by rw [Qdm]
theorem Qtr (φ : List Int -> Rat) (p q : List Tm) : pev φ (Qht p q) = pev (fun m => pev (fun n => φ (Qat m n)) q) p := by
 rw [Qht, (Q2k (φ := φ) _ _ (Nat.le_refl _) ?_).2, Qrj]
 intro x hx
 obtain ⟨t, _, rfl⟩ := List.mem_map.1 hx
 exact Qrh _ _
theorem Qcv (φ : List Int -> Rat) (p q : List Tm) : pev φ (Qad p q) = pev (fun m => pev (fun n => φ (Qat m n)) q) p := by
 unfold Qad
 split
 ·rw [Qtr, Qmq (fun m n => φ (Qat m n))]
  exact Qb1 fun s _ => Qb1 fun t _ => by rw [Qdm]
 ·exact Qtr φ p q
theorem Qts {p q : List Tm} (hq : Qa3 q) : Nrm (Qht p q) := Q67 _ _ (Nat.le_refl _) fun x hx => by
 obtain ⟨t, _, rfl⟩ := List.mem_map.1 hx
 exact Qri t hq
theorem Qau {p q : List Tm} (hp : Qa3 p) (hq : Qa3 q) : Nrm (Qad p q) := by
 unfold Qad
 split
 ·exact Qts hp
 ·exact Qts hq
theorem Qzx (φ : List Int -> Rat) {p : List Tm} (hp : Can p) (a : Rat) : pev φ (Qc1 p a) = a * pev φ p := by
 unfold Qc1
 split
 ·rename_i h; rw [h, Qb7]; grind
 ·rw [Qmr]
  congr 1
  exact Qb1 fun s hs => by rw [Qp4 (hp s hs)]
theorem Qrk {p : List Tm} (hp : Qa3 p) (a : Rat) : Nrm (Qc1 p a) := by
 unfold Qc1
 split
 ·exact Nrm.nil
 ·exact Qri _ hp
theorem Q68 (φ : List Int -> Rat) {p : List Tm} (hp : Can p) : pev φ (Qmf p) = - pev φ p := by
 rw [Qmf, Qzx φ hp]; grind
theorem Qp8 (φ : List Int -> Rat) {p q : List Tm} (hp : Can p) (hq : Nrm q) : pev φ (Qhf p q) = pev φ p - pev φ q := by
 rw [Qhf, Qe3 hp (show Can (Qmf q) from (Qrk hq.s _).c), Q68 φ hq.c]; grind
theorem Qjq {p q : List Tm} (hp : Nrm p) (hq : Nrm q) : Nrm (Qhf p q) := Qdt hp (Qrk hq.s _)
theorem Qki {p q : List Tm} (hp : Nrm p) (hq : Nrm q) : Qad p q = Qad q p :=
 Qhi (Qau hp.s hq.s) (Qau hq.s hp.s) fun φ => by
  rw [Qcv, Qcv, Qmq (fun m n => φ (Qat m n))]
  exact Qb1 fun s _ => Qb1 fun t _ => by rw [Qdm]
theorem Qrl {p q r : List Tm} (hp : Nrm p) (hq : Nrm q) (hr : Nrm r) : Qad (Qad p q) r = Qad p (Qad q r) :=
 Qhi (Qau (Qau hp.s hq.s).s hr.s) (Qau hp.s (Qau hq.s hr.s).s) fun φ => by
  rw [Qcv, Qcv, Qcv]
  refine Qb1 fun s _ => ?_
  rw [Qcv (fun n => φ (Qat s.2 n))]
  exact Qb1 fun t _ => Qb1 fun u _ => by rw [Qzi]
theorem Qtt {p q r : List Tm} (hp : Nrm p) (hq : Nrm q) (hr : Nrm r) : Qad (Q3 p q) r = Q3 (Qad p r) (Qad q r) :=
 Qhi (Qau (Qph hp.s hq.s) hr.s) (Qdt (Qau hp.s hr.s) (Qau hq.s hr.s)) fun φ => by
  rw [Qcv, Qe3 (Qau hp.s hr.s).c (Qau hq.s hr.s).c, Qcv, Qcv, Qe3 hp.c hq.c]
theorem Qrm (a : Rat) : Nrm (Qd8 a) := by
 unfold Qd8
 split
 ·exact Nrm.nil
 ·rename_i h; exact Nrm.one h (by simp)
theorem Qzy (φ : List Int -> Rat) (a : Rat) : pev φ (Qd8 a) = a * φ [] := by
 unfold Qd8
 split
 ·rename_i h; rw [h, Qb7]; grind
 ·rw [Qal, Qb7]; grind
theorem Q69 {p : List Tm} (hp : Nrm p) : Qad (Qd8 1) p = p :=
 Qhi (Qau (Qrm 1).s hp.s) hp fun φ => by
  rw [Qcv, Qzy]
  have : pev (fun n => φ (Qat [] n)) p = pev φ p := Qb1 fun s hs => by rw [Qdm, Qp4 (hp.c s hs)]
  rw [this]; grind
end Go.FW
namespace Go.FW
open Go
variable {C : Ctx} {fr : Fr} {hp : HP} {w : World} {K R : Qh}
theorem Qxg {e by_ ty d : Nat} (h0 : 0 < e) : Qeo e by_ ty .nilS (.sl e []) d fr hp K = K (upd (Qav d fr) d (.ms d 0)) (Qs hp d ⟨e, ty, [], false⟩) := by
 have := Qiu (fr := fr) (hp := hp) (K := K) (e := e) (by_ := by_) (ty := ty) (d := d) (x := .sl e []) (ys := []) rfl h0 (by simp) (by simp)
 simpa using this
def Qba (p : List Tm) : Bool := decide (4000 < p.length) || p.any fun t => t.2.any fun x => decide (1048576 < x)
end Go.FW
namespace Go.FW
open Go
theorem Qsv {m : List Int} {c : Rat} : ∀ {u v : List Tm}, (∀ t ∈ u, 0 < Qae t.2 m) -> (∀ t ∈ v, Qae t.2 m < 0) -> Q3 (u ++ v) [(c, m)] = u ++ (c, m) :: v
 | [], [], _, _ => by rw [List.nil_append, Qfs]; rfl
 | [], t :: v, _, hv => by
  have h1 := hv t (by simp)
  rw [List.nil_append, Qib, if_neg (by show ¬ 0 < Qae t.2 m; omega), if_pos (by exact h1), Qct]; rfl
 | t :: u, v, hu, hv => by
  rw [List.cons_append, Qib, if_pos (by exact hu t (by simp)), Qsv (fun s hs => hu s (by simp [hs])) hv]; rfl
theorem Qyi {m : List Int} {c d : Rat} : ∀ {u v : List Tm}, (∀ t ∈ u, 0 < Qae t.2 m) -> Q3 (u ++ (d, m) :: v) [(c, m)] = u ++ (if d + c = 0 then [] else [(d + c, m)]) ++ v
 | [], v, _ => by
  have h0 := Qke m
  rw [List.nil_append, Qib, if_neg (by show ¬ 0 < Qae m m; omega), if_neg (by show ¬ Qae m m < 0; omega)]
  show (if d + c = 0 then Q3 v [] else (d + c, m) :: Q3 v []) = _
  rw [Qct]
  split <;> rfl
 | t :: u, v, hu => by
  rw [List.cons_append, Qib, if_pos (by exact hu t (by simp)), Qyi (fun s hs => hu s (by simp [hs]))]; simp
def Qdz (p : List Tm) (c : Rat) (m : List Int) : List Tm := Q3 p (if c = 0 then [] else [(c, m)])
theorem Qwg {p : List Tm} (hs : Qa3 p) : ∀ {i : Nat} (h : i < p.length), ∀ t ∈ p.take i, 0 < Qae t.2 p[i].2 := by
 induction p with
 | nil => intro i h; simp at h
 | cons s p ih =>
  intro i h t ht
  cases i with
  | zero => simp at ht
  | succ i =>
   simp only [List.take_succ_cons, List.mem_cons] at ht
   have hi : i < p.length := by simpa using h
   show 0 < Qae t.2 p[i].2
   rcases ht with rfl | ht
   ·exact hs.1 _ (List.getElem_mem hi)
   ·exact ih hs.2 hi t ht
theorem Q2m {c : Rat} {m : List Int} (hl : m.getLast? ≠ some 0) : Nrm (if c = 0 then [] else [(c, m)]) := by
 split
 ·exact Nrm.nil
 ·rename_i h; exact Nrm.one h hl
theorem Q2n {p : List Tm} {c : Rat} {m : List Int} (hp : Nrm p) (hl : m.getLast? ≠ some 0) : Nrm (Qdz p c m) := Qdt hp (Q2m hl)
theorem Q2o {φ : List Int -> Rat} {p : List Tm} {c : Rat} {m : List Int} (hp : Can p) (hl : m.getLast? ≠ some 0) : pev φ (Qdz p c m) = pev φ p + c * φ m := by
 rw [Qdz, Qe3 hp (Q2m hl).c]
 split
 ·rename_i h; rw [h, Qb7]; grind
 ·rw [Qal, Qb7]; grind
def Qb6 (p : List Tm) : Nat -> List Tm
 | 0 => Qd8 1
 | n + 1 => Qad (Qb6 p n) p
def Qiy (p : List Tm) (n : Nat) : Bool := (List.range n).any fun i => Qba (Qb6 p (i + 1))
theorem Qrn (p : List Tm) (n : Nat) : Qiy p (n + 1) = (Qiy p n || Qba (Qb6 p (n + 1))) := by
 unfold Qiy; rw [List.range_succ, List.any_append]; simp
theorem Q7a {p : List Tm} {i n : Nat} (hi : i < n) (h : Qba (Qb6 p (i + 1)) = true) : Qiy p n = true := by
 unfold Qiy; rw [List.any_eq_true]; exact ⟨i, List.mem_range.2 hi, h⟩
theorem Qp9 {p : List Tm} (hp : Nrm p) : ∀ n, Nrm (Qb6 p n)
 | 0 => Qrm 1
 | n + 1 => Qau (Qp9 hp n).s hp.s
def Qkj {α : Type} (g : α -> Bool) (l : List α) : Int := match l.findIdx? g with
 | some i => i
 | none => -1
theorem Qtu {α : Type} (g : α -> Bool) (l : List α) : decide (0 <= Qkj g l) = l.any g := by
 unfold Qkj
 cases h : l.findIdx? g with
 | none =>
  rw [List.findIdx?_eq_none_iff] at h
  symm
  show l.any g = decide ((0 : Int) <= -1)
  rw [show decide ((0 : Int) <= -1) = false from rfl, List.any_eq_false]
  intro x hx; simp [h x hx]
 | some i =>
  obtain ⟨hi, h1, _⟩ := List.findIdx?_eq_some_iff_getElem.1 h
  symm
  show l.any g = decide ((0 : Int) <= (i : Int))
  rw [decide_eq_true (by omega), List.any_eq_true]
  exact ⟨_, List.getElem_mem hi, h1⟩
theorem Qwh {α : Type} {g : α -> Bool} {l : List α} {i : Nat} (hi : i < l.length) (h1 : g l[i] = true) (h2 : ∀ j (h : j < l.length), j < i -> g l[j] = false) : Qkj g l = i := by
 unfold Qkj
 rw [List.findIdx?_eq_some_iff_getElem.2 ⟨hi, h1, fun j hj => by simp [h2 j (by omega) hj]⟩]
theorem Qro {α : Type} {g : α -> Bool} {l : List α} (h2 : ∀ j (h : j < l.length), g l[j] = false) : Qkj g l = -1 := by
 unfold Qkj
 rw [List.findIdx?_eq_none_iff.2 (fun x hx => by
  obtain ⟨j, hj, rfl⟩ := List.getElem_of_mem hx
  exact h2 j hj)]
end Go.FW
