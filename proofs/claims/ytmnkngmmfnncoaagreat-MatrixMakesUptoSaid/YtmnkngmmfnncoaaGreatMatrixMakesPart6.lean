/- Part 6 of the proof of MatrixMakes: L1, CM, CP, R3, R4, M1, M2, P1, P2, P3, P8, CS2, CS3, CU, W1, W2, W3, CS, S1, S2, S3, S4, S5, S6, S7, S8, S9, T1, T1b, T1c, T1d, U1, U2, P4, U3, CL, U4, U7, U8, U10, W4, W5, FwUD. Own lemmas; no conditions. -/
import Derived.Test.YtmnkngmmfnncoaaGreatMatrixMakesPart5
set_option linter.unusedSimpArgs false
set_option linter.unnecessarySimpa false
set_option linter.unusedVariables false
namespace Go.Proofs.YtmnkngmmfnncoaaGreat
open Go Go.FW Go.ChangeShapes Go.WideShapes Go.ChangeAt Go.RowKit
set_option linter.unusedSimpArgs false
set_option linter.unusedVariables false
set_option maxRecDepth 100000
variable {H : Type} {enc : TypeId × Value -> H}
def I64 (x : Int) : Prop := -9223372036854775808 <= x /\ x <= 9223372036854775807
theorem Qzo : Rd enc 24 fun ps => ∃ (r c : Int) (l : List RQ), ps = (PV.rmat r c l).cells /\ I64 r /\ I64 c /\ Qcl l := by
 refine (Qtf (Qs := [fun ps => ∃ n : Int, ps = [.int .i64 n] /\ -9223372036854775808 <= n /\ n <= 9223372036854775807, fun ps => ∃ n : Int, ps = [.int .i64 n] /\ -9223372036854775808 <= n /\ n <= 9223372036854775807, fun ps => ∃ l : List RQ, ps = [PV.rqs l] /\ Qcl l]) Qbe Tryz.underlying24 (by kernel_rfl) ⟨rfl, Qls Tryz.underlying3, by kernel_rfl, Qls Tryz.underlying3, by kernel_rfl, Q7r, trivial⟩).mono ?_
 rintro ps ⟨p, q, rfl, ⟨r, rfl, h1⟩, p2, q2, rfl, ⟨c, rfl, h2⟩, p3, q3, rfl, ⟨l, rfl, h3⟩, rfl⟩
 exact ⟨r, c, l, rfl, h1, h2, h3⟩
variable {w : World} {base : Nat} {spare : Nat -> Bool} {held : Bool} {r : Reach} {b0 : Nat} {v : Value} {d : DataW H} {ps : List MemPlace}
theorem Qwp (Qcb : Value.okWide Tryz.prog w r b0 24 v) (hd : DataW.Trod enc Tryz.prog w base spare held 24 v d ps) (hn : Rows.uptoBulk d <= 1048576) : ∃ r c l, Q9 w Qa1 (PV.rmat r c l) v /\ I64 r /\ I64 c /\ Qcl l := by
 obtain ⟨p, ⟨r, c, l, rfl, h1, h2, h3⟩, h4⟩ := Qwc Tryz.underlying24 Qcb Qzo hd hn
 exact ⟨r, c, l, h4, h1, h2, h3⟩
end Go.Proofs.YtmnkngmmfnncoaaGreat
namespace Go.Proofs.YtmnkngmmfnncoaaGreat
open Go Go.FW
set_option maxRecDepth 100000
end Go.Proofs.YtmnkngmmfnncoaaGreat
namespace Go.Proofs.YtmnkngmmfnncoaaGreat
open Go Go.FW
set_option maxRecDepth 100000
end Go.Proofs.YtmnkngmmfnncoaaGreat
namespace Go.Proofs.YtmnkngmmfnncoaaGreat
open Go Go.FW
set_option linter.unusedSimpArgs false
set_option linter.unusedVariables false
set_option maxRecDepth 100000
theorem Qzp {n m : Bool} {a d b c : List Nat} {k : Nat} (hp : Raw k n a d) (hq : Raw k m b c) (hk : k < 2 ^ 36) : Qf Tryz.prog 38 [PV.rr n a d, PV.rr m b c] (· = PV.rat (rv n a d * rv m b c)) := by
 refine Qh Qn Tryz.func38 rfl Qaaf (by simp [c38]) fun C hP => ?_; simp only [c38]
 simp +decide (disch := first | omega | rfl | (simp +decide only [go_sem, ↓reduceIte] <;> rfl) | fail) only [go_sem, ↓reduceIte]
 refine Qb5 hP (Qcr hp.la hp.ld hp.k1 hp.sa hp.sd (by omega)) rfl rfl rfl ?_
 rintro _ ⟨n', a', d', rfl, g1, g2, g3, g4, g5, g6⟩
 simp +decide (disch := first | omega | rfl | (simp +decide only [go_sem, ↓reduceIte] <;> rfl) | fail) only [go_sem, ↓reduceIte]
 refine Qb5 hP (Qcr hq.la hq.ld hq.k1 hq.sa hq.sd (by omega)) rfl rfl rfl ?_
 rintro _ ⟨m', b', c', rfl, e1, e2, e3, e4, e5, e6⟩
 simp +decide (disch := first | omega | rfl | (simp +decide only [go_sem, ↓reduceIte] <;> rfl) | fail) only [go_sem, ↓reduceIte]
 have hza : nl (zv n' a').natAbs <= k := by rw [Qbf]; exact Nat.le_trans (Qah g1) g3
 have hzb : nl (zv m' b').natAbs <= k := by rw [Qbf]; exact Nat.le_trans (Qah e1) e3
 have hvd : nl (val d') <= k := Nat.le_trans (Qah g2) g4
 have hvc : nl (val c') <= k := Nat.le_trans (Qah e2) e4
 have h3 := Qav (zv n' a') (zv m' b')
 have h6 := Qfg (val d') (val c')
 refine Qa hP (Qc6 (n := n') (m := m') g1 e1 (by omega) (by omega)) rfl rfl rfl ?_
 simp +decide (disch := first | omega | rfl | (simp +decide only [go_sem, ↓reduceIte] <;> rfl) | fail) only [go_sem, ↓reduceIte]
 refine Qa hP (Qkv g2 e2 (by omega) (by omega)) rfl rfl rfl ?_
 simp +decide (disch := first | omega | rfl | (simp +decide only [go_sem, ↓reduceIte] <;> rfl) | fail) only [go_sem, ↓reduceIte]
 refine Qa hP (Qhl (z := zv n' a' * zv m' b') (Qj _) (by omega) (by show nl _ < _; omega)) rfl rfl rfl ?_
 simp +decide (disch := first | omega | rfl | (simp +decide only [go_sem, ↓reduceIte] <;> rfl) | fail) only [go_sem, ↓reduceIte]
 refine Qaz ?_
 simp +decide (disch := first | omega | rfl | (simp +decide only [go_sem, ↓reduceIte] <;> rfl) | fail) only [go_sem, ↓reduceIte]
 refine Qc ?_ rfl
 rw [Qq, <- g6, <- e6]
 unfold rv
 rw [Rat.mkRat_mul_mkRat]
theorem Qk1 {n : Bool} {a d : List Nat} {k : Nat} (hp : Raw k n a d) (hk : k < 2 ^ 36) : Qf Tryz.prog 36 [PV.rr n a d] (· = .int .i64 (Qdn (rv n a d))) := by
 refine Qh Qn Tryz.func36 rfl Qaac (by simp [c36]) fun C hP => ?_; simp only [c36]
 simp +decide (disch := first | omega | rfl | (simp +decide only [go_sem, ↓reduceIte] <;> rfl) | fail) only [go_sem, ↓reduceIte]
 refine Qb5 hP (Qcr hp.la hp.ld hp.k1 hp.sa hp.sd (by omega)) rfl rfl rfl ?_
 rintro _ ⟨n', a', d', rfl, g1, g2, g3, g4, g5, g6⟩
 simp +decide (disch := first | omega | rfl | (simp +decide only [go_sem, ↓reduceIte] <;> rfl) | fail) only [go_sem, ↓reduceIte]
 refine Qa hP (Qgt g1 (by omega)) rfl rfl rfl ?_
 simp +decide (disch := first | omega | rfl | (simp +decide only [go_sem, ↓reduceIte] <;> rfl) | fail) only [go_sem, ↓reduceIte]
 exact Qc (by rw [<- g6]; unfold rv; rw [Qyx g5]) rfl
theorem Qzq {n m : Bool} {a d b c : List Nat} {k : Nat} (hp : Raw k n a d) (hq : Raw k m b c) (hk : k < 2 ^ 36) : Qf Tryz.prog 115 [PV.rr n a d, PV.rr m b c] (· = .int .i64 (Qi9 (rv n a d) (rv m b c))) := by
 refine Qh Qn Tryz.func115 rfl Q6y (by simp [Q2x]) fun C hP => ?_; simp only [Q2x]
 simp +decide (disch := first | omega | rfl | (simp +decide only [go_sem, ↓reduceIte] <;> rfl) | fail) only [go_sem, ↓reduceIte]
 refine Qa hP (Qk1 hp hk) rfl rfl rfl ?_
 simp +decide (disch := first | omega | rfl | (simp +decide only [go_sem, ↓reduceIte] <;> rfl) | fail) only [go_sem, ↓reduceIte]
 refine Qa hP (Qk1 hq hk) rfl rfl rfl ?_
 simp +decide (disch := first | omega | rfl | (simp +decide only [go_sem, ↓reduceIte] <;> rfl) | fail) only [go_sem, ↓reduceIte]
 refine Qb (fun h1 => ?_) (fun h1 => ?_)
 ·simp +decide (disch := first | omega | rfl | (simp +decide only [go_sem, ↓reduceIte] <;> rfl) | fail) only [go_sem, ↓reduceIte]
  refine Qb (fun h2 => ?_) (fun h2 => ?_)
  ·simp +decide (disch := first | omega | rfl | (simp +decide only [go_sem, ↓reduceIte] <;> rfl) | fail) only [go_sem, ↓reduceIte]
   exact Qc (by rw [Qsv h2]) rfl
  ·simp +decide (disch := first | omega | rfl | (simp +decide only [go_sem, ↓reduceIte] <;> rfl) | fail) only [go_sem, ↓reduceIte]
   exact Qc (by rw [Q1w (by omega)]) rfl
 simp +decide (disch := first | omega | rfl | (simp +decide only [go_sem, ↓reduceIte] <;> rfl) | fail) only [go_sem, ↓reduceIte]
 refine Qb5 hP (Qcr hp.la hp.ld hp.k1 hp.sa hp.sd (by omega)) rfl rfl rfl ?_
 rintro _ ⟨n', a', d', rfl, g1, g2, g3, g4, g5, g6⟩
 simp +decide (disch := first | omega | rfl | (simp +decide only [go_sem, ↓reduceIte] <;> rfl) | fail) only [go_sem, ↓reduceIte]
 refine Qb5 hP (Qcr hq.la hq.ld hq.k1 hq.sa hq.sd (by omega)) rfl rfl rfl ?_
 rintro _ ⟨m', b', c', rfl, e1, e2, e3, e4, e5, e6⟩
 have hza : nl (zv n' a').natAbs <= k := by rw [Qbf]; exact Nat.le_trans (Qah g1) g3
 have hzb : nl (zv m' b').natAbs <= k := by rw [Qbf]; exact Nat.le_trans (Qah e1) e3
 have hvd : nl (val d') <= k := Nat.le_trans (Qah g2) g4
 have hvc : nl (val c') <= k := Nat.le_trans (Qah e2) e4
 have h3 := Qav (zv n' a') (val c')
 have h4 := Qav (zv m' b') (val d')
 rw [Int.natAbs_natCast] at h3 h4
 simp +decide (disch := first | omega | rfl | (simp +decide only [go_sem, ↓reduceIte] <;> rfl) | fail) only [go_sem, ↓reduceIte]
 refine Qa hP (Qds _) rfl rfl rfl ?_
 simp +decide (disch := first | omega | rfl | (simp +decide only [go_sem, ↓reduceIte] <;> rfl) | fail) only [go_sem, ↓reduceIte]
 refine Qa hP (Qc6 (n := n') (m := false) g1 e2 (by omega) (by omega)) rfl rfl rfl ?_
 simp +decide (disch := first | omega | rfl | (simp +decide only [go_sem, ↓reduceIte] <;> rfl) | fail) only [go_sem, ↓reduceIte]
 refine Qa hP (Qds _) rfl rfl rfl ?_
 simp +decide (disch := first | omega | rfl | (simp +decide only [go_sem, ↓reduceIte] <;> rfl) | fail) only [go_sem, ↓reduceIte]
 refine Qa hP (Qc6 (n := m') (m := false) e1 g2 (by omega) (by omega)) rfl rfl rfl ?_
 rw [Qe2, Qe2]
 simp +decide (disch := first | omega | rfl | (simp +decide only [go_sem, ↓reduceIte] <;> rfl) | fail) only [go_sem, ↓reduceIte]
 refine Qa hP (Q26 (x := zv n' a' * (val c' : Int)) (y := zv m' b' * (val d' : Int)) (by omega) (by omega)) rfl rfl rfl ?_
 simp +decide (disch := first | omega | rfl | (simp +decide only [go_sem, ↓reduceIte] <;> rfl) | fail) only [go_sem, ↓reduceIte]
 exact Qc (by rw [<- g6, <- e6]; unfold rv; rw [Qu5 g5 e5]) rfl
theorem Qud {n m : Bool} {a d b c : List Nat} {k : Nat} (hp : Raw k n a d) (hq : Raw k m b c) (hk : k < 2 ^ 36) : Qf Tryz.prog 39 [PV.rr n a d, PV.rr m b c] (· = .bool (decide (rv n a d = rv m b c))) := by
 refine Qh Qn Tryz.func39 rfl Qaad (by simp [c39]) fun C hP => ?_; simp only [c39]
 simp +decide (disch := first | omega | rfl | (simp +decide only [go_sem, ↓reduceIte] <;> rfl) | fail) only [go_sem, ↓reduceIte]
 refine Qa hP (Qzq hp hq hk) rfl rfl rfl ?_
 simp +decide (disch := first | omega | rfl | (simp +decide only [go_sem, ↓reduceIte] <;> rfl) | fail) only [go_sem, ↓reduceIte]
 exact Qc (congrArg PV.bool (decide_eq_decide.2 Qqi)) rfl
theorem Qzr {x : Int} (h1 : -9223372036854775808 <= x) (h2 : x <= 9223372036854775807) : Qf Tryz.prog 154 [.int .i64 x] (· = PV.zz x) := by
 refine Qh Qn Tryz.func154 rfl Q6m (by simp [Q2l]) fun C hP => ?_; simp only [Q2l]
 simp +decide (disch := first | omega | rfl | (simp +decide only [go_sem, ↓reduceIte] <;> rfl) | fail) only [go_sem, ↓reduceIte]
 refine Qb (fun hc => ?_) (fun hc => ?_)
 ·obtain ⟨y, hy⟩ : ∃ y : Nat, x = -((y : Int) + 1) := ⟨(-(x + 1)).toNat, by omega⟩
  have e1 : IntKind.i64.wrap (x + 1) = -(y : Int) := by rw [Qfo (by omega) (by omega)]; omega
  have e2 : IntKind.i64.wrap (0 - -(y : Int)) = (y : Int) := by rw [Qfo (by omega) (by omega)]; omega
  have e3 : IntKind.u64.wrap (y : Int) = (y : Int) := Qef (by omega) (by omega)
  have e4 : IntKind.u64.wrap ((y + 1 : Nat) : Int) = ((y + 1 : Nat) : Int) := Qef (by omega) (by omega)
  simp +decide (disch := first | omega | rfl | (simp +decide only [go_sem, ↓reduceIte, e1, e2, e3, e4] <;> rfl) | fail) only [go_sem, ↓reduceIte, e1, e2, e3, e4]
  refine Qa hP (Qmo (by omega)) rfl rfl rfl ?_
  simp +decide (disch := first | omega | rfl | (simp +decide only [go_sem, ↓reduceIte] <;> rfl) | fail) only [go_sem, ↓reduceIte]
  refine Qa hP (Qen true (y + 1)) rfl rfl rfl ?_
  simp +decide (disch := first | omega | rfl | (simp +decide only [go_sem, ↓reduceIte] <;> rfl) | fail) only [go_sem, ↓reduceIte]
  refine Qaz ?_
  simp +decide (disch := first | omega | rfl | (simp +decide only [go_sem, ↓reduceIte] <;> rfl) | fail) only [go_sem, ↓reduceIte]
  exact Qc (congrArg PV.zz (by simp; omega)) rfl
 ·obtain ⟨y, rfl⟩ : ∃ y : Nat, x = y := ⟨x.toNat, by omega⟩
  simp +decide (disch := first | omega | rfl | (simp +decide only [go_sem, ↓reduceIte] <;> rfl) | fail) only [go_sem, ↓reduceIte]
  refine Qa hP (Qmo (by omega)) rfl rfl rfl ?_
  simp +decide (disch := first | omega | rfl | (simp +decide only [go_sem, ↓reduceIte] <;> rfl) | fail) only [go_sem, ↓reduceIte]
  refine Qa hP (Qen false y) rfl rfl rfl ?_
  simp +decide (disch := first | omega | rfl | (simp +decide only [go_sem, ↓reduceIte] <;> rfl) | fail) only [go_sem, ↓reduceIte]
  refine Qaz ?_
  simp +decide (disch := first | omega | rfl | (simp +decide only [go_sem, ↓reduceIte] <;> rfl) | fail) only [go_sem, ↓reduceIte]
  exact Qc (congrArg PV.zz (by simp)) rfl
theorem Qzs {x : Int} (h1 : -9223372036854775808 <= x) (h2 : x <= 9223372036854775807) : Qf Tryz.prog 79 [.int .i64 x] (· = PV.rat (x : Rat)) := by
 refine Qh Qn Tryz.func79 rfl Qaab (by simp [c79]) fun C hP => ?_; simp only [c79]
 simp +decide (disch := first | omega | rfl | (simp +decide only [go_sem, ↓reduceIte] <;> rfl) | fail) only [go_sem, ↓reduceIte]
 refine Qa hP (Qzr h1 h2) rfl rfl rfl ?_
 simp +decide (disch := first | omega | rfl | (simp +decide only [go_sem, ↓reduceIte] <;> rfl) | fail) only [go_sem, ↓reduceIte]
 refine Qa hP Qix rfl rfl rfl ?_
 simp +decide (disch := first | omega | rfl | (simp +decide only [go_sem, ↓reduceIte] <;> rfl) | fail) only [go_sem, ↓reduceIte]
 refine Qaz ?_
 simp +decide (disch := first | omega | rfl | (simp +decide only [go_sem, ↓reduceIte] <;> rfl) | fail) only [go_sem, ↓reduceIte]
 exact Qc (by rw [PV.rat, Rat.num_intCast, Rat.den_intCast, PV.num, PV.num, Qfa]; rfl) rfl
theorem Qtg {n : Bool} {a : List Nat} (ha : Qg a) (hla : a.length < 2 ^ 42) : Qf Tryz.prog 207 [PV.zi n a] (· = .bool (Qfj n a)) := by
 refine Qh Qn Tryz.func207 rfl Q6k (by simp [Q2j]) fun C hP => ?_; simp only [Q2j]
 simp +decide (disch := first | omega | rfl | (simp +decide only [go_sem, ↓reduceIte] <;> rfl) | fail) only [go_sem, ↓reduceIte]
 refine Qbp (fun h0 => ?_) (fun h0 => ?_)
 ·have : a = [] := List.length_eq_zero_iff.1 (by omega)
  subst this
  simp +decide (disch := first | omega | rfl | (simp +decide only [go_sem, ↓reduceIte] <;> rfl) | fail) only [go_sem, ↓reduceIte]
  cases n
  ·simp +decide (disch := first | omega | rfl | (simp +decide only [go_sem, ↓reduceIte] <;> rfl) | fail) only [go_sem, ↓reduceIte]
   refine Qc (congrArg PV.bool ?_) rfl
   simp [Qfj]
  ·simp +decide (disch := first | omega | rfl | (simp +decide only [go_sem, ↓reduceIte] <;> rfl) | fail) only [go_sem, ↓reduceIte]
   refine Qc (congrArg PV.bool ?_) rfl
   simp [Qfj]
 ·obtain ⟨k, hk⟩ : ∃ k, a.length = k + 1 := ⟨a.length - 1, by omega⟩
  have hne : a ≠ [] := fun h => by rw [h] at hk; simp at hk
  have hl := Qm2 hk
  have e : ((k + 1 : Nat) : Int) - 1 = k := by omega
  generalize hx : a[k]'(by omega) = x at *
  simp +decide (disch := first | omega | rfl | (simp +decide only [go_sem, ↓reduceIte, hk, e, hx] <;> rfl) | fail) only [go_sem, ↓reduceIte, hk, e, hx]
  refine Qbp (fun h => ?_) (fun h => absurd (by omega) h)
  simp +decide (disch := first | omega | rfl | (simp +decide only [go_sem, ↓reduceIte, hk, e, hx] <;> rfl) | fail) only [go_sem, ↓reduceIte, hk, e, hx]
  refine Qc (congrArg PV.bool ?_) rfl
  unfold Qfj
  rw [if_neg hne, hl]
  exact decide_eq_decide.2 ⟨fun h h' => h (by injection h' with h'; rw [h']; rfl), fun h h' => h (by rw [show x = 0 by omega])⟩
end Go.Proofs.YtmnkngmmfnncoaaGreat
namespace Go.Proofs.YtmnkngmmfnncoaaGreat
open Go Go.FW
set_option linter.unusedSimpArgs false
set_option linter.unusedVariables false
set_option maxRecDepth 100000
theorem Que {n : Bool} {a d : List Nat} {k : Nat} (hp : Raw k n a d) (hk : k < 2 ^ 36) : Qf Tryz.prog 163 [PV.rr n a d] (· = .bool (Qhk n a d)) := by
 obtain ⟨ha, hd, sa, sd, k1⟩ := hp
 refine Qh Qn Tryz.func163 rfl Q6x (by simp [Q2w]) fun C hP => ?_; simp only [Q2w]
 simp +decide (disch := first | omega | rfl | (simp +decide only [go_sem, ↓reduceIte] <;> rfl) | fail) only [go_sem, ↓reduceIte]
 refine Qa hP (Qtg ha (by omega)) rfl rfl rfl ?_
 unfold Qhk
 simp +decide (disch := first | omega | rfl | (simp +decide only [go_sem, ↓reduceIte] <;> rfl) | fail) only [go_sem, ↓reduceIte]
 cases hio : Qfj n a
 ·simp +decide (disch := first | omega | rfl | (simp +decide only [go_sem, ↓reduceIte, Bool.not_false] <;> rfl) | fail) only [go_sem, ↓reduceIte, Bool.not_false]
  exact Qc (by simp) rfl
 rw [Bool.true_and]
 simp +decide (disch := first | omega | rfl | (simp +decide only [go_sem, ↓reduceIte, Bool.not_true] <;> rfl) | fail) only [go_sem, ↓reduceIte, Bool.not_true]
 refine Qax (fun h0 => ?_) (fun h0 => ?_)
 ·have : d = [] := List.length_eq_zero_iff.1 (by omega)
  subst this
  simp +decide (disch := first | omega | rfl | (simp +decide only [go_sem, ↓reduceIte] <;> rfl) | fail) only [go_sem, ↓reduceIte]
  exact Qc (by simp) rfl
 obtain ⟨k', hk'⟩ : ∃ k, d.length = k + 1 := ⟨d.length - 1, by omega⟩
 have hne : d ≠ [] := fun h => by rw [h] at hk'; simp at hk'
 have hl := Qm2 hk'
 have e : ((k' + 1 : Nat) : Int) - 1 = k' := by omega
 generalize hx : d[k']'(by omega) = x at *
 simp +decide (disch := first | omega | rfl | (simp +decide only [go_sem, ↓reduceIte, hk', e, hx] <;> rfl) | fail) only [go_sem, ↓reduceIte, hk', e, hx]
 refine Qb (fun h1 => ?_) (fun h1 => ?_)
 ·simp +decide (disch := first | omega | rfl | (simp +decide only [go_sem, ↓reduceIte] <;> rfl) | fail) only [go_sem, ↓reduceIte]
  refine Qc (congrArg PV.bool ?_) rfl
  rw [hl, show x = 0 by omega]; simp
 have hx0 : x ≠ 0 := by omega
 simp +decide (disch := first | omega | rfl | (simp +decide only [go_sem, ↓reduceIte] <;> rfl) | fail) only [go_sem, ↓reduceIte]
 refine Qa hP (Qkx (by omega)) rfl rfl rfl ?_
 simp +decide (disch := first | omega | rfl | (simp +decide only [go_sem, ↓reduceIte] <;> rfl) | fail) only [go_sem, ↓reduceIte]
 refine Qax (fun h2 => ?_) (fun h2 => ?_)
 ·subst h2
  simp +decide (disch := first | omega | rfl | (simp +decide only [go_sem, ↓reduceIte] <;> rfl) | fail) only [go_sem, ↓reduceIte]
  refine Qc (congrArg PV.bool ?_) rfl
  simp [val]
 ·simp +decide (disch := first | omega | rfl | (simp +decide only [go_sem, ↓reduceIte] <;> rfl) | fail) only [go_sem, ↓reduceIte]
  refine Qa hP (Qs2 ha hd (by omega) (by omega)) rfl rfl rfl ?_
  have hD : 0 < val d := by
   apply Nat.pos_of_ne_zero
   intro h0
   have hdd := Qpi hd (by rw [hl]; simpa using hx0)
   rw [h0, Qau] at hdd
   exact hne hdd.symm
  have hgl : (dig (Nat.gcd (val a) (val d))).length < 2 ^ 43 := by
   have h3 := Qbw (Nat.gcd_le_right (val a) hD)
   have h4 := Qah hd
   unfold nl at h3 h4; omega
  simp +decide (disch := first | omega | rfl | (simp +decide only [go_sem, ↓reduceIte] <;> rfl) | fail) only [go_sem, ↓reduceIte]
  refine Qa hP (Qpt hgl) rfl rfl rfl ?_
  simp +decide (disch := first | omega | rfl | (simp +decide only [go_sem, ↓reduceIte] <;> rfl) | fail) only [go_sem, ↓reduceIte]
  refine Qc (congrArg PV.bool ?_) rfl
  rw [hl]; simp [hne, hx0]
end Go.Proofs.YtmnkngmmfnncoaaGreat
namespace Go.Proofs.YtmnkngmmfnncoaaGreat
open Go Go.FW
set_option linter.unusedSimpArgs false
set_option linter.unusedVariables false
set_option maxRecDepth 100000
end Go.Proofs.YtmnkngmmfnncoaaGreat
namespace Go.Proofs.YtmnkngmmfnncoaaGreat
open Go Go.FW
set_option linter.unusedSimpArgs false
set_option linter.unusedVariables false
set_option maxRecDepth 100000
end Go.Proofs.YtmnkngmmfnncoaaGreat
namespace Go.Proofs.YtmnkngmmfnncoaaGreat
open Go Go.FW
set_option linter.unusedSimpArgs false
set_option linter.unusedVariables false
set_option maxRecDepth 100000
theorem Qwq {a b : Rat} {k : Nat} (ha : rs a <= k) (hb : rs b <= k) (hk : k < 2 ^ 36) : Qf Tryz.prog 37 [PV.rat a, PV.rat b] (· = PV.rat (a + b)) := by
 have := Qqo (Qdj ha) (Qdj hb) hk
 rwa [Qeh, Qeh] at this
theorem Qmr {a b : Rat} {k : Nat} (ha : rs a <= k) (hb : rs b <= k) (hk : k < 2 ^ 36) : Qf Tryz.prog 38 [PV.rat a, PV.rat b] (· = PV.rat (a * b)) := by
 have := Qzp (Qdj ha) (Qdj hb) hk
 rwa [Qeh, Qeh] at this
theorem Q7s {a b : Rat} {k : Nat} (ha : rs a <= k) (hb : rs b <= k) (hk : k < 2 ^ 36) : Qf Tryz.prog 39 [PV.rat a, PV.rat b] (· = .bool (decide (a = b))) := by
 have := Qud (Qdj ha) (Qdj hb) hk
 rwa [Qeh, Qeh] at this
theorem Qly {a : Rat} (ha : rs a < 2 ^ 36) : Qf Tryz.prog 36 [PV.rat a] (· = .int .i64 (Qdn a)) := by
 have := Qk1 (Qdj (Nat.le_refl (rs a))) ha
 rwa [Qeh] at this
end Go.Proofs.YtmnkngmmfnncoaaGreat
namespace Go.Proofs.YtmnkngmmfnncoaaGreat
open Go Go.FW
set_option linter.unusedSimpArgs false
set_option linter.unusedVariables false
set_option maxRecDepth 100000
end Go.Proofs.YtmnkngmmfnncoaaGreat
namespace Go.Proofs.YtmnkngmmfnncoaaGreat
open Go Go.FW
set_option linter.unusedSimpArgs false
set_option linter.unusedVariables false
set_option maxRecDepth 100000
end Go.Proofs.YtmnkngmmfnncoaaGreat
namespace Go.Proofs.YtmnkngmmfnncoaaGreat
open Go Go.FW
set_option linter.unusedSimpArgs false
set_option linter.unusedVariables false
set_option maxRecDepth 100000
end Go.Proofs.YtmnkngmmfnncoaaGreat
namespace Go.Proofs.YtmnkngmmfnncoaaGreat
open Go Go.FW
set_option maxRecDepth 100000
end Go.Proofs.YtmnkngmmfnncoaaGreat
namespace Go.Proofs.YtmnkngmmfnncoaaGreat
open Go Go.FW
set_option maxRecDepth 100000
end Go.Proofs.YtmnkngmmfnncoaaGreat
namespace Go.Proofs.YtmnkngmmfnncoaaGreat
open Go Go.FW
set_option maxRecDepth 100000
def c71 : SFn := ⟨19, [.cell 4 3 true], .seq (.rg (.o none (.alloc 4 3 32 (.agg [(.bool false), .nilS, .nilS])) .nil)) <| .seq (.rg (.o none (.mv 8 (.t 0)) <|
 .o none (.call (some 9) false (.c (.fn 105 [] [])) [(.t 8)]) <|
 .o none (.mv 10 (.t 1)) <|
 .o none (.call (some 11) false (.c (.fn 105 [] [])) [(.t 10)]) <|
 .o none (.call (some 12) false (.c (.fn 147 [] [])) [(.t 9), (.t 11)]) <|
 .o none (.mv 7 (.t 12)) <|
 .o none (.ext 13 (.t 7) 0) <|
 .o none (.ext 14 (.t 7) 1) <|
 .o none (.alloc 5 3 32 (.agg [(.bool false), .nilS, .nilS])) <|
 .o none (.st 3 (.t 5) (.t 13)) <|
 .o none (.mv 6 (.t 14)) .nil)) <| .seq (.seq (.rg (.o none (.mv 15 (.t 6)) <|
 .o none (.bin 16 .neq false (.t 15) (.c (.int .i64 0))) .nil)) <| .cond (.t 16) (.seq (.rg (.o none (.call (some 17) false (.c (.fn 34 [] [])) [(.c (.int .i64 0))]) <|
 .o none (.st 3 (.t 4) (.t 17)) .nil)) <| .ret) (.skip)) <| .seq (.rg (.o none (.ld 18 3 true (.t 5)) <|
 .o none (.st 3 (.t 4) (.t 18)) .nil)) <| .ret⟩
theorem Qaax : Qe Tryz.prog Tryz.f71 = some c71 := by kernel_rfl
end Go.Proofs.YtmnkngmmfnncoaaGreat
namespace Go.Proofs.YtmnkngmmfnncoaaGreat
open Go Go.FW
set_option linter.unusedSimpArgs false
set_option linter.unusedVariables false
set_option maxRecDepth 100000
end Go.Proofs.YtmnkngmmfnncoaaGreat
namespace Go.Proofs.YtmnkngmmfnncoaaGreat
open Go Go.FW
set_option linter.unusedSimpArgs false
set_option linter.unusedVariables false
set_option maxRecDepth 100000
end Go.Proofs.YtmnkngmmfnncoaaGreat
namespace Go.Proofs.YtmnkngmmfnncoaaGreat
open Go Go.FW
set_option linter.unusedSimpArgs false
set_option linter.unusedVariables false
set_option maxRecDepth 100000
end Go.Proofs.YtmnkngmmfnncoaaGreat
namespace Go.Proofs.YtmnkngmmfnncoaaGreat
open Go Go.FW
set_option maxRecDepth 100000
def Q3p : SFn := ⟨24, [.t 2], .seq (.rg (.o none (.mv 2 (.c .nilS)) .nil)) <| .seq (.rg (.o none (.mv 5 (.t 0)) <|
 .o none (.len 6 (.t 5)) <|
 .o none (.mv 3 (.t 6)) .nil)) <| .seq (.block 0 (.loop (.seq (.seq (.rg (.o none (.mv 7 (.t 3)) <|
 .o none (.bin 8 .gtr false (.t 7) (.c (.int .i64 0))) <|
 .o none (.mv 9 (.t 8)) <|
 .o (some (9, true)) (.mv 10 (.t 0)) <|
 .o (some (9, true)) (.mv 11 (.t 3)) <|
 .o (some (9, true)) (.bin 12 .sub false (.t 11) (.c (.int .i64 1))) <|
 .o (some (9, true)) (.idx 13 1 (.t 10) (.t 12)) <|
 .o (some (9, true)) (.ld 14 1 false (.t 13)) <|
 .o (some (9, true)) (.bin 15 .eql false (.t 14) (.c (.int .u16 0))) <|
 .o none (.pick 16 (.t 9) (.t 15) (.c (.bool false))) .nil)) <| .cond (.t 16) (.skip) (.exit 0)) <| .block 1 (.rg (.o none (.mv 17 (.t 3)) <|
 .o none (.bin 18 .sub false (.t 17) (.c (.int .i64 1))) <|
 .o none (.mv 3 (.t 18)) .nil))))) <| .seq (.rg (.o none (.mv 4 (.c .nilS)) .nil)) <| .seq (.rg (.o none (.mv 19 (.t 4)) <|
 .o none (.mv 20 (.t 0)) <|
 .o none (.mv 21 (.t 3)) <|
 .o none (.sl 22 1 (.t 20) none (some (.t 21)) none) <|
 .o none (.app 23 1 2 156 (.t 19) (.t 22)) <|
 .o none (.mv 2 (.t 23)) .nil)) <| .ret⟩
theorem Q7t : Qe Tryz.prog Tryz.f167 = some Q3p := by kernel_rfl
def Q3q : SFn := ⟨15, [.t 2], .seq (.rg (.o none (.mv 2 (.c .nilS)) .nil)) <| .seq (.rg (.o none (.mv 3 (.c .nilS)) .nil)) <| .seq (.block 0 (.loop (.seq (.seq (.rg (.o none (.mv 4 (.t 0)) <|
 .o none (.bin 5 .gtr false (.t 4) (.c (.int .u64 0))) .nil)) <| .cond (.t 5) (.skip) (.exit 0)) <| .block 1 (.seq (.rg (.o none (.mv 6 (.t 3)) <|
 .o none (.mv 7 (.t 0)) <|
 .o none (.bin 8 .rem false (.t 7) (.c (.int .u64 65536))) <|
 .o none (.conv 9 .u16 (.t 8)) <|
 .o none (.bs 10 1 156 [(.t 9)]) <|
 .o none (.app 11 1 2 156 (.t 6) (.t 10)) <|
 .o none (.mv 3 (.t 11)) .nil)) <| .rg (.o none (.mv 12 (.t 0)) <|
 .o none (.bin 13 .quo false (.t 12) (.c (.int .u64 65536))) <|
 .o none (.mv 0 (.t 13)) .nil))))) <| .seq (.rg (.o none (.mv 14 (.t 3)) <|
 .o none (.mv 2 (.t 14)) .nil)) <| .ret⟩
theorem Q7u : Qe Tryz.prog Tryz.f106 = some Q3q := by kernel_rfl
def Q3r : SFn := ⟨21, [.t 2], .seq (.rg (.o none (.mv 2 (.c (.int .u64 0))) .nil)) <| .seq (.rg (.o none (.mv 3 (.c (.int .u64 0))) .nil)) <| .seq (.seq (.rg (.o none (.mv 5 (.t 0)) <|
 .o none (.len 6 (.t 5)) <|
 .o none (.bin 7 .sub false (.t 6) (.c (.int .i64 1))) <|
 .o none (.mv 4 (.t 7)) .nil)) <| .block 0 (.loop (.seq (.seq (.rg (.o none (.mv 8 (.t 4)) <|
 .o none (.bin 9 .geq false (.t 8) (.c (.int .i64 0))) .nil)) <| .cond (.t 9) (.skip) (.exit 0)) <| .seq (.block 1 (.rg (.o none (.mv 12 (.t 3)) <|
 .o none (.bin 13 .mul false (.t 12) (.c (.int .u64 65536))) <|
 .o none (.mv 14 (.t 0)) <|
 .o none (.mv 15 (.t 4)) <|
 .o none (.idx 16 1 (.t 14) (.t 15)) <|
 .o none (.ld 17 1 false (.t 16)) <|
 .o none (.conv 18 .u64 (.t 17)) <|
 .o none (.bin 19 .add false (.t 13) (.t 18)) <|
 .o none (.mv 3 (.t 19)) .nil))) <| .rg (.o none (.mv 10 (.t 4)) <|
 .o none (.bin 11 .sub false (.t 10) (.c (.int .i64 1))) <|
 .o none (.mv 4 (.t 11)) .nil)))) <| .seq (.rg (.o none (.mv 20 (.t 3)) <|
 .o none (.mv 2 (.t 20)) .nil)) <| .ret⟩
theorem Q7v : Qe Tryz.prog Tryz.f209 = some Q3r := by kernel_rfl
def Q3s : SFn := ⟨14, [.t 4], .seq (.rg (.o none (.mv 4 (.c (.int .i64 0))) .nil)) <| .seq (.seq (.rg (.o none (.mv 5 (.t 1)) <|
 .o none (.mv 6 (.t 0)) <|
 .o none (.len 7 (.t 6)) <|
 .o none (.bin 8 .lss false (.t 5) (.t 7)) .nil)) <| .cond (.t 8) (.seq (.rg (.o none (.mv 9 (.t 0)) <|
 .o none (.mv 10 (.t 1)) <|
 .o none (.idx 11 1 (.t 9) (.t 10)) <|
 .o none (.ld 12 1 false (.t 11)) <|
 .o none (.conv 13 .i64 (.t 12)) <|
 .o none (.mv 4 (.t 13)) .nil)) <| .ret) (.skip)) <| .seq (.rg (.o none (.mv 4 (.c (.int .i64 0))) .nil)) <| .ret⟩
theorem Q7w : Qe Tryz.prog Tryz.f206 = some Q3s := by kernel_rfl
def Q3t : SFn := ⟨30, [.t 4], .seq (.rg (.o none (.mv 4 (.c (.int .i64 0))) .nil)) <| .seq (.seq (.rg (.o none (.mv 6 (.t 0)) <|
 .o none (.len 7 (.t 6)) <|
 .o none (.mv 8 (.t 1)) <|
 .o none (.len 9 (.t 8)) <|
 .o none (.mx 10 (.t 7) (.t 9)) <|
 .o none (.bin 11 .sub false (.t 10) (.c (.int .i64 1))) <|
 .o none (.mv 5 (.t 11)) .nil)) <| .block 0 (.loop (.seq (.seq (.rg (.o none (.mv 12 (.t 5)) <|
 .o none (.bin 13 .geq false (.t 12) (.c (.int .i64 0))) .nil)) <| .cond (.t 13) (.skip) (.exit 0)) <| .seq (.block 1 (.seq (.seq (.rg (.o none (.mv 16 (.t 0)) <|
 .o none (.mv 17 (.t 5)) <|
 .o none (.call (some 18) false (.c (.fn 206 [] [])) [(.t 16), (.t 17)]) <|
 .o none (.mv 19 (.t 1)) <|
 .o none (.mv 20 (.t 5)) <|
 .o none (.call (some 21) false (.c (.fn 206 [] [])) [(.t 19), (.t 20)]) <|
 .o none (.bin 22 .lss false (.t 18) (.t 21)) .nil)) <| .cond (.t 22) (.seq (.rg (.o none (.mv 4 (.c (.int .i64 (-1)))) .nil)) <| .ret) (.skip)) <| .seq (.rg (.o none (.mv 23 (.t 0)) <|
 .o none (.mv 24 (.t 5)) <|
 .o none (.call (some 25) false (.c (.fn 206 [] [])) [(.t 23), (.t 24)]) <|
 .o none (.mv 26 (.t 1)) <|
 .o none (.mv 27 (.t 5)) <|
 .o none (.call (some 28) false (.c (.fn 206 [] [])) [(.t 26), (.t 27)]) <|
 .o none (.bin 29 .gtr false (.t 25) (.t 28)) .nil)) <| .cond (.t 29) (.seq (.rg (.o none (.mv 4 (.c (.int .i64 1))) .nil)) <| .ret) (.skip))) <| .rg (.o none (.mv 14 (.t 5)) <|
 .o none (.bin 15 .sub false (.t 14) (.c (.int .i64 1))) <|
 .o none (.mv 5 (.t 15)) .nil)))) <| .seq (.rg (.o none (.mv 4 (.c (.int .i64 0))) .nil)) <| .ret⟩
theorem Q7x : Qe Tryz.prog Tryz.f224 = some Q3t := by kernel_rfl
def Q3u : SFn := ⟨44, [.t 4], .seq (.rg (.o none (.mv 4 (.c .nilS)) .nil)) <| .seq (.rg (.o none (.mv 5 (.c .nilS)) .nil)) <| .seq (.rg (.o none (.mv 6 (.c (.int .i64 0))) .nil)) <| .seq (.seq (.rg (.o none (.mv 7 (.c (.int .i64 0))) .nil)) <| .block 0 (.loop (.seq (.seq (.rg (.o none (.mv 9 (.t 7)) <|
 .o none (.mv 10 (.t 0)) <|
 .o none (.len 11 (.t 10)) <|
 .o none (.bin 12 .lss false (.t 9) (.t 11)) <|
 .o none (.mv 13 (.t 12)) <|
 .o (some (13, false)) (.mv 14 (.t 7)) <|
 .o (some (13, false)) (.mv 15 (.t 1)) <|
 .o (some (13, false)) (.len 16 (.t 15)) <|
 .o (some (13, false)) (.bin 17 .lss false (.t 14) (.t 16)) <|
 .o none (.pick 18 (.t 13) (.c (.bool true)) (.t 17)) <|
 .o none (.mv 19 (.t 18)) <|
 .o (some (19, false)) (.mv 20 (.t 6)) <|
 .o (some (19, false)) (.bin 21 .gtr false (.t 20) (.c (.int .i64 0))) <|
 .o none (.pick 22 (.t 19) (.c (.bool true)) (.t 21)) .nil)) <| .cond (.t 22) (.skip) (.exit 0)) <| .seq (.block 1 (.seq (.rg (.o none (.mv 25 (.t 0)) <|
 .o none (.mv 26 (.t 7)) <|
 .o none (.call (some 27) false (.c (.fn 206 [] [])) [(.t 25), (.t 26)]) <|
 .o none (.mv 28 (.t 1)) <|
 .o none (.mv 29 (.t 7)) <|
 .o none (.call (some 30) false (.c (.fn 206 [] [])) [(.t 28), (.t 29)]) <|
 .o none (.bin 31 .add false (.t 27) (.t 30)) <|
 .o none (.mv 32 (.t 6)) <|
 .o none (.bin 33 .add false (.t 31) (.t 32)) <|
 .o none (.mv 8 (.t 33)) .nil)) <| .seq (.rg (.o none (.mv 34 (.t 5)) <|
 .o none (.mv 35 (.t 8)) <|
 .o none (.bin 36 .rem false (.t 35) (.c (.int .i64 65536))) <|
 .o none (.conv 37 .u16 (.t 36)) <|
 .o none (.bs 38 1 156 [(.t 37)]) <|
 .o none (.app 39 1 2 156 (.t 34) (.t 38)) <|
 .o none (.mv 5 (.t 39)) .nil)) <| .rg (.o none (.mv 40 (.t 8)) <|
 .o none (.bin 41 .quo false (.t 40) (.c (.int .i64 65536))) <|
 .o none (.mv 6 (.t 41)) .nil))) <| .rg (.o none (.mv 23 (.t 7)) <|
 .o none (.bin 24 .add false (.t 23) (.c (.int .i64 1))) <|
 .o none (.mv 7 (.t 24)) .nil)))) <| .seq (.rg (.o none (.mv 42 (.t 5)) <|
 .o none (.call (some 43) false (.c (.fn 167 [] [])) [(.t 42)]) <|
 .o none (.mv 4 (.t 43)) .nil)) <| .ret⟩
theorem Q7y : Qe Tryz.prog Tryz.f171 = some Q3u := by kernel_rfl
def Q3v : SFn := ⟨40, [.t 4, .t 5], .seq (.rg (.o none (.mv 4 (.c .nilS)) <|
 .o none (.mv 5 (.c (.int .i64 0))) .nil)) <| .seq (.seq (.rg (.o none (.mv 10 (.t 0)) <|
 .o none (.mv 11 (.t 1)) <|
 .o none (.call (some 12) false (.c (.fn 224 [] [])) [(.t 10), (.t 11)]) <|
 .o none (.bin 13 .lss false (.t 12) (.c (.int .i64 0))) .nil)) <| .cond (.t 13) (.seq (.rg (.o none (.mv 4 (.c .nilS)) <|
 .o none (.mv 5 (.c (.int .i64 2))) .nil)) <| .ret) (.skip)) <| .seq (.rg (.o none (.mv 6 (.c .nilS)) .nil)) <| .seq (.rg (.o none (.mv 7 (.c (.int .i64 0))) .nil)) <| .seq (.seq (.rg (.o none (.mv 8 (.c (.int .i64 0))) .nil)) <| .block 0 (.loop (.seq (.seq (.rg (.o none (.mv 14 (.t 8)) <|
 .o none (.mv 15 (.t 0)) <|
 .o none (.len 16 (.t 15)) <|
 .o none (.bin 17 .lss false (.t 14) (.t 16)) .nil)) <| .cond (.t 17) (.skip) (.exit 0)) <| .seq (.block 1 (.seq (.rg (.o none (.mv 20 (.t 0)) <|
 .o none (.mv 21 (.t 8)) <|
 .o none (.call (some 22) false (.c (.fn 206 [] [])) [(.t 20), (.t 21)]) <|
 .o none (.mv 23 (.t 1)) <|
 .o none (.mv 24 (.t 8)) <|
 .o none (.call (some 25) false (.c (.fn 206 [] [])) [(.t 23), (.t 24)]) <|
 .o none (.bin 26 .sub false (.t 22) (.t 25)) <|
 .o none (.mv 27 (.t 7)) <|
 .o none (.bin 28 .sub false (.t 26) (.t 27)) <|
 .o none (.mv 9 (.t 28)) .nil)) <| .seq (.rg (.o none (.mv 7 (.c (.int .i64 0))) .nil)) <| .seq (.seq (.rg (.o none (.mv 29 (.t 9)) <|
 .o none (.bin 30 .lss false (.t 29) (.c (.int .i64 0))) .nil)) <| .cond (.t 30) (.seq (.rg (.o none (.mv 31 (.t 9)) <|
 .o none (.bin 32 .add false (.t 31) (.c (.int .i64 65536))) <|
 .o none (.mv 9 (.t 32)) .nil)) <| .rg (.o none (.mv 7 (.c (.int .i64 1))) .nil)) (.skip)) <| .rg (.o none (.mv 33 (.t 6)) <|
 .o none (.mv 34 (.t 9)) <|
 .o none (.conv 35 .u16 (.t 34)) <|
 .o none (.bs 36 1 156 [(.t 35)]) <|
 .o none (.app 37 1 2 156 (.t 33) (.t 36)) <|
 .o none (.mv 6 (.t 37)) .nil))) <| .rg (.o none (.mv 18 (.t 8)) <|
 .o none (.bin 19 .add false (.t 18) (.c (.int .i64 1))) <|
 .o none (.mv 8 (.t 19)) .nil)))) <| .seq (.rg (.o none (.mv 38 (.t 6)) <|
 .o none (.call (some 39) false (.c (.fn 167 [] [])) [(.t 38)]) <|
 .o none (.mv 4 (.t 39)) <|
 .o none (.mv 5 (.c (.int .i64 0))) .nil)) <| .ret⟩
theorem Q7z : Qe Tryz.prog Tryz.f208 = some Q3v := by kernel_rfl
def Q3w : SFn := ⟨65, [.t 4], .seq (.rg (.o none (.mv 4 (.c .nilS)) .nil)) <| .seq (.rg (.o none (.mv 10 (.t 0)) <|
 .o none (.len 11 (.t 10)) <|
 .o none (.mv 12 (.t 1)) <|
 .o none (.len 13 (.t 12)) <|
 .o none (.bin 14 .add false (.t 11) (.t 13)) <|
 .o none (.bin 15 .add false (.t 14) (.c (.int .i64 1))) <|
 .o none (.mk 16 1 2 156 (.int .u16 0) (.t 15) (.t 15)) <|
 .o none (.mv 5 (.t 16)) .nil)) <| .seq (.seq (.rg (.o none (.mv 6 (.c (.int .i64 0))) .nil)) <| .block 0 (.loop (.seq (.seq (.rg (.o none (.mv 17 (.t 6)) <|
 .o none (.mv 18 (.t 0)) <|
 .o none (.len 19 (.t 18)) <|
 .o none (.bin 20 .lss false (.t 17) (.t 19)) .nil)) <| .cond (.t 20) (.skip) (.exit 0)) <| .seq (.block 1 (.seq (.rg (.o none (.mv 7 (.c (.int .u64 0))) .nil)) <| .seq (.rg (.o none (.mv 8 (.c (.int .i64 0))) .nil)) <| .block 2 (.loop (.seq (.seq (.rg (.o none (.mv 23 (.t 8)) <|
 .o none (.mv 24 (.t 1)) <|
 .o none (.len 25 (.t 24)) <|
 .o none (.bin 26 .lss false (.t 23) (.t 25)) <|
 .o none (.mv 27 (.t 26)) <|
 .o (some (27, false)) (.mv 28 (.t 7)) <|
 .o (some (27, false)) (.bin 29 .gtr false (.t 28) (.c (.int .u64 0))) <|
 .o none (.pick 30 (.t 27) (.c (.bool true)) (.t 29)) .nil)) <| .cond (.t 30) (.skip) (.exit 2)) <| .seq (.block 3 (.seq (.rg (.o none (.mv 33 (.t 5)) <|
 .o none (.mv 34 (.t 6)) <|
 .o none (.mv 35 (.t 8)) <|
 .o none (.bin 36 .add false (.t 34) (.t 35)) <|
 .o none (.idx 37 1 (.t 33) (.t 36)) <|
 .o none (.ld 38 1 false (.t 37)) <|
 .o none (.conv 39 .u64 (.t 38)) <|
 .o none (.mv 40 (.t 0)) <|
 .o none (.mv 41 (.t 6)) <|
 .o none (.idx 42 1 (.t 40) (.t 41)) <|
 .o none (.ld 43 1 false (.t 42)) <|
 .o none (.conv 44 .u64 (.t 43)) <|
 .o none (.mv 45 (.t 1)) <|
 .o none (.mv 46 (.t 8)) <|
 .o none (.mv 51 (.t 7)) <|
 .o none (.call (some 47) true (.c (.fn 206 [] [])) [(.t 45), (.t 46)]) <|
 .o none (.conv 48 .u64 (.t 47)) <|
 .o none (.bin 49 .mul false (.t 44) (.t 48)) <|
 .o none (.bin 50 .add false (.t 39) (.t 49)) <|
 .o none (.bin 52 .add false (.t 50) (.t 51)) <|
 .o none (.mv 9 (.t 52)) .nil)) <| .seq (.rg (.o none (.mv 53 (.t 5)) <|
 .o none (.mv 54 (.t 6)) <|
 .o none (.mv 55 (.t 8)) <|
 .o none (.bin 56 .add false (.t 54) (.t 55)) <|
 .o none (.mv 57 (.t 9)) <|
 .o none (.bin 58 .rem false (.t 57) (.c (.int .u64 65536))) <|
 .o none (.conv 59 .u16 (.t 58)) <|
 .o none (.idx 60 1 (.t 53) (.t 56)) <|
 .o none (.st 1 (.t 60) (.t 59)) .nil)) <| .rg (.o none (.mv 61 (.t 9)) <|
 .o none (.bin 62 .quo false (.t 61) (.c (.int .u64 65536))) <|
 .o none (.mv 7 (.t 62)) .nil))) <| .rg (.o none (.mv 31 (.t 8)) <|
 .o none (.bin 32 .add false (.t 31) (.c (.int .i64 1))) <|
 .o none (.mv 8 (.t 32)) .nil))))) <| .rg (.o none (.mv 21 (.t 6)) <|
 .o none (.bin 22 .add false (.t 21) (.c (.int .i64 1))) <|
 .o none (.mv 6 (.t 22)) .nil)))) <| .seq (.rg (.o none (.mv 63 (.t 5)) <|
 .o none (.call (some 64) false (.c (.fn 167 [] [])) [(.t 63)]) <|
 .o none (.mv 4 (.t 64)) .nil)) <| .ret⟩
theorem Q70 : Qe Tryz.prog Tryz.f160 = some Q3w := by kernel_rfl
def Q3x : SFn := ⟨27, [.t 4], .seq (.rg (.o none (.mv 4 (.c (.int .u64 0))) .nil)) <| .seq (.rg (.o none (.mv 5 (.c (.int .u64 0))) <|
 .o none (.mv 6 (.c (.int .u64 65535))) .nil)) <| .seq (.block 0 (.loop (.seq (.seq (.rg (.o none (.mv 8 (.t 5)) <|
 .o none (.mv 9 (.t 6)) <|
 .o none (.bin 10 .lss false (.t 8) (.t 9)) .nil)) <| .cond (.t 10) (.skip) (.exit 0)) <| .block 1 (.seq (.rg (.o none (.mv 11 (.t 5)) <|
 .o none (.mv 12 (.t 6)) <|
 .o none (.bin 13 .add false (.t 11) (.t 12)) <|
 .o none (.bin 14 .add false (.t 13) (.c (.int .u64 1))) <|
 .o none (.bin 15 .quo false (.t 14) (.c (.int .u64 2))) <|
 .o none (.mv 7 (.t 15)) .nil)) <| .seq (.rg (.o none (.mv 16 (.t 1)) <|
 .o none (.mv 17 (.t 7)) <|
 .o none (.call (some 18) false (.c (.fn 106 [] [])) [(.t 17)]) <|
 .o none (.call (some 19) false (.c (.fn 160 [] [])) [(.t 16), (.t 18)]) <|
 .o none (.mv 20 (.t 0)) <|
 .o none (.call (some 21) false (.c (.fn 224 [] [])) [(.t 19), (.t 20)]) <|
 .o none (.bin 22 .leq false (.t 21) (.c (.int .i64 0))) .nil)) <| .cond (.t 22) (.rg (.o none (.mv 23 (.t 7)) <|
 .o none (.mv 5 (.t 23)) .nil)) (.rg (.o none (.mv 24 (.t 7)) <|
 .o none (.bin 25 .sub false (.t 24) (.c (.int .u64 1))) <|
 .o none (.mv 6 (.t 25)) .nil)))))) <| .seq (.rg (.o none (.mv 26 (.t 5)) <|
 .o none (.mv 4 (.t 26)) .nil)) <| .ret⟩
theorem Q71 : Qe Tryz.prog Tryz.f210 = some Q3x := by kernel_rfl
def Q3y : SFn := ⟨73, [.t 4, .t 5, .t 6], .seq (.rg (.o none (.mv 4 (.c .nilS)) <|
 .o none (.mv 5 (.c .nilS)) <|
 .o none (.mv 6 (.c (.int .i64 0))) .nil)) <| .seq (.rg (.o none (.mv 11 (.t 0)) <|
 .o none (.call (some 12) false (.c (.fn 167 [] [])) [(.t 11)]) <|
 .o none (.mv 13 (.t 1)) <|
 .o none (.call (some 14) false (.c (.fn 167 [] [])) [(.t 13)]) <|
 .o none (.mv 0 (.t 12)) <|
 .o none (.mv 1 (.t 14)) .nil)) <| .seq (.seq (.rg (.o none (.mv 15 (.t 1)) <|
 .o none (.len 16 (.t 15)) <|
 .o none (.bin 17 .eql false (.t 16) (.c (.int .i64 0))) .nil)) <| .cond (.t 17) (.seq (.rg (.o none (.mv 4 (.c .nilS)) <|
 .o none (.mv 5 (.c .nilS)) <|
 .o none (.mv 6 (.c (.int .i64 3))) .nil)) <| .ret) (.skip)) <| .seq (.seq (.rg (.o none (.mv 18 (.t 0)) <|
 .o none (.len 19 (.t 18)) <|
 .o none (.bin 20 .leq false (.t 19) (.c (.int .i64 4))) <|
 .o none (.mv 21 (.t 20)) <|
 .o (some (21, true)) (.mv 22 (.t 1)) <|
 .o (some (21, true)) (.len 23 (.t 22)) <|
 .o (some (21, true)) (.bin 24 .leq false (.t 23) (.c (.int .i64 4))) <|
 .o none (.pick 25 (.t 21) (.t 24) (.c (.bool false))) .nil)) <| .cond (.t 25) (.seq (.rg (.o none (.mv 26 (.t 0)) <|
 .o none (.call (some 27) false (.c (.fn 209 [] [])) [(.t 26)]) <|
 .o none (.mv 28 (.t 1)) <|
 .o none (.call (some 29) false (.c (.fn 209 [] [])) [(.t 28)]) <|
 .o none (.bin 30 .quo false (.t 27) (.t 29)) <|
 .o none (.call (some 31) false (.c (.fn 106 [] [])) [(.t 30)]) <|
 .o none (.mv 32 (.t 0)) <|
 .o none (.call (some 33) false (.c (.fn 209 [] [])) [(.t 32)]) <|
 .o none (.mv 34 (.t 1)) <|
 .o none (.call (some 35) false (.c (.fn 209 [] [])) [(.t 34)]) <|
 .o none (.bin 36 .rem false (.t 33) (.t 35)) <|
 .o none (.call (some 37) false (.c (.fn 106 [] [])) [(.t 36)]) <|
 .o none (.mv 4 (.t 31)) <|
 .o none (.mv 5 (.t 37)) <|
 .o none (.mv 6 (.c (.int .i64 0))) .nil)) <| .ret) (.skip)) <| .seq (.rg (.o none (.mv 7 (.c .nilS)) <|
 .o none (.mv 8 (.c .nilS)) .nil)) <| .seq (.seq (.rg (.o none (.mv 38 (.t 0)) <|
 .o none (.len 39 (.t 38)) <|
 .o none (.bin 40 .sub false (.t 39) (.c (.int .i64 1))) <|
 .o none (.mv 9 (.t 40)) .nil)) <| .block 0 (.loop (.seq (.seq (.rg (.o none (.mv 41 (.t 9)) <|
 .o none (.bin 42 .geq false (.t 41) (.c (.int .i64 0))) .nil)) <| .cond (.t 42) (.skip) (.exit 0)) <| .seq (.block 1 (.seq (.rg (.o none (.mv 45 (.t 0)) <|
 .o none (.mv 46 (.t 9)) <|
 .o none (.idx 47 1 (.t 45) (.t 46)) <|
 .o none (.ld 48 1 false (.t 47)) <|
 .o none (.bs 49 1 156 [(.t 48)]) <|
 .o none (.mv 50 (.t 8)) <|
 .o none (.app 51 1 2 156 (.t 49) (.t 50)) <|
 .o none (.call (some 52) false (.c (.fn 167 [] [])) [(.t 51)]) <|
 .o none (.mv 8 (.t 52)) .nil)) <| .seq (.rg (.o none (.mv 53 (.t 8)) <|
 .o none (.mv 54 (.t 1)) <|
 .o none (.call (some 55) false (.c (.fn 210 [] [])) [(.t 53), (.t 54)]) <|
 .o none (.mv 10 (.t 55)) .nil)) <| .seq (.rg (.o none (.mv 56 (.t 10)) <|
 .o none (.conv 57 .u16 (.t 56)) <|
 .o none (.bs 58 1 156 [(.t 57)]) <|
 .o none (.mv 59 (.t 7)) <|
 .o none (.app 60 1 2 156 (.t 58) (.t 59)) <|
 .o none (.mv 7 (.t 60)) .nil)) <| .rg (.o none (.mv 62 (.t 8)) <|
 .o none (.mv 63 (.t 1)) <|
 .o none (.mv 64 (.t 10)) <|
 .o none (.call (some 65) false (.c (.fn 106 [] [])) [(.t 64)]) <|
 .o none (.call (some 66) false (.c (.fn 160 [] [])) [(.t 63), (.t 65)]) <|
 .o none (.call (some 67) false (.c (.fn 208 [] [])) [(.t 62), (.t 66)]) <|
 .o none (.mv 61 (.t 67)) <|
 .o none (.ext 68 (.t 61) 0) <|
 .o none (.ext 69 (.t 61) 1) <|
 .o none (.mv 8 (.t 68)) .nil))) <| .rg (.o none (.mv 43 (.t 9)) <|
 .o none (.bin 44 .sub false (.t 43) (.c (.int .i64 1))) <|
 .o none (.mv 9 (.t 44)) .nil)))) <| .seq (.rg (.o none (.mv 70 (.t 7)) <|
 .o none (.call (some 71) false (.c (.fn 167 [] [])) [(.t 70)]) <|
 .o none (.mv 72 (.t 8)) <|
 .o none (.mv 4 (.t 71)) <|
 .o none (.mv 5 (.t 72)) <|
 .o none (.mv 6 (.c (.int .i64 0))) .nil)) <| .ret⟩
theorem Q72 : Qe Tryz.prog Tryz.f168 = some Q3y := by kernel_rfl
def Q3z : SFn := ⟨25, [.t 4], .seq (.rg (.o none (.mv 4 (.c .nilS)) .nil)) <| .seq (.rg (.o none (.mv 8 (.t 0)) <|
 .o none (.call (some 9) false (.c (.fn 167 [] [])) [(.t 8)]) <|
 .o none (.mv 10 (.t 1)) <|
 .o none (.call (some 11) false (.c (.fn 167 [] [])) [(.t 10)]) <|
 .o none (.mv 0 (.t 9)) <|
 .o none (.mv 1 (.t 11)) .nil)) <| .seq (.block 0 (.loop (.seq (.seq (.rg (.o none (.mv 12 (.t 1)) <|
 .o none (.len 13 (.t 12)) <|
 .o none (.bin 14 .gtr false (.t 13) (.c (.int .i64 0))) .nil)) <| .cond (.t 14) (.skip) (.exit 0)) <| .block 1 (.seq (.rg (.o none (.mv 16 (.t 0)) <|
 .o none (.mv 17 (.t 1)) <|
 .o none (.call (some 18) false (.c (.fn 168 [] [])) [(.t 16), (.t 17)]) <|
 .o none (.mv 15 (.t 18)) <|
 .o none (.ext 19 (.t 15) 0) <|
 .o none (.ext 20 (.t 15) 1) <|
 .o none (.ext 21 (.t 15) 2) <|
 .o none (.mv 5 (.t 19)) <|
 .o none (.mv 6 (.t 20)) <|
 .o none (.mv 7 (.t 21)) .nil)) <| .rg (.o none (.mv 22 (.t 1)) <|
 .o none (.mv 23 (.t 6)) <|
 .o none (.mv 0 (.t 22)) <|
 .o none (.mv 1 (.t 23)) .nil))))) <| .seq (.rg (.o none (.mv 24 (.t 0)) <|
 .o none (.mv 4 (.t 24)) .nil)) <| .ret⟩
theorem Q73 : Qe Tryz.prog Tryz.f120 = some Q3z := by kernel_rfl
def Q30 : SFn := ⟨15, [.t 2], .seq (.rg (.o none (.mv 2 (.c (.bool false))) .nil)) <| .seq (.rg (.o none (.mv 3 (.t 0)) <|
 .o none (.len 4 (.t 3)) <|
 .o none (.bin 5 .eql false (.t 4) (.c (.int .i64 0))) <|
 .o none (.mv 6 (.t 5)) <|
 .o (some (6, false)) (.mv 7 (.t 0)) <|
 .o (some (6, false)) (.mv 8 (.t 0)) <|
 .o (some (6, false)) (.len 9 (.t 8)) <|
 .o (some (6, false)) (.bin 10 .sub false (.t 9) (.c (.int .i64 1))) <|
 .o (some (6, false)) (.idx 11 1 (.t 7) (.t 10)) <|
 .o (some (6, false)) (.ld 12 1 false (.t 11)) <|
 .o (some (6, false)) (.bin 13 .neq false (.t 12) (.c (.int .u16 0))) <|
 .o none (.pick 14 (.t 6) (.c (.bool true)) (.t 13)) <|
 .o none (.mv 2 (.t 14)) .nil)) <| .ret⟩
theorem Q74 : Qe Tryz.prog Tryz.f119 = some Q30 := by kernel_rfl
def c88 : SFn := ⟨26, [.t 4], .seq (.rg (.o none (.mv 4 (.c (.bool false))) .nil)) <| .seq (.seq (.rg (.o none (.mv 6 (.t 0)) <|
 .o none (.len 7 (.t 6)) <|
 .o none (.mv 8 (.t 1)) <|
 .o none (.len 9 (.t 8)) <|
 .o none (.bin 10 .neq false (.t 7) (.t 9)) .nil)) <| .cond (.t 10) (.seq (.rg (.o none (.mv 4 (.c (.bool false))) .nil)) <| .ret) (.skip)) <| .seq (.seq (.rg (.o none (.mv 5 (.c (.int .i64 0))) .nil)) <| .block 0 (.loop (.seq (.seq (.rg (.o none (.mv 11 (.t 5)) <|
 .o none (.mv 12 (.t 0)) <|
 .o none (.len 13 (.t 12)) <|
 .o none (.bin 14 .lss false (.t 11) (.t 13)) .nil)) <| .cond (.t 14) (.skip) (.exit 0)) <| .seq (.block 1 (.seq (.rg (.o none (.mv 17 (.t 0)) <|
 .o none (.mv 18 (.t 5)) <|
 .o none (.idx 19 1 (.t 17) (.t 18)) <|
 .o none (.ld 20 1 false (.t 19)) <|
 .o none (.mv 21 (.t 1)) <|
 .o none (.mv 22 (.t 5)) <|
 .o none (.idx 23 1 (.t 21) (.t 22)) <|
 .o none (.ld 24 1 false (.t 23)) <|
 .o none (.bin 25 .neq false (.t 20) (.t 24)) .nil)) <| .cond (.t 25) (.seq (.rg (.o none (.mv 4 (.c (.bool false))) .nil)) <| .ret) (.skip))) <| .rg (.o none (.mv 15 (.t 5)) <|
 .o none (.bin 16 .add false (.t 15) (.c (.int .i64 1))) <|
 .o none (.mv 5 (.t 16)) .nil)))) <| .seq (.rg (.o none (.mv 4 (.c (.bool true))) .nil)) <| .ret⟩
theorem Qaay : Qe Tryz.prog Tryz.f88 = some c88 := by kernel_rfl
def Q31 : SFn := ⟨17, [.t 2], .seq (.rg (.o none (.box 1 2 30 (.t 0)) <|
 .o none (.mv 2 (.c (.bool false))) .nil)) <| .seq (.rg (.o none (.fld 3 1 (.t 1)) <|
 .o none (.ld 4 1 false (.t 3)) <|
 .o none (.call (some 5) false (.c (.fn 119 [] [])) [(.t 4)]) <|
 .o none (.mv 6 (.t 5)) <|
 .o (some (6, true)) (.fld 7 0 (.t 1)) <|
 .o (some (6, true)) (.ld 8 1 false (.t 7)) <|
 .o (some (6, true)) (.mv 9 (.t 8)) <|
 .o (some (9, true)) (.fld 10 1 (.t 1)) <|
 .o (some (9, true)) (.ld 11 1 false (.t 10)) <|
 .o (some (9, true)) (.len 12 (.t 11)) <|
 .o (some (9, true)) (.bin 13 .eql false (.t 12) (.c (.int .i64 0))) <|
 .o (some (6, true)) (.pick 14 (.t 9) (.t 13) (.c (.bool false))) <|
 .o (some (6, true)) (.un 15 .not (.t 14)) <|
 .o none (.pick 16 (.t 6) (.t 15) (.c (.bool false))) <|
 .o none (.mv 2 (.t 16)) .nil)) <| .ret⟩
theorem Q75 : Qe Tryz.prog Tryz.f118 = some Q31 := by kernel_rfl
def Q32 : SFn := ⟨15, [.cell 4 2 true], .seq (.rg (.o none (.alloc 4 2 30 (.agg [(.bool false), .nilS])) .nil)) <| .seq (.rg (.o none (.mv 5 (.t 1)) <|
 .o none (.call (some 6) false (.c (.fn 167 [] [])) [(.t 5)]) <|
 .o none (.mv 1 (.t 6)) .nil)) <| .seq (.rg (.o none (.mv 7 (.t 0)) <|
 .o none (.mv 8 (.t 7)) <|
 .o (some (8, true)) (.mv 9 (.t 1)) <|
 .o (some (8, true)) (.len 10 (.t 9)) <|
 .o (some (8, true)) (.bin 11 .gtr false (.t 10) (.c (.int .i64 0))) <|
 .o none (.pick 12 (.t 8) (.t 11) (.c (.bool false))) <|
 .o none (.mv 13 (.t 1)) <|
 .o none (.bld 14 [(.bool false), .nilS] [(0, 1, (.t 12)), (1, 1, (.t 13))]) <|
 .o none (.st 2 (.t 4) (.t 14)) .nil)) <| .ret⟩
theorem Q76 : Qe Tryz.prog Tryz.f170 = some Q32 := by kernel_rfl
def Q33 : SFn := ⟨8, [.cell 2 2 true], .seq (.rg (.o none (.box 1 2 30 (.t 0)) <|
 .o none (.alloc 2 2 30 (.agg [(.bool false), .nilS])) .nil)) <| .seq (.rg (.o none (.fld 3 0 (.t 1)) <|
 .o none (.ld 4 1 false (.t 3)) <|
 .o none (.fld 5 1 (.t 1)) <|
 .o none (.ld 6 1 false (.t 5)) <|
 .o none (.call (some 7) false (.c (.fn 170 [] [])) [(.t 4), (.t 6)]) <|
 .o none (.st 2 (.t 2) (.t 7)) .nil)) <| .ret⟩
theorem Q77 : Qe Tryz.prog Tryz.f169 = some Q33 := by kernel_rfl
def Q34 : SFn := ⟨17, [.cell 2 2 true], .seq (.rg (.o none (.alloc 2 2 30 (.agg [(.bool false), .nilS])) .nil)) <| .seq (.seq (.rg (.o none (.mv 3 (.t 0)) <|
 .o none (.bin 4 .lss false (.t 3) (.c (.int .i64 0))) .nil)) <| .cond (.t 4) (.seq (.rg (.o none (.mv 5 (.t 0)) <|
 .o none (.bin 6 .add false (.t 5) (.c (.int .i64 1))) <|
 .o none (.un 7 .neg (.t 6)) <|
 .o none (.conv 8 .u64 (.t 7)) <|
 .o none (.call (some 9) false (.c (.fn 106 [] [])) [(.t 8)]) <|
 .o none (.call (some 10) false (.c (.fn 106 [] [])) [(.c (.int .u64 1))]) <|
 .o none (.call (some 11) false (.c (.fn 171 [] [])) [(.t 9), (.t 10)]) <|
 .o none (.call (some 12) false (.c (.fn 170 [] [])) [(.c (.bool true)), (.t 11)]) <|
 .o none (.st 2 (.t 2) (.t 12)) .nil)) <| .ret) (.skip)) <| .seq (.rg (.o none (.mv 13 (.t 0)) <|
 .o none (.conv 14 .u64 (.t 13)) <|
 .o none (.call (some 15) false (.c (.fn 106 [] [])) [(.t 14)]) <|
 .o none (.call (some 16) false (.c (.fn 170 [] [])) [(.c (.bool false)), (.t 15)]) <|
 .o none (.st 2 (.t 2) (.t 16)) .nil)) <| .ret⟩
theorem Q78 : Qe Tryz.prog Tryz.f105 = some Q34 := by kernel_rfl
def Q35 : SFn := ⟨11, [.t 2], .seq (.rg (.o none (.box 1 2 30 (.t 0)) <|
 .o none (.mv 2 (.c (.int .i64 0))) .nil)) <| .seq (.rg (.o none (.ld 3 2 true (.t 1)) <|
 .o none (.call (some 4) false (.c (.fn 169 [] [])) [(.t 3)]) <|
 .o none (.st 2 (.t 1) (.t 4)) .nil)) <| .seq (.seq (.rg (.o none (.fld 5 1 (.t 1)) <|
 .o none (.ld 6 1 false (.t 5)) <|
 .o none (.len 7 (.t 6)) <|
 .o none (.bin 8 .eql false (.t 7) (.c (.int .i64 0))) .nil)) <| .cond (.t 8) (.seq (.rg (.o none (.mv 2 (.c (.int .i64 0))) .nil)) <| .ret) (.skip)) <| .seq (.seq (.rg (.o none (.fld 9 0 (.t 1)) <|
 .o none (.ld 10 1 false (.t 9)) .nil)) <| .cond (.t 10) (.seq (.rg (.o none (.mv 2 (.c (.int .i64 (-1)))) .nil)) <| .ret) (.skip)) <| .seq (.rg (.o none (.mv 2 (.c (.int .i64 1))) .nil)) <| .ret⟩
theorem Q79 : Qe Tryz.prog Tryz.f156 = some Q35 := by kernel_rfl
def Q36 : SFn := ⟨38, [.t 4], .seq (.rg (.o none (.box 2 2 30 (.t 0)) <|
 .o none (.box 3 2 30 (.t 1)) <|
 .o none (.mv 4 (.c (.int .i64 0))) .nil)) <| .seq (.rg (.o none (.ld 5 2 true (.t 2)) <|
 .o none (.ld 7 2 true (.t 3)) <|
 .o none (.call (some 6) true (.c (.fn 169 [] [])) [(.t 5)]) <|
 .o none (.call (some 8) true (.c (.fn 169 [] [])) [(.t 7)]) <|
 .o none (.st 2 (.t 2) (.t 6)) <|
 .o none (.st 2 (.t 3) (.t 8)) .nil)) <| .seq (.block 0 (.seq (.rg (.o none (.fld 10 0 (.t 2)) <|
 .o none (.ld 11 1 false (.t 10)) <|
 .o none (.mv 12 (.t 11)) <|
 .o (some (12, true)) (.fld 13 0 (.t 3)) <|
 .o (some (12, true)) (.ld 14 1 false (.t 13)) <|
 .o (some (12, true)) (.un 15 .not (.t 14)) <|
 .o none (.pick 16 (.t 12) (.t 15) (.c (.bool false))) <|
 .o none (.mv 9 (.t 16)) .nil)) <| .cond (.t 9) (.seq (.rg (.o none (.mv 4 (.c (.int .i64 (-1)))) .nil)) <| .ret) (.seq (.rg (.o none (.fld 18 0 (.t 3)) <|
 .o none (.ld 19 1 false (.t 18)) <|
 .o none (.mv 20 (.t 19)) <|
 .o (some (20, true)) (.fld 21 0 (.t 2)) <|
 .o (some (20, true)) (.ld 22 1 false (.t 21)) <|
 .o (some (20, true)) (.un 23 .not (.t 22)) <|
 .o none (.pick 24 (.t 20) (.t 23) (.c (.bool false))) <|
 .o none (.mv 17 (.t 24)) .nil)) <| .cond (.t 17) (.seq (.rg (.o none (.mv 4 (.c (.int .i64 1))) .nil)) <| .ret) (.seq (.rg (.o none (.fld 26 0 (.t 2)) <|
 .o none (.ld 27 1 false (.t 26)) <|
 .o none (.mv 25 (.t 27)) .nil)) <| .cond (.t 25) (.seq (.rg (.o none (.fld 28 1 (.t 3)) <|
 .o none (.ld 29 1 false (.t 28)) <|
 .o none (.fld 30 1 (.t 2)) <|
 .o none (.ld 31 1 false (.t 30)) <|
 .o none (.call (some 32) false (.c (.fn 224 [] [])) [(.t 29), (.t 31)]) <|
 .o none (.mv 4 (.t 32)) .nil)) <| .ret) (.skip))))) <| .seq (.rg (.o none (.fld 33 1 (.t 2)) <|
 .o none (.ld 34 1 false (.t 33)) <|
 .o none (.fld 35 1 (.t 3)) <|
 .o none (.ld 36 1 false (.t 35)) <|
 .o none (.call (some 37) false (.c (.fn 224 [] [])) [(.t 34), (.t 36)]) <|
 .o none (.mv 4 (.t 37)) .nil)) <| .ret⟩
theorem Q8a : Qe Tryz.prog Tryz.f201 = some Q36 := by kernel_rfl
def Q37 : SFn := ⟨9, [.cell 2 2 true], .seq (.rg (.o none (.box 1 2 30 (.t 0)) <|
 .o none (.alloc 2 2 30 (.agg [(.bool false), .nilS])) .nil)) <| .seq (.rg (.o none (.fld 3 0 (.t 1)) <|
 .o none (.ld 4 1 false (.t 3)) <|
 .o none (.un 5 .not (.t 4)) <|
 .o none (.fld 6 1 (.t 1)) <|
 .o none (.ld 7 1 false (.t 6)) <|
 .o none (.call (some 8) false (.c (.fn 170 [] [])) [(.t 5), (.t 7)]) <|
 .o none (.st 2 (.t 2) (.t 8)) .nil)) <| .ret⟩
theorem Q8b : Qe Tryz.prog Tryz.f158 = some Q37 := by kernel_rfl
def Q38 : SFn := ⟨16, [.cell 4 2 true], .seq (.rg (.o none (.box 2 2 30 (.t 0)) <|
 .o none (.box 3 2 30 (.t 1)) <|
 .o none (.alloc 4 2 30 (.agg [(.bool false), .nilS])) .nil)) <| .seq (.rg (.o none (.fld 5 0 (.t 2)) <|
 .o none (.ld 6 1 false (.t 5)) <|
 .o none (.fld 7 0 (.t 3)) <|
 .o none (.ld 8 1 false (.t 7)) <|
 .o none (.bin 9 .neq true (.t 6) (.t 8)) <|
 .o none (.fld 10 1 (.t 2)) <|
 .o none (.ld 11 1 false (.t 10)) <|
 .o none (.fld 12 1 (.t 3)) <|
 .o none (.ld 13 1 false (.t 12)) <|
 .o none (.call (some 14) true (.c (.fn 160 [] [])) [(.t 11), (.t 13)]) <|
 .o none (.call (some 15) true (.c (.fn 170 [] [])) [(.t 9), (.t 14)]) <|
 .o none (.st 2 (.t 4) (.t 15)) .nil)) <| .ret⟩
theorem Q8c : Qe Tryz.prog Tryz.f159 = some Q38 := by kernel_rfl
def c87 : SFn := ⟨17, [.t 4], .seq (.rg (.o none (.box 2 2 30 (.t 0)) <|
 .o none (.box 3 2 30 (.t 1)) <|
 .o none (.mv 4 (.c (.bool false))) .nil)) <| .seq (.rg (.o none (.fld 5 0 (.t 2)) <|
 .o none (.ld 6 1 false (.t 5)) <|
 .o none (.fld 7 0 (.t 3)) <|
 .o none (.ld 8 1 false (.t 7)) <|
 .o none (.bin 9 .eql true (.t 6) (.t 8)) <|
 .o none (.mv 10 (.t 9)) <|
 .o (some (10, true)) (.fld 11 1 (.t 2)) <|
 .o (some (10, true)) (.ld 12 1 false (.t 11)) <|
 .o (some (10, true)) (.fld 13 1 (.t 3)) <|
 .o (some (10, true)) (.ld 14 1 false (.t 13)) <|
 .o (some (10, true)) (.call (some 15) false (.c (.fn 88 [] [])) [(.t 12), (.t 14)]) <|
 .o none (.pick 16 (.t 10) (.t 15) (.c (.bool false))) <|
 .o none (.mv 4 (.t 16)) .nil)) <| .ret⟩
theorem Qaaz : Qe Tryz.prog Tryz.f87 = some c87 := by kernel_rfl
def c45 : SFn := ⟨27, [.t 2], .seq (.rg (.o none (.box 1 3 32 (.t 0)) <|
 .o none (.mv 2 (.c (.bool false))) .nil)) <| .seq (.rg (.o none (.fld 3 0 (.t 1)) <|
 .o none (.ld 4 2 true (.t 3)) <|
 .o none (.call (some 5) false (.c (.fn 118 [] [])) [(.t 4)]) <|
 .o none (.mv 6 (.t 5)) <|
 .o (some (6, true)) (.fld 7 2 (.t 1)) <|
 .o (some (6, true)) (.ld 8 1 false (.t 7)) <|
 .o (some (6, true)) (.call (some 9) false (.c (.fn 119 [] [])) [(.t 8)]) <|
 .o none (.pick 10 (.t 6) (.t 9) (.c (.bool false))) <|
 .o none (.mv 11 (.t 10)) <|
 .o (some (11, true)) (.fld 12 0 (.t 1)) <|
 .o (some (11, true)) (.fld 13 1 (.t 12)) <|
 .o (some (11, true)) (.ld 14 1 false (.t 13)) <|
 .o (some (11, true)) (.fld 15 2 (.t 1)) <|
 .o (some (11, true)) (.ld 16 1 false (.t 15)) <|
 .o (some (11, true)) (.call (some 17) false (.c (.fn 120 [] [])) [(.t 14), (.t 16)]) <|
 .o (some (11, true)) (.call (some 18) false (.c (.fn 106 [] [])) [(.c (.int .u64 1))]) <|
 .o (some (11, true)) (.call (some 19) false (.c (.fn 88 [] [])) [(.t 17), (.t 18)]) <|
 .o none (.pick 20 (.t 11) (.t 19) (.c (.bool false))) <|
 .o none (.mv 21 (.t 20)) <|
 .o (some (21, true)) (.fld 22 2 (.t 1)) <|
 .o (some (21, true)) (.ld 23 1 false (.t 22)) <|
 .o (some (21, true)) (.len 24 (.t 23)) <|
 .o (some (21, true)) (.bin 25 .gtr false (.t 24) (.c (.int .i64 0))) <|
 .o none (.pick 26 (.t 21) (.t 25) (.c (.bool false))) <|
 .o none (.mv 2 (.t 26)) .nil)) <| .ret⟩
theorem Qaa0 : Qe Tryz.prog Tryz.f45 = some c45 := by kernel_rfl
def Q39 : SFn := ⟨44, [.cell 4 3 true], .seq (.rg (.o none (.box 2 2 30 (.t 0)) <|
 .o none (.alloc 4 3 32 (.agg [(.bool false), .nilS, .nilS])) .nil)) <| .seq (.seq (.rg (.o none (.mv 12 (.t 1)) <|
 .o none (.call (some 13) false (.c (.fn 167 [] [])) [(.t 12)]) <|
 .o none (.len 14 (.t 13)) <|
 .o none (.bin 15 .eql false (.t 14) (.c (.int .i64 0))) .nil)) <| .cond (.t 15) (.seq (.rg (.o none (.call (some 16) false (.c (.fn 106 [] [])) [(.c (.int .u64 1))]) <|
 .o none (.bld 17 [(.bool false), .nilS, .nilS] [(2, 1, (.t 16))]) <|
 .o none (.st 3 (.t 4) (.t 17)) .nil)) <| .ret) (.skip)) <| .seq (.rg (.o none (.fld 18 1 (.t 2)) <|
 .o none (.ld 19 1 false (.t 18)) <|
 .o none (.mv 20 (.t 1)) <|
 .o none (.call (some 21) false (.c (.fn 120 [] [])) [(.t 19), (.t 20)]) <|
 .o none (.mv 5 (.t 21)) .nil)) <| .seq (.rg (.o none (.fld 23 1 (.t 2)) <|
 .o none (.ld 24 1 false (.t 23)) <|
 .o none (.mv 25 (.t 5)) <|
 .o none (.call (some 26) false (.c (.fn 168 [] [])) [(.t 24), (.t 25)]) <|
 .o none (.mv 22 (.t 26)) <|
 .o none (.ext 27 (.t 22) 0) <|
 .o none (.ext 28 (.t 22) 1) <|
 .o none (.ext 29 (.t 22) 2) <|
 .o none (.mv 6 (.t 27)) <|
 .o none (.mv 7 (.t 28)) <|
 .o none (.mv 8 (.t 29)) .nil)) <| .seq (.rg (.o none (.mv 31 (.t 1)) <|
 .o none (.mv 32 (.t 5)) <|
 .o none (.call (some 33) false (.c (.fn 168 [] [])) [(.t 31), (.t 32)]) <|
 .o none (.mv 30 (.t 33)) <|
 .o none (.ext 34 (.t 30) 0) <|
 .o none (.ext 35 (.t 30) 1) <|
 .o none (.ext 36 (.t 30) 2) <|
 .o none (.mv 9 (.t 34)) <|
 .o none (.mv 10 (.t 35)) <|
 .o none (.mv 11 (.t 36)) .nil)) <| .seq (.rg (.o none (.fld 37 0 (.t 2)) <|
 .o none (.ld 38 1 false (.t 37)) <|
 .o none (.mv 39 (.t 6)) <|
 .o none (.bld 40 [(.bool false), .nilS] [(0, 1, (.t 38)), (1, 1, (.t 39))]) <|
 .o none (.call (some 41) false (.c (.fn 169 [] [])) [(.t 40)]) <|
 .o none (.mv 42 (.t 9)) <|
 .o none (.bld 43 [(.bool false), .nilS, .nilS] [(0, 2, (.t 41)), (2, 1, (.t 42))]) <|
 .o none (.st 3 (.t 4) (.t 43)) .nil)) <| .ret⟩
theorem Q8d : Qe Tryz.prog Tryz.f104 = some Q39 := by kernel_rfl
def Q4a : SFn := ⟨8, [.cell 2 3 true], .seq (.rg (.o none (.box 1 3 32 (.t 0)) <|
 .o none (.alloc 2 3 32 (.agg [(.bool false), .nilS, .nilS])) .nil)) <| .seq (.rg (.o none (.fld 3 0 (.t 1)) <|
 .o none (.ld 4 2 true (.t 3)) <|
 .o none (.fld 5 2 (.t 1)) <|
 .o none (.ld 6 1 false (.t 5)) <|
 .o none (.call (some 7) false (.c (.fn 104 [] [])) [(.t 4), (.t 6)]) <|
 .o none (.st 3 (.t 2) (.t 7)) .nil)) <| .ret⟩
theorem Q8e : Qe Tryz.prog Tryz.f157 = some Q4a := by kernel_rfl
def Q4b : SFn := ⟨18, [.cell 4 3 true, .t 5], .seq (.rg (.o none (.box 2 2 30 (.t 0)) <|
 .o none (.box 3 2 30 (.t 1)) <|
 .o none (.alloc 4 3 32 (.agg [(.bool false), .nilS, .nilS])) <|
 .o none (.mv 5 (.c (.int .i64 0))) .nil)) <| .seq (.seq (.rg (.o none (.ld 6 2 true (.t 3)) <|
 .o none (.call (some 7) false (.c (.fn 156 [] [])) [(.t 6)]) <|
 .o none (.bin 8 .eql false (.t 7) (.c (.int .i64 0))) .nil)) <| .cond (.t 8) (.seq (.rg (.o none (.bld 9 [(.bool false), .nilS, .nilS] []) <|
 .o none (.st 3 (.t 4) (.t 9)) <|
 .o none (.mv 5 (.c (.int .i64 3))) .nil)) <| .ret) (.skip)) <| .seq (.seq (.rg (.o none (.fld 10 0 (.t 3)) <|
 .o none (.ld 11 1 false (.t 10)) .nil)) <| .cond (.t 11) (.rg (.o none (.ld 12 2 true (.t 2)) <|
 .o none (.call (some 13) false (.c (.fn 158 [] [])) [(.t 12)]) <|
 .o none (.st 2 (.t 2) (.t 13)) .nil)) (.skip)) <| .seq (.rg (.o none (.ld 14 2 true (.t 2)) <|
 .o none (.fld 15 1 (.t 3)) <|
 .o none (.ld 16 1 false (.t 15)) <|
 .o none (.call (some 17) false (.c (.fn 104 [] [])) [(.t 14), (.t 16)]) <|
 .o none (.st 3 (.t 4) (.t 17)) <|
 .o none (.mv 5 (.c (.int .i64 0))) .nil)) <| .ret⟩
theorem Q8f : Qe Tryz.prog Tryz.f147 = some Q4b := by kernel_rfl
def c34 : SFn := ⟨7, [.cell 2 3 true], .seq (.rg (.o none (.alloc 2 3 32 (.agg [(.bool false), .nilS, .nilS])) .nil)) <| .seq (.rg (.o none (.mv 3 (.t 0)) <|
 .o none (.call (some 4) false (.c (.fn 105 [] [])) [(.t 3)]) <|
 .o none (.call (some 5) false (.c (.fn 106 [] [])) [(.c (.int .u64 1))]) <|
 .o none (.call (some 6) false (.c (.fn 104 [] [])) [(.t 4), (.t 5)]) <|
 .o none (.st 3 (.t 2) (.t 6)) .nil)) <| .ret⟩
theorem Qaa1 : Qe Tryz.prog Tryz.f34 = some c34 := by kernel_rfl
def Q4c : SFn := ⟨5, [.cell 2 2 true], .seq (.rg (.o none (.alloc 2 2 30 (.agg [(.bool false), .nilS])) .nil)) <| .seq (.rg (.o none (.mv 3 (.t 0)) <|
 .o none (.bld 4 [(.bool false), .nilS] [(1, 1, (.t 3))]) <|
 .o none (.st 2 (.t 2) (.t 4)) .nil)) <| .ret⟩
theorem Q8g : Qe Tryz.prog Tryz.f161 = some Q4c := by kernel_rfl
def Q4d : SFn := ⟨22, [.t 4], .seq (.rg (.o none (.box 2 3 32 (.t 0)) <|
 .o none (.box 3 3 32 (.t 1)) <|
 .o none (.mv 4 (.c (.int .i64 0))) .nil)) <| .seq (.rg (.o none (.ld 5 3 true (.t 2)) <|
 .o none (.ld 7 3 true (.t 3)) <|
 .o none (.call (some 6) true (.c (.fn 157 [] [])) [(.t 5)]) <|
 .o none (.call (some 8) true (.c (.fn 157 [] [])) [(.t 7)]) <|
 .o none (.st 3 (.t 2) (.t 6)) <|
 .o none (.st 3 (.t 3) (.t 8)) .nil)) <| .seq (.rg (.o none (.fld 9 0 (.t 2)) <|
 .o none (.ld 10 2 true (.t 9)) <|
 .o none (.fld 11 2 (.t 3)) <|
 .o none (.ld 12 1 false (.t 11)) <|
 .o none (.fld 15 0 (.t 3)) <|
 .o none (.ld 16 2 true (.t 15)) <|
 .o none (.fld 17 2 (.t 2)) <|
 .o none (.ld 18 1 false (.t 17)) <|
 .o none (.call (some 13) true (.c (.fn 161 [] [])) [(.t 12)]) <|
 .o none (.call (some 14) true (.c (.fn 159 [] [])) [(.t 10), (.t 13)]) <|
 .o none (.call (some 19) true (.c (.fn 161 [] [])) [(.t 18)]) <|
 .o none (.call (some 20) true (.c (.fn 159 [] [])) [(.t 16), (.t 19)]) <|
 .o none (.call (some 21) true (.c (.fn 201 [] [])) [(.t 14), (.t 20)]) <|
 .o none (.mv 4 (.t 21)) .nil)) <| .ret⟩
theorem Q8h : Qe Tryz.prog Tryz.f148 = some Q4d := by kernel_rfl
def c72 : SFn := ⟨9, [.t 4], .seq (.rg (.o none (.box 2 3 32 (.t 0)) <|
 .o none (.box 3 3 32 (.t 1)) <|
 .o none (.mv 4 (.c (.bool false))) .nil)) <| .seq (.rg (.o none (.ld 5 3 true (.t 2)) <|
 .o none (.ld 6 3 true (.t 3)) <|
 .o none (.call (some 7) false (.c (.fn 148 [] [])) [(.t 5), (.t 6)]) <|
 .o none (.bin 8 .eql false (.t 7) (.c (.int .i64 0))) <|
 .o none (.mv 4 (.t 8)) .nil)) <| .ret⟩
theorem Qaa2 : Qe Tryz.prog Tryz.f72 = some c72 := by kernel_rfl
def c83 : SFn := ⟨16, [.cell 4 3 true], .seq (.rg (.o none (.box 2 3 32 (.t 0)) <|
 .o none (.box 3 3 32 (.t 1)) <|
 .o none (.alloc 4 3 32 (.agg [(.bool false), .nilS, .nilS])) .nil)) <| .seq (.rg (.o none (.fld 5 0 (.t 2)) <|
 .o none (.ld 6 2 true (.t 5)) <|
 .o none (.fld 7 0 (.t 3)) <|
 .o none (.ld 8 2 true (.t 7)) <|
 .o none (.fld 10 2 (.t 2)) <|
 .o none (.ld 11 1 false (.t 10)) <|
 .o none (.fld 12 2 (.t 3)) <|
 .o none (.ld 13 1 false (.t 12)) <|
 .o none (.call (some 9) true (.c (.fn 159 [] [])) [(.t 6), (.t 8)]) <|
 .o none (.call (some 14) true (.c (.fn 160 [] [])) [(.t 11), (.t 13)]) <|
 .o none (.call (some 15) true (.c (.fn 104 [] [])) [(.t 9), (.t 14)]) <|
 .o none (.st 3 (.t 4) (.t 15)) .nil)) <| .ret⟩
theorem Qaa3 : Qe Tryz.prog Tryz.f83 = some c83 := by kernel_rfl
def c20 : SFn := ⟨17, [.t 4], .seq (.rg (.o none (.box 2 3 32 (.t 0)) <|
 .o none (.box 3 3 32 (.t 1)) <|
 .o none (.mv 4 (.c (.bool false))) .nil)) <| .seq (.rg (.o none (.fld 5 0 (.t 2)) <|
 .o none (.ld 6 2 true (.t 5)) <|
 .o none (.fld 7 0 (.t 3)) <|
 .o none (.ld 8 2 true (.t 7)) <|
 .o none (.call (some 9) false (.c (.fn 87 [] [])) [(.t 6), (.t 8)]) <|
 .o none (.mv 10 (.t 9)) <|
 .o (some (10, true)) (.fld 11 2 (.t 2)) <|
 .o (some (10, true)) (.ld 12 1 false (.t 11)) <|
 .o (some (10, true)) (.fld 13 2 (.t 3)) <|
 .o (some (10, true)) (.ld 14 1 false (.t 13)) <|
 .o (some (10, true)) (.call (some 15) false (.c (.fn 88 [] [])) [(.t 12), (.t 14)]) <|
 .o none (.pick 16 (.t 10) (.t 15) (.c (.bool false))) <|
 .o none (.mv 4 (.t 16)) .nil)) <| .ret⟩
theorem Qaa4 : Qe Tryz.prog Tryz.f20 = some c20 := by kernel_rfl
end Go.Proofs.YtmnkngmmfnncoaaGreat
namespace Go.Proofs.YtmnkngmmfnncoaaGreat
open Go Go.FW
set_option linter.unusedSimpArgs false
set_option linter.unusedVariables false
set_option maxRecDepth 100000
theorem Qbi {l : List Nat} (hv : Qg l) (hl : l.length < 2 ^ 42) : Qf Tryz.prog 167 [PV.nat l] (· = PV.num (val l)) := by
 have hcut := Qjp hv
 refine Qh Qn Tryz.func167 rfl Q7t (by simp [Q3p]) fun C hP => ?_; simp only [Q3p]
 simp +decide (disch := first | omega | rfl | (simp +decide only [go_sem, ↓reduceIte] <;> rfl) | fail) only [go_sem, ↓reduceIte]
 refine Qaj (by repeat (first | exact Q2 | exact Qu | exact Qv | exact Qw | exact Qx | apply Qt | apply Qz | apply Q7 | apply Qad | apply Qae | apply Qp | apply Q5)) [(3, 3), (7, 18)] [] (fun m J hp => m <= l.length /\ cut l m = dig (val l) /\ J 3 = .int .i64 m /\ hp = hp0) l.length ?_ ?_
 ·refine ⟨Nat.le_refl _, hcut, ?_⟩
  simp +decide (disch := first | omega | rfl | (simp +decide only [go_sem, ↓reduceIte] <;> rfl) | fail) only [go_sem, ↓reduceIte]
 rintro n J _ ⟨hn, hc, h3, rfl⟩
 simp +decide (disch := first | omega | rfl | (simp +decide only [go_sem, ↓reduceIte, h3] <;> rfl) | fail) only [go_sem, ↓reduceIte, h3]
 refine Qbp (fun hg => ?_) (fun hg => ?_)
 ·obtain _ | n := n
  ·omega
  have e : ((n + 1 : Nat) : Int) - 1 = n := by omega
  simp only [cut] at hc
  simp +decide (disch := first | omega | rfl | (simp +decide only [go_sem, ↓reduceIte, h3, e] <;> rfl) | fail) only [go_sem, ↓reduceIte, h3, e]
  refine Qb (fun hz => ?_) (fun hz => ?_)
  ·rw [if_pos (by grind)] at hc
   simp +decide (disch := first | omega | rfl | (simp +decide only [go_sem, ↓reduceIte, h3, e] <;> rfl) | fail) only [go_sem, ↓reduceIte, h3, e]
   refine Qac n (by omega) ⟨by omega, hc, ?_⟩
   simp +decide (disch := first | omega | rfl | (simp +decide only [go_sem, ↓reduceIte] <;> rfl) | fail) only [go_sem, ↓reduceIte]
  ·rw [if_neg (by grind)] at hc
   have hlt : (l.take (n + 1)).length < 2 ^ 42 := by rw [List.length_take]; omega
   simp +decide (disch := first | omega | rfl | (simp +decide only [go_sem, ↓reduceIte, h3, e, Ql, List.contains_cons, List.contains_nil, List.flatMap_cons, List.flatMap_nil, List.append_nil] <;> rfl) | fail) only [go_sem, ↓reduceIte, h3, e, Ql, List.contains_cons, List.contains_nil, List.flatMap_cons, List.flatMap_nil, List.append_nil]
   exact Qc (by rw [List.take_of_length_le (by simp), hc]) rfl
 ·obtain rfl : n = 0 := by omega
  simp +decide (disch := first | omega | rfl | (simp +decide only [go_sem, ↓reduceIte, h3, List.take_zero, List.map_nil, List.length_nil] <;> rfl) | fail) only [go_sem, ↓reduceIte, h3, List.take_zero, List.map_nil, List.length_nil]
  rw [Qn7 (ys := []) rfl (by omega) (by simp) (by simp)]
  simp +decide (disch := first | omega | rfl | (simp +decide only [go_sem, ↓reduceIte, Ql, List.contains_cons, List.contains_nil, List.flatMap_cons, List.flatMap_nil, List.append_nil] <;> rfl) | fail) only [go_sem, ↓reduceIte, Ql, List.contains_cons, List.contains_nil, List.flatMap_cons, List.flatMap_nil, List.append_nil]
  exact Qc (by show _ = PV.nat (dig (val l)); rw [<- hc]; rfl) rfl
theorem Qcj {n : Nat} (hn : n < 18446744073709551616) : Qf Tryz.prog 106 [.int .u64 n] (· = PV.num n) := by
 have hlen := Qdi hn
 unfold nl at hlen
 refine Qh Qn Tryz.func106 rfl Q7u (by simp [Q3q]) fun C hP => ?_; simp only [Q3q]
 simp +decide (disch := first | omega | rfl | (simp +decide only [go_sem, ↓reduceIte] <;> rfl) | fail) only [go_sem, ↓reduceIte]
 refine Qju 3 900 1 156 (by omega) (by simp +decide (disch := first | omega | rfl | (simp +decide only [go_sem, ↓reduceIte] <;> rfl) | fail) only [go_sem, ↓reduceIte]) ?_
 refine Qaj (by repeat (first | exact Q2 | exact Qu | exact Qv | exact Qw | exact Qx | apply Qt | apply Qz | apply Q7 | apply Qad | apply Qae | apply Qp | apply Q5)) [(0, 0), (3, 13)] [10, 11, 900] (fun m J hp => ∃ done : List Nat, dig n = done ++ dig m /\ m <= n /\ J 0 = .int .u64 m /\ J 3 = .ms 900 done.length /\ hp 900 = some ⟨1, 156, Qar done, false⟩) n ?_ ?_
 ·refine ⟨[], rfl, Nat.le_refl _, ?_⟩
  simp +decide (disch := first | omega | rfl | (simp +decide only [go_sem, ↓reduceIte] <;> rfl) | fail) only [go_sem, ↓reduceIte]
 rintro m J hp ⟨done, hd, hm, h0, h3, hh⟩
 rw [hd, List.length_append] at hlen
 simp +decide (disch := first | omega | rfl | (simp +decide only [go_sem, ↓reduceIte, h0, h3] <;> rfl) | fail) only [go_sem, ↓reduceIte, h0, h3]
 refine Qb (fun hz => ?_) (fun hz => ?_)
 ·have hne : m ≠ 0 := by omega
  have hd2 : dig n = (done ++ [m % 65536]) ++ dig (m / 65536) := by rw [hd, Qfs hne]; simp
  simp +decide (disch := first | omega | rfl | (simp +decide only [go_sem, ↓reduceIte, h0, h3, Nat.mod_mod] <;> rfl) | fail) only [go_sem, ↓reduceIte, h0, h3, Nat.mod_mod]
  rw [Qcv (f := fun (x : Nat) => .int .u16 x) (y := m % 65536) (xs := done) (ty' := 156) (fz := false) (by simp +decide (disch := first | omega | rfl | (simp +decide only [go_sem, ↓reduceIte, hh] <;> rfl) | fail) only [go_sem, ↓reduceIte, hh]) (by simp +decide (disch := first | omega | rfl | (simp +decide only [go_sem, ↓reduceIte] <;> rfl) | fail) only [go_sem, ↓reduceIte] <;> rfl) (by omega) rfl (by omega) (by omega)]
  simp +decide (disch := first | omega | rfl | (simp +decide only [go_sem, ↓reduceIte, h0, h3] <;> rfl) | fail) only [go_sem, ↓reduceIte, h0, h3]
  refine Qac (m / 65536) (by omega) ⟨done ++ [m % 65536], hd2, by omega, ?_⟩
  simp +decide (disch := first | omega | rfl | (simp +decide only [go_sem, ↓reduceIte, h0, h3] <;> rfl) | fail) only [go_sem, ↓reduceIte, h0, h3]
  simp
 ·obtain rfl : m = 0 := by omega
  rw [Qau, List.append_nil] at hd
  simp +decide (disch := first | omega | rfl | (simp +decide only [go_sem, ↓reduceIte, h3, hh, Ql, List.contains_cons, List.contains_nil, List.flatMap_cons, List.flatMap_nil, List.append_nil] <;> rfl) | fail) only [go_sem, ↓reduceIte, h3, hh, Ql, List.contains_cons, List.contains_nil, List.flatMap_cons, List.flatMap_nil, List.append_nil]
  exact Qc (by show _ = PV.nat (dig n); rw [hd, List.take_of_length_le (by simp)]) rfl
theorem Qbb {a : List Nat} {i : Nat} (ha : Qg a) (hl : a.length < 2 ^ 43) : Qf Tryz.prog 206 [PV.nat a, .int .i64 i] (· = .int .i64 (dg a i : Nat)) := by
 refine Qh Qn Tryz.func206 rfl Q7w (by simp [Q3s]) fun C hP => ?_; simp only [Q3s]
 simp +decide (disch := first | omega | rfl | (simp +decide only [go_sem, ↓reduceIte] <;> rfl) | fail) only [go_sem, ↓reduceIte]
 refine Qb (fun hi => ?_) (fun hi => ?_)
 ·have hi' : i < a.length := by omega
  have hai := Qaf ha hi'
  have hg : dg a i = a[i] := Qa5 hi'
  simp +decide (disch := first | omega | rfl | (simp +decide only [go_sem, ↓reduceIte] <;> rfl) | fail) only [go_sem, ↓reduceIte]
  exact Qc (by rw [hg]) rfl
 ·simp +decide (disch := first | omega | rfl | (simp +decide only [go_sem, ↓reduceIte] <;> rfl) | fail) only [go_sem, ↓reduceIte]
  exact Qc (by rw [dg, Qa6 (by omega)]; rfl) rfl
theorem Qfk {a : List Nat} (ha : Qg a) (hl : a.length <= 4) : Qf Tryz.prog 209 [PV.nat a] (· = .int .u64 (val a : Nat)) := by
 have hlt : ∀ k, val (a.drop k) < 18446744073709551616 := fun k => by
  have h1 := Qel (Qf3 ha k)
  have : 65536 ^ (a.drop k).length <= 65536 ^ 4 := Nat.pow_le_pow_right (by omega) (by rw [List.length_drop]; omega)
  omega
 refine Qh Qn Tryz.func209 rfl Q7v (by simp [Q3r]) fun C hP => ?_; simp only [Q3r]
 simp +decide (disch := first | omega | rfl | (simp +decide only [go_sem, ↓reduceIte] <;> rfl) | fail) only [go_sem, ↓reduceIte]
 refine Qaj (by repeat (first | exact Q2 | exact Qu | exact Qv | exact Qw | exact Qx | apply Qt | apply Qz | apply Q7 | apply Qad | apply Qae | apply Qp | apply Q5)) [(3, 4), (8, 19)] [] (fun k J hp => k <= a.length /\ J 3 = .int .u64 (val (a.drop k) : Nat) /\ J 4 = .int .i64 ((k : Int) - 1)) a.length ?_ ?_
 ·refine ⟨Nat.le_refl _, ?_⟩
  simp +decide (disch := first | omega | rfl | (simp +decide only [go_sem, ↓reduceIte] <;> rfl) | fail) only [go_sem, ↓reduceIte]
  simp [val]
 rintro k J h ⟨hk, h3, h4⟩
 simp +decide (disch := first | omega | rfl | (simp +decide only [go_sem, ↓reduceIte, h3, h4] <;> rfl) | fail) only [go_sem, ↓reduceIte, h3, h4]
 refine Qb (fun hg => ?_) (fun hg => ?_)
 ·obtain _ | n := k
  ·omega
  have hn : n < a.length := by omega
  have han := Qaf ha hn
  have e : ((n + 1 : Nat) : Int) - 1 = n := by omega
  have hv := Qb6 hn
  have h1 := hlt n
  generalize hxx : a[n] = x at *
  have e2 : val (a.drop (n + 1)) * 65536 + x = val (a.drop n) := by omega
  simp +decide (disch := first | omega | rfl | (simp +decide only [go_sem, ↓reduceIte, h3, h4, e, hxx, e2] <;> rfl) | fail) only [go_sem, ↓reduceIte, h3, h4, e, hxx, e2]
  refine Qac n (by omega) ⟨by omega, ?_⟩
  simp +decide (disch := first | omega | rfl | (simp +decide only [go_sem, ↓reduceIte] <;> rfl) | fail) only [go_sem, ↓reduceIte]
 ·obtain rfl : k = 0 := by omega
  simp +decide (disch := first | omega | rfl | (simp +decide only [go_sem, ↓reduceIte, h3, List.drop_zero] <;> rfl) | fail) only [go_sem, ↓reduceIte, h3, List.drop_zero]
  exact Qc rfl rfl
theorem Qgu {a b : List Nat} (ha : Qg a) (hb : Qg b) (hla : a.length < 2 ^ 42) (hlb : b.length < 2 ^ 42) : Qf Tryz.prog 224 [PV.nat a, PV.nat b] (· = .int .i64 (Qc5 (val a) (val b))) := by
 refine Qh Qn Tryz.func224 rfl Q7x (by simp [Q3t]) fun C hP => ?_; simp only [Q3t]
 simp +decide (disch := first | omega | rfl | (simp +decide only [go_sem, ↓reduceIte, Qpq] <;> rfl) | fail) only [go_sem, ↓reduceIte, Qpq]
 refine Qaj (by repeat (first | exact Q2 | exact Qu | exact Qv | exact Qw | exact Qx | apply Qt | apply Qz | apply Q7 | apply Qad | apply Qae | apply Qp | apply Q5)) [(4, 5), (12, 29)] [] (fun k J hp => k <= max a.length b.length /\ val (a.drop k) = val (b.drop k) /\ J 5 = .int .i64 ((k : Int) - 1)) (max a.length b.length) ?_ ?_
 ·refine ⟨Nat.le_refl _, ?_, ?_⟩
  ·rw [List.drop_of_length_le (by omega), List.drop_of_length_le (by omega)]
  ·simp +decide (disch := first | omega | rfl | (simp +decide only [go_sem, ↓reduceIte] <;> rfl) | fail) only [go_sem, ↓reduceIte]
 rintro k J h ⟨hk, hv, h5⟩
 simp +decide (disch := first | omega | rfl | (simp +decide only [go_sem, ↓reduceIte, h5] <;> rfl) | fail) only [go_sem, ↓reduceIte, h5]
 refine Qb (fun hg => ?_) (fun hg => ?_)
 ·obtain _ | n := k
  ·omega
  have e : ((n + 1 : Nat) : Int) - 1 = n := by omega
  have e1 := Qfu a n
  have e2 := Qfu b n
  have d1 := Qkq ha n
  have d2 := Qkq hb n
  simp +decide (disch := first | omega | rfl | (simp +decide only [go_sem, ↓reduceIte, h5, e] <;> rfl) | fail) only [go_sem, ↓reduceIte, h5, e]
  refine Qa hP (Qbb ha (by omega)) rfl rfl rfl ?_
  simp +decide (disch := first | omega | rfl | (simp +decide only [go_sem, ↓reduceIte, h5, e] <;> rfl) | fail) only [go_sem, ↓reduceIte, h5, e]
  refine Qa hP (Qbb hb (by omega)) rfl rfl rfl ?_
  simp +decide (disch := first | omega | rfl | (simp +decide only [go_sem, ↓reduceIte, h5, e] <;> rfl) | fail) only [go_sem, ↓reduceIte, h5, e]
  refine Qb (fun hc => ?_) (fun hc => ?_)
  ·have hlt := Qm3 (a := a) (b := b) ha (i := n) (by omega)
   simp +decide (disch := first | omega | rfl | (simp +decide only [go_sem, ↓reduceIte] <;> rfl) | fail) only [go_sem, ↓reduceIte]
   exact Qc (by rw [Qpj hlt]) rfl
  simp +decide (disch := first | omega | rfl | (simp +decide only [go_sem, ↓reduceIte, h5, e] <;> rfl) | fail) only [go_sem, ↓reduceIte, h5, e]
  refine Qa hP (Qbb ha (by omega)) rfl rfl rfl ?_
  simp +decide (disch := first | omega | rfl | (simp +decide only [go_sem, ↓reduceIte, h5, e] <;> rfl) | fail) only [go_sem, ↓reduceIte, h5, e]
  refine Qa hP (Qbb hb (by omega)) rfl rfl rfl ?_
  simp +decide (disch := first | omega | rfl | (simp +decide only [go_sem, ↓reduceIte, h5, e] <;> rfl) | fail) only [go_sem, ↓reduceIte, h5, e]
  refine Qb (fun hc2 => ?_) (fun hc2 => ?_)
  ·have hlt := Qm3 (a := b) (b := a) hb (i := n) (by omega)
   simp +decide (disch := first | omega | rfl | (simp +decide only [go_sem, ↓reduceIte] <;> rfl) | fail) only [go_sem, ↓reduceIte]
   exact Qc (by rw [Qpk hlt]) rfl
  ·simp +decide (disch := first | omega | rfl | (simp +decide only [go_sem, ↓reduceIte, h5, e] <;> rfl) | fail) only [go_sem, ↓reduceIte, h5, e]
   refine Qac n (by omega) ⟨by omega, by omega, ?_⟩
   simp +decide (disch := first | omega | rfl | (simp +decide only [go_sem, ↓reduceIte] <;> rfl) | fail) only [go_sem, ↓reduceIte]
 ·obtain rfl : k = 0 := by omega
  simp +decide (disch := first | omega | rfl | (simp +decide only [go_sem, ↓reduceIte] <;> rfl) | fail) only [go_sem, ↓reduceIte]
  exact Qc (by rw [Qux (by simpa using hv)]) rfl
end Go.Proofs.YtmnkngmmfnncoaaGreat
namespace Go.Proofs.YtmnkngmmfnncoaaGreat
open Go Go.FW
set_option linter.unusedSimpArgs false
set_option linter.unusedVariables false
set_option maxRecDepth 100000
theorem Qk9 {a : List Nat} (ha : Qg a) (hl : a.length < 2 ^ 43) : Qf Tryz.prog 119 [PV.nat a] (· = .bool (decide (a.getLast? ≠ some 0))) := by
 refine Qh Qn Tryz.func119 rfl Q74 (by simp [Q30]) fun C hP => ?_; simp only [Q30]
 simp +decide (disch := first | omega | rfl | (simp +decide only [go_sem, ↓reduceIte] <;> rfl) | fail) only [go_sem, ↓reduceIte]
 refine Qax (fun h0 => ?_) (fun h0 => ?_)
 ·have : a = [] := List.length_eq_zero_iff.1 (by omega)
  subst this
  simp +decide (disch := first | omega | rfl | (simp +decide only [go_sem, ↓reduceIte] <;> rfl) | fail) only [go_sem, ↓reduceIte]
  exact Qc (by simp) rfl
 ·obtain ⟨k, hk⟩ : ∃ k, a.length = k + 1 := ⟨a.length - 1, by omega⟩
  have hlast := Q1x hk
  have e : ((k + 1 : Nat) : Int) - 1 = k := by omega
  generalize hy : a[k]'(by omega) = y at *
  simp +decide (disch := first | omega | rfl | (simp +decide only [go_sem, ↓reduceIte, hk, e, hy] <;> rfl) | fail) only [go_sem, ↓reduceIte, hk, e, hy]
  refine Qc (congrArg PV.bool ?_) rfl
  rw [hlast]
  exact decide_eq_decide.2 ⟨fun h h' => h (by injection h' with h'; rw [h']; rfl), fun h h' => h (by rw [show y = 0 by omega])⟩
theorem Qif {a b : List Nat} (hla : a.length < 2 ^ 43) (hlb : b.length < 2 ^ 43) : Qf Tryz.prog 88 [PV.nat a, PV.nat b] (· = .bool (decide (a = b))) := by
 refine Qh Qn Tryz.func88 rfl Qaay (by simp [c88]) fun C hP => ?_; simp only [c88]
 simp +decide (disch := first | omega | rfl | (simp +decide only [go_sem, ↓reduceIte] <;> rfl) | fail) only [go_sem, ↓reduceIte]
 refine Qb (fun h0 => ?_) (fun h0 => ?_)
 ·simp +decide (disch := first | omega | rfl | (simp +decide only [go_sem, ↓reduceIte] <;> rfl) | fail) only [go_sem, ↓reduceIte]
  exact Qc (congrArg PV.bool (by rw [decide_eq_false]; rintro rfl; exact h0 rfl)) rfl
 have hlen : a.length = b.length := by omega
 simp +decide (disch := first | omega | rfl | (simp +decide only [go_sem, ↓reduceIte] <;> rfl) | fail) only [go_sem, ↓reduceIte]
 refine Qaj (by repeat (first | exact Q2 | exact Qu | exact Qv | exact Qw | exact Qx | apply Qt | apply Qz | apply Q7 | apply Qad | apply Qae | apply Qp | apply Q5)) [(4, 5), (11, 25)] [] (fun n J hp => ∃ i, n = a.length - i /\ i <= a.length /\ a.take i = b.take i /\ J 5 = .int .i64 (i : Nat)) a.length ?_ ?_
 ·refine ⟨0, rfl, by omega, by simp, ?_⟩
  simp +decide (disch := first | omega | rfl | (simp +decide only [go_sem, ↓reduceIte] <;> rfl) | fail) only [go_sem, ↓reduceIte]
  rfl
 rintro _ J h ⟨i, rfl, hi, he, h5⟩
 simp +decide (disch := first | omega | rfl | (simp +decide only [go_sem, ↓reduceIte, h5] <;> rfl) | fail) only [go_sem, ↓reduceIte, h5]
 refine Qb (fun hg => ?_) (fun hg => ?_)
 ·have hi' : i < a.length := by omega
  have hib : i < b.length := by omega
  have ta := List.take_succ_eq_append_getElem hi'
  have tb := List.take_succ_eq_append_getElem hib
  have hne : a = b -> a[i] = b[i] := fun h => by subst h; rfl
  generalize hx : a[i] = x at *
  generalize hy : b[i] = y at *
  simp +decide (disch := first | omega | rfl | (simp +decide only [go_sem, ↓reduceIte, h5, hx, hy] <;> rfl) | fail) only [go_sem, ↓reduceIte, h5, hx, hy]
  refine Qb (fun hc => ?_) (fun hc => ?_)
  ·simp +decide (disch := first | omega | rfl | (simp +decide only [go_sem, ↓reduceIte] <;> rfl) | fail) only [go_sem, ↓reduceIte]
   exact Qc (congrArg PV.bool (by rw [decide_eq_false]; intro h; exact hc (by rw [hne h]))) rfl
  ·simp +decide (disch := first | omega | rfl | (simp +decide only [go_sem, ↓reduceIte, h5] <;> rfl) | fail) only [go_sem, ↓reduceIte, h5]
   refine Qac (a.length - (i + 1)) (by omega) ⟨i + 1, rfl, by omega, by rw [ta, tb, he, show x = y by omega], ?_⟩
   simp +decide (disch := first | omega | rfl | (simp +decide only [go_sem, ↓reduceIte] <;> rfl) | fail) only [go_sem, ↓reduceIte]
 ·obtain rfl : i = a.length := by omega
  rw [List.take_length, hlen, List.take_length] at he
  simp +decide (disch := first | omega | rfl | (simp +decide only [go_sem, ↓reduceIte] <;> rfl) | fail) only [go_sem, ↓reduceIte]
  exact Qc (congrArg PV.bool (by rw [he]; simp)) rfl
theorem Quf {a b : List Nat} (ha : Qg a) (hb : Qg b) (hla : a.length < 2 ^ 40) (hlb : b.length < 2 ^ 40) : Qf Tryz.prog 171 [PV.nat a, PV.nat b] (· = PV.num (val a + val b)) := by
 refine Qh Qn Tryz.func171 rfl Q7y (by simp [Q3u]) fun C hP => ?_; simp only [Q3u]
 simp +decide (disch := first | omega | rfl | (simp +decide only [go_sem, ↓reduceIte] <;> rfl) | fail) only [go_sem, ↓reduceIte]
 refine Qju 5 900 1 156 (by omega) (by simp +decide (disch := first | omega | rfl | (simp +decide only [go_sem, ↓reduceIte] <;> rfl) | fail) only [go_sem, ↓reduceIte]) ?_
 refine Qaj (by repeat (first | exact Q2 | exact Qu | exact Qv | exact Qw | exact Qx | apply Qt | apply Qz | apply Q7 | apply Qad | apply Qae | apply Qp | apply Q5)) [(5, 41)] [38, 39, 900] (fun m J hp => ∃ (i c : Nat) (out : List Nat), m = 2 * (max a.length b.length - i) + c /\ c <= 1 /\ i <= max a.length b.length + 1 /\ (i <= max a.length b.length ∨ c = 0) /\ out.length = i /\ Qg out /\ val out + 65536 ^ i * (c + val (a.drop i) + val (b.drop i)) = val a + val b /\ J 5 = .ms 900 out.length /\ J 6 = .int .i64 c /\ J 7 = .int .i64 i /\ hp 900 = some ⟨1, 156, Qar out, false⟩) (2 * max a.length b.length) ?_ ?_
 ·refine ⟨0, 0, [], rfl, by omega, by omega, by omega, rfl, Qb7, by simp [val], ?_⟩
  simp +decide (disch := first | omega | rfl | (simp +decide only [go_sem, ↓reduceIte] <;> rfl) | fail) only [go_sem, ↓reduceIte]
  simp
 rintro _ J h ⟨i, c, out, rfl, hc, hi, hi2, hol, hout, hv, h5, h6, h7, hh⟩
 have e1 := Qfu a i
 have e2 := Qfu b i
 have d1 := Qkq ha i
 have d2 := Qkq hb i
 simp +decide (disch := first | omega | rfl | (simp +decide only [go_sem, ↓reduceIte, h5, h6, h7] <;> rfl) | fail) only [go_sem, ↓reduceIte, h5, h6, h7]
 refine Qax (fun hg => ?_) (fun hg => ?_)
 ·have hlt : i < max a.length b.length := by omega
  have hs1 : (dg a i + dg b i + c) / 65536 <= 1 := by omega
  have hstep : val (out ++ [(dg a i + dg b i + c) % 65536]) + 65536 ^ (i + 1) * ((dg a i + dg b i + c) / 65536 + val (a.drop (i + 1)) + val (b.drop (i + 1))) = val a + val b := by
   rw [Qks, hol, Nat.pow_succ, <- hv, e1, e2]
   have := Nat.div_add_mod (dg a i + dg b i + c) 65536
   generalize 65536 ^ i = P at *
   generalize (dg a i + dg b i + c) / 65536 = q at *
   generalize (dg a i + dg b i + c) % 65536 = r at *
   have e : c + (dg a i + 65536 * val (a.drop (i + 1))) + (dg b i + 65536 * val (b.drop (i + 1))) = r + 65536 * (q + val (a.drop (i + 1)) + val (b.drop (i + 1))) := by omega
   rw [e, Nat.mul_add P, Nat.mul_assoc]; omega
  simp +decide (disch := first | omega | rfl | (simp +decide only [go_sem, ↓reduceIte, h5, h6, h7] <;> rfl) | fail) only [go_sem, ↓reduceIte, h5, h6, h7]
  refine Qa hP (Qbb ha (by omega)) rfl rfl rfl ?_
  simp +decide (disch := first | omega | rfl | (simp +decide only [go_sem, ↓reduceIte, h5, h6, h7] <;> rfl) | fail) only [go_sem, ↓reduceIte, h5, h6, h7]
  refine Qa hP (Qbb hb (by omega)) rfl rfl rfl ?_
  simp +decide (disch := first | omega | rfl | (simp +decide only [go_sem, ↓reduceIte, h5, h6, h7, Nat.mod_mod] <;> rfl) | fail) only [go_sem, ↓reduceIte, h5, h6, h7, Nat.mod_mod]
  rw [Qcv (f := fun (x : Nat) => .int .u16 x) (y := (dg a i + dg b i + c) % 65536) (xs := out) (ty' := 156) (fz := false) (by simp +decide (disch := first | omega | rfl | (simp +decide only [go_sem, ↓reduceIte, hh] <;> rfl) | fail) only [go_sem, ↓reduceIte, hh]) (by simp +decide (disch := first | omega | rfl | (simp +decide only [go_sem, ↓reduceIte] <;> rfl) | fail) only [go_sem, ↓reduceIte] <;> rfl) (by omega) rfl (by omega) (by omega)]
  simp +decide (disch := first | omega | rfl | (simp +decide only [go_sem, ↓reduceIte, h5, h6, h7] <;> rfl) | fail) only [go_sem, ↓reduceIte, h5, h6, h7]
  refine Qac (2 * (max a.length b.length - (i + 1)) + (dg a i + dg b i + c) / 65536) ?_ ⟨i + 1, (dg a i + dg b i + c) / 65536, out ++ [(dg a i + dg b i + c) % 65536], rfl, hs1, by omega, ?_, by simp [hol], ?_, hstep, ?_⟩
  ·by_cases hlt : i < max a.length b.length
   ·omega
   ·have z1 : dg a i = 0 := by rw [dg, Qa6 (by omega)]
    have z2 : dg b i = 0 := by rw [dg, Qa6 (by omega)]
    rw [z1, z2]; omega
  ·by_cases hlt : i < max a.length b.length
   ·omega
   ·have z1 : dg a i = 0 := by rw [dg, Qa6 (by omega)]
    have z2 : dg b i = 0 := by rw [dg, Qa6 (by omega)]
    rw [z1, z2]; omega
  ·rw [Qbh]; exact ⟨hout, by intro z hz; simp at hz; omega⟩
  ·simp +decide (disch := first | omega | rfl | (simp +decide only [go_sem, ↓reduceIte] <;> rfl) | fail) only [go_sem, ↓reduceIte]
   simp
 simp +decide (disch := first | omega | rfl | (simp +decide only [go_sem, ↓reduceIte, h5, h6, h7] <;> rfl) | fail) only [go_sem, ↓reduceIte, h5, h6, h7]
 refine Qax (fun hg2 => ?_) (fun hg2 => ?_)
 ·have hlt : i < max a.length b.length := by omega
  have hs1 : (dg a i + dg b i + c) / 65536 <= 1 := by omega
  have hstep : val (out ++ [(dg a i + dg b i + c) % 65536]) + 65536 ^ (i + 1) * ((dg a i + dg b i + c) / 65536 + val (a.drop (i + 1)) + val (b.drop (i + 1))) = val a + val b := by
   rw [Qks, hol, Nat.pow_succ, <- hv, e1, e2]
   have := Nat.div_add_mod (dg a i + dg b i + c) 65536
   generalize 65536 ^ i = P at *
   generalize (dg a i + dg b i + c) / 65536 = q at *
   generalize (dg a i + dg b i + c) % 65536 = r at *
   have e : c + (dg a i + 65536 * val (a.drop (i + 1))) + (dg b i + 65536 * val (b.drop (i + 1))) = r + 65536 * (q + val (a.drop (i + 1)) + val (b.drop (i + 1))) := by omega
   rw [e, Nat.mul_add P, Nat.mul_assoc]; omega
  simp +decide (disch := first | omega | rfl | (simp +decide only [go_sem, ↓reduceIte, h5, h6, h7] <;> rfl) | fail) only [go_sem, ↓reduceIte, h5, h6, h7]
  refine Qa hP (Qbb ha (by omega)) rfl rfl rfl ?_
  simp +decide (disch := first | omega | rfl | (simp +decide only [go_sem, ↓reduceIte, h5, h6, h7] <;> rfl) | fail) only [go_sem, ↓reduceIte, h5, h6, h7]
  refine Qa hP (Qbb hb (by omega)) rfl rfl rfl ?_
  simp +decide (disch := first | omega | rfl | (simp +decide only [go_sem, ↓reduceIte, h5, h6, h7, Nat.mod_mod] <;> rfl) | fail) only [go_sem, ↓reduceIte, h5, h6, h7, Nat.mod_mod]
  rw [Qcv (f := fun (x : Nat) => .int .u16 x) (y := (dg a i + dg b i + c) % 65536) (xs := out) (ty' := 156) (fz := false) (by simp +decide (disch := first | omega | rfl | (simp +decide only [go_sem, ↓reduceIte, hh] <;> rfl) | fail) only [go_sem, ↓reduceIte, hh]) (by simp +decide (disch := first | omega | rfl | (simp +decide only [go_sem, ↓reduceIte] <;> rfl) | fail) only [go_sem, ↓reduceIte] <;> rfl) (by omega) rfl (by omega) (by omega)]
  simp +decide (disch := first | omega | rfl | (simp +decide only [go_sem, ↓reduceIte, h5, h6, h7] <;> rfl) | fail) only [go_sem, ↓reduceIte, h5, h6, h7]
  refine Qac (2 * (max a.length b.length - (i + 1)) + (dg a i + dg b i + c) / 65536) ?_ ⟨i + 1, (dg a i + dg b i + c) / 65536, out ++ [(dg a i + dg b i + c) % 65536], rfl, hs1, by omega, ?_, by simp [hol], ?_, hstep, ?_⟩
  ·by_cases hlt : i < max a.length b.length
   ·omega
   ·have z1 : dg a i = 0 := by rw [dg, Qa6 (by omega)]
    have z2 : dg b i = 0 := by rw [dg, Qa6 (by omega)]
    rw [z1, z2]; omega
  ·by_cases hlt : i < max a.length b.length
   ·omega
   ·have z1 : dg a i = 0 := by rw [dg, Qa6 (by omega)]
    have z2 : dg b i = 0 := by rw [dg, Qa6 (by omega)]
    rw [z1, z2]; omega
  ·rw [Qbh]; exact ⟨hout, by intro z hz; simp at hz; omega⟩
  ·simp +decide (disch := first | omega | rfl | (simp +decide only [go_sem, ↓reduceIte] <;> rfl) | fail) only [go_sem, ↓reduceIte]
   simp
 simp +decide (disch := first | omega | rfl | (simp +decide only [go_sem, ↓reduceIte, h5, h6, h7] <;> rfl) | fail) only [go_sem, ↓reduceIte, h5, h6, h7]
 refine Qb (fun hg3 => ?_) (fun hg3 => ?_)
 ·have hib : i <= max a.length b.length := by omega
  have hs1 : (dg a i + dg b i + c) / 65536 <= 1 := by omega
  have hstep : val (out ++ [(dg a i + dg b i + c) % 65536]) + 65536 ^ (i + 1) * ((dg a i + dg b i + c) / 65536 + val (a.drop (i + 1)) + val (b.drop (i + 1))) = val a + val b := by
   rw [Qks, hol, Nat.pow_succ, <- hv, e1, e2]
   have := Nat.div_add_mod (dg a i + dg b i + c) 65536
   generalize 65536 ^ i = P at *
   generalize (dg a i + dg b i + c) / 65536 = q at *
   generalize (dg a i + dg b i + c) % 65536 = r at *
   have e : c + (dg a i + 65536 * val (a.drop (i + 1))) + (dg b i + 65536 * val (b.drop (i + 1))) = r + 65536 * (q + val (a.drop (i + 1)) + val (b.drop (i + 1))) := by omega
   rw [e, Nat.mul_add P, Nat.mul_assoc]; omega
  simp +decide (disch := first | omega | rfl | (simp +decide only [go_sem, ↓reduceIte, h5, h6, h7] <;> rfl) | fail) only [go_sem, ↓reduceIte, h5, h6, h7]
  refine Qa hP (Qbb ha (by omega)) rfl rfl rfl ?_
  simp +decide (disch := first | omega | rfl | (simp +decide only [go_sem, ↓reduceIte, h5, h6, h7] <;> rfl) | fail) only [go_sem, ↓reduceIte, h5, h6, h7]
  refine Qa hP (Qbb hb (by omega)) rfl rfl rfl ?_
  simp +decide (disch := first | omega | rfl | (simp +decide only [go_sem, ↓reduceIte, h5, h6, h7, Nat.mod_mod] <;> rfl) | fail) only [go_sem, ↓reduceIte, h5, h6, h7, Nat.mod_mod]
  rw [Qcv (f := fun (x : Nat) => .int .u16 x) (y := (dg a i + dg b i + c) % 65536) (xs := out) (ty' := 156) (fz := false) (by simp +decide (disch := first | omega | rfl | (simp +decide only [go_sem, ↓reduceIte, hh] <;> rfl) | fail) only [go_sem, ↓reduceIte, hh]) (by simp +decide (disch := first | omega | rfl | (simp +decide only [go_sem, ↓reduceIte] <;> rfl) | fail) only [go_sem, ↓reduceIte] <;> rfl) (by omega) rfl (by omega) (by omega)]
  simp +decide (disch := first | omega | rfl | (simp +decide only [go_sem, ↓reduceIte, h5, h6, h7] <;> rfl) | fail) only [go_sem, ↓reduceIte, h5, h6, h7]
  refine Qac (2 * (max a.length b.length - (i + 1)) + (dg a i + dg b i + c) / 65536) ?_ ⟨i + 1, (dg a i + dg b i + c) / 65536, out ++ [(dg a i + dg b i + c) % 65536], rfl, hs1, by omega, ?_, by simp [hol], ?_, hstep, ?_⟩
  ·by_cases hlt : i < max a.length b.length
   ·omega
   ·have z1 : dg a i = 0 := by rw [dg, Qa6 (by omega)]
    have z2 : dg b i = 0 := by rw [dg, Qa6 (by omega)]
    rw [z1, z2]; omega
  ·by_cases hlt : i < max a.length b.length
   ·omega
   ·have z1 : dg a i = 0 := by rw [dg, Qa6 (by omega)]
    have z2 : dg b i = 0 := by rw [dg, Qa6 (by omega)]
    rw [z1, z2]; omega
  ·rw [Qbh]; exact ⟨hout, by intro z hz; simp at hz; omega⟩
  ·simp +decide (disch := first | omega | rfl | (simp +decide only [go_sem, ↓reduceIte] <;> rfl) | fail) only [go_sem, ↓reduceIte]
   simp
 ·obtain rfl : c = 0 := by omega
  rw [List.drop_of_length_le (by omega), List.drop_of_length_le (by omega)] at hv
  simp only [val, Nat.add_zero, Nat.mul_zero] at hv
  simp +decide (disch := first | omega | rfl | (simp +decide only [go_sem, ↓reduceIte, h5, hh] <;> rfl) | fail) only [go_sem, ↓reduceIte, h5, hh]
  refine Qez hP (Qbi hout (by omega)) (by simp +decide (disch := first | omega | rfl | (simp +decide only [go_sem, ↓reduceIte, hh, Ql, List.contains_cons, List.contains_nil, List.flatMap_cons, List.flatMap_nil, List.append_nil] <;> rfl) | fail) only [go_sem, ↓reduceIte, hh, Ql, List.contains_cons, List.contains_nil, List.flatMap_cons, List.flatMap_nil, List.append_nil]; simp [List.take_of_length_le]) rfl fun hp' => ?_
  simp +decide (disch := first | omega | rfl | (simp +decide only [go_sem, ↓reduceIte] <;> rfl) | fail) only [go_sem, ↓reduceIte]
  exact Qc (by rw [hv]) rfl
end Go.Proofs.YtmnkngmmfnncoaaGreat
namespace Go.Proofs.YtmnkngmmfnncoaaGreat
open Go Go.FW
set_option linter.unusedSimpArgs false
set_option linter.unusedVariables false
set_option maxRecDepth 100000
theorem Qug {a b : List Nat} (ha : Qg a) (hb : Qg b) (hla : a.length < 2 ^ 40) (hlb : b.length < 2 ^ 40) : Qf Tryz.prog 208 [PV.nat a, PV.nat b] (· = if val a < val b then .tup [PV.num 0, .int .i64 2] else .tup [PV.num (val a - val b), .int .i64 0]) := by
 refine Qh Qn Tryz.func208 rfl Q7z (by simp [Q3v]) fun C hP => ?_; simp only [Q3v]
 simp +decide (disch := first | omega | rfl | (simp +decide only [go_sem, ↓reduceIte] <;> rfl) | fail) only [go_sem, ↓reduceIte]
 refine Qa hP (Qgu ha hb (by omega) (by omega)) rfl rfl rfl ?_
 simp +decide (disch := first | omega | rfl | (simp +decide only [go_sem, ↓reduceIte] <;> rfl) | fail) only [go_sem, ↓reduceIte]
 refine Qb (fun hc => ?_) (fun hc => ?_)
 ·rw [if_pos (Qkn.1 hc)]
  simp +decide (disch := first | omega | rfl | (simp +decide only [go_sem, ↓reduceIte] <;> rfl) | fail) only [go_sem, ↓reduceIte]
  exact Qbo rfl rfl rfl Qgk (Qm _)
 have hge : ¬ val a < val b := fun h => hc (Qkn.2 h)
 rw [if_neg hge]
 simp +decide (disch := first | omega | rfl | (simp +decide only [go_sem, ↓reduceIte] <;> rfl) | fail) only [go_sem, ↓reduceIte]
 refine Qju 6 900 1 156 (by omega) (by simp +decide (disch := first | omega | rfl | (simp +decide only [go_sem, ↓reduceIte] <;> rfl) | fail) only [go_sem, ↓reduceIte]) ?_
 refine Qaj (by repeat (first | exact Q2 | exact Qu | exact Qv | exact Qw | exact Qx | apply Qt | apply Qz | apply Q7 | apply Qad | apply Qae | apply Qp | apply Q5)) [(6, 9), (14, 37)] [36, 37, 900] (fun m J hp => ∃ (i c : Nat) (out : List Nat), m = a.length - i /\ c <= 1 /\ i <= a.length /\ out.length = i /\ Qg out /\ val (a.take i) + 65536 ^ i * c = val out + val (b.take i) /\ J 6 = .ms 900 out.length /\ J 7 = .int .i64 c /\ J 8 = .int .i64 i /\ hp 900 = some ⟨1, 156, Qar out, false⟩) a.length ?_ ?_
 ·refine ⟨0, 0, [], rfl, by omega, by omega, rfl, Qb7, by simp [val], ?_⟩
  simp +decide (disch := first | omega | rfl | (simp +decide only [go_sem, ↓reduceIte] <;> rfl) | fail) only [go_sem, ↓reduceIte]
  simp
 rintro _ J h ⟨i, c, out, rfl, hc1, hi, hol, hout, hv, h6, h7, h8, hh⟩
 simp +decide (disch := first | omega | rfl | (simp +decide only [go_sem, ↓reduceIte, h6, h7, h8] <;> rfl) | fail) only [go_sem, ↓reduceIte, h6, h7, h8]
 refine Qb (fun hg => ?_) (fun hg => ?_)
 ·have hi' : i < a.length := by omega
  have e1 := Qjz a i
  have e2 := Qjz b i
  have d1 := Qkq ha i
  have d2 := Qkq hb i
  simp +decide (disch := first | omega | rfl | (simp +decide only [go_sem, ↓reduceIte, h6, h7, h8] <;> rfl) | fail) only [go_sem, ↓reduceIte, h6, h7, h8]
  refine Qa hP (Qbb ha (by omega)) rfl rfl rfl ?_
  simp +decide (disch := first | omega | rfl | (simp +decide only [go_sem, ↓reduceIte, h6, h7, h8] <;> rfl) | fail) only [go_sem, ↓reduceIte, h6, h7, h8]
  refine Qa hP (Qbb hb (by omega)) rfl rfl rfl ?_
  simp +decide (disch := first | omega | rfl | (simp +decide only [go_sem, ↓reduceIte, h6, h7, h8] <;> rfl) | fail) only [go_sem, ↓reduceIte, h6, h7, h8]
  have step : ∀ (d c' : Nat), d < 65536 -> c' <= 1 -> dg a i + 65536 * c' = d + dg b i + c -> val (a.take (i + 1)) + 65536 ^ (i + 1) * c' = val (out ++ [d]) + val (b.take (i + 1)) := fun d c' _ _ h3 => by
   rw [Qks, hol, e1, e2, Nat.pow_succ]
   generalize 65536 ^ i = P at *
   have : P * (dg a i + 65536 * c') = P * (d + dg b i + c) := by rw [h3]
   rw [Nat.mul_add, <- Nat.mul_assoc, Nat.mul_add, Nat.mul_add] at this
   omega
  refine Qb (fun hd => ?_) (fun hd => ?_)
  ·obtain ⟨d, hd1⟩ : ∃ d : Nat, (dg a i : Int) - (dg b i : Int) - (c : Int) + 65536 = d := ⟨((dg a i : Int) - (dg b i : Int) - (c : Int) + 65536).toNat, by omega⟩
   have hst := step d 1 (by omega) (by omega) (by omega)
   simp +decide (disch := first | omega | rfl | (simp +decide only [go_sem, ↓reduceIte, h6, h7, h8, hd1] <;> rfl) | fail) only [go_sem, ↓reduceIte, h6, h7, h8, hd1]
   rw [Qcv (f := fun (x : Nat) => .int .u16 x) (y := d) (xs := out) (ty' := 156) (fz := false) (by simp +decide (disch := first | omega | rfl | (simp +decide only [go_sem, ↓reduceIte, hh] <;> rfl) | fail) only [go_sem, ↓reduceIte, hh]) (by simp +decide (disch := first | omega | rfl | (simp +decide only [go_sem, ↓reduceIte, Nat.mod_eq_of_lt (by omega : d < 65536)] <;> rfl) | fail) only [go_sem, ↓reduceIte, Nat.mod_eq_of_lt (by omega : d < 65536)]) (by omega) rfl (by omega) (by omega)]
   simp +decide (disch := first | omega | rfl | (simp +decide only [go_sem, ↓reduceIte, h6, h7, h8] <;> rfl) | fail) only [go_sem, ↓reduceIte, h6, h7, h8]
   refine Qac (a.length - (i + 1)) (by omega) ⟨i + 1, 1, out ++ [d], rfl, by omega, by omega, by simp [hol], ?_, hst, ?_⟩
   ·rw [Qbh]; exact ⟨hout, by intro z hz; simp at hz; omega⟩
   ·simp +decide (disch := first | omega | rfl | (simp +decide only [go_sem, ↓reduceIte] <;> rfl) | fail) only [go_sem, ↓reduceIte]
    simp
  ·obtain ⟨d, hd1⟩ : ∃ d : Nat, (dg a i : Int) - (dg b i : Int) - (c : Int) = d := ⟨((dg a i : Int) - (dg b i : Int) - (c : Int)).toNat, by omega⟩
   have hst := step d 0 (by omega) (by omega) (by omega)
   simp +decide (disch := first | omega | rfl | (simp +decide only [go_sem, ↓reduceIte, h6, h7, h8, hd1] <;> rfl) | fail) only [go_sem, ↓reduceIte, h6, h7, h8, hd1]
   rw [Qcv (f := fun (x : Nat) => .int .u16 x) (y := d) (xs := out) (ty' := 156) (fz := false) (by simp +decide (disch := first | omega | rfl | (simp +decide only [go_sem, ↓reduceIte, hh] <;> rfl) | fail) only [go_sem, ↓reduceIte, hh]) (by simp +decide (disch := first | omega | rfl | (simp +decide only [go_sem, ↓reduceIte, Nat.mod_eq_of_lt (by omega : d < 65536)] <;> rfl) | fail) only [go_sem, ↓reduceIte, Nat.mod_eq_of_lt (by omega : d < 65536)]) (by omega) rfl (by omega) (by omega)]
   simp +decide (disch := first | omega | rfl | (simp +decide only [go_sem, ↓reduceIte, h6, h7, h8] <;> rfl) | fail) only [go_sem, ↓reduceIte, h6, h7, h8]
   refine Qac (a.length - (i + 1)) (by omega) ⟨i + 1, 0, out ++ [d], rfl, by omega, by omega, by simp [hol], ?_, hst, ?_⟩
   ·rw [Qbh]; exact ⟨hout, by intro z hz; simp at hz; omega⟩
   ·simp +decide (disch := first | omega | rfl | (simp +decide only [go_sem, ↓reduceIte] <;> rfl) | fail) only [go_sem, ↓reduceIte]
    simp
 ·obtain rfl : i = a.length := by omega
  have hbz : val (b.drop a.length) = 0 := Qgs (by have := Qel ha; omega)
  have hbs := Qkr b a.length
  rw [hbz, Nat.mul_zero, Nat.add_zero] at hbs
  rw [List.take_length, <- hbs] at hv
  have hvo := Qel hout
  rw [hol] at hvo
  have hc0 : c = 0 := by
   match c, hc1 with
   | 0, _ => rfl
   | 1, _ => exfalso; have := Qel ha; omega
  subst hc0
  simp +decide (disch := first | omega | rfl | (simp +decide only [go_sem, ↓reduceIte, h6, hh] <;> rfl) | fail) only [go_sem, ↓reduceIte, h6, hh]
  refine Qez hP (Qbi hout (by omega)) (by simp +decide (disch := first | omega | rfl | (simp +decide only [go_sem, ↓reduceIte, hh, Ql, List.contains_cons, List.contains_nil, List.flatMap_cons, List.flatMap_nil, List.append_nil] <;> rfl) | fail) only [go_sem, ↓reduceIte, hh, Ql, List.contains_cons, List.contains_nil, List.flatMap_cons, List.flatMap_nil, List.append_nil]; simp [List.take_of_length_le]) rfl fun hp' => ?_
  simp +decide (disch := first | omega | rfl | (simp +decide only [go_sem, ↓reduceIte] <;> rfl) | fail) only [go_sem, ↓reduceIte]
  exact Qbo rfl rfl rfl (Qfq (congrArg PV.num (by omega))) (Qm _)
theorem Qjf {a b : List Nat} (ha : Qg a) (hb : Qg b) (hla : a.length < 2 ^ 40) (hlb : b.length < 2 ^ 40) : Qf Tryz.prog 160 [PV.nat a, PV.nat b] (· = PV.num (val a * val b)) := by
 refine Qh Qn Tryz.func160 rfl Q70 (by simp [Q3w]) fun C hP => ?_; simp only [Q3w]
 simp +decide (disch := first | omega | rfl | (simp +decide only [go_sem, ↓reduceIte] <;> rfl) | fail) only [go_sem, ↓reduceIte]
 refine Qaj (by repeat (first | exact Q2 | exact Qu | exact Qv | exact Qw | exact Qx | apply Qt | apply Qz | apply Q7 | apply Qad | apply Qae | apply Qp | apply Q5)) [(6, 9), (17, 62)] [] (fun m J hp => ∃ (i : Nat) (L : List Nat), m = a.length - i /\ i <= a.length /\ L.length = a.length + b.length + 1 /\ Qg L /\ val L = val (a.take i) * val b /\ J 6 = .int .i64 i /\ hp = Qi hp0 16 ⟨1, 156, Qar L, false⟩) a.length ?_ ?_
 ·refine ⟨0, List.replicate (a.length + b.length + 1) 0, rfl, by omega, by simp, ?_, by simp [val, Qqb], ?_⟩
  ·intro z hz; rw [List.eq_of_mem_replicate hz]; omega
  ·simp +decide (disch := first | omega | rfl | (simp +decide only [go_sem, ↓reduceIte] <;> rfl) | fail) only [go_sem, ↓reduceIte]
   simp
 rintro _ J _ ⟨i, L, rfl, hi, hLl, hL, hv, h6, rfl⟩
 simp +decide (disch := first | omega | rfl | (simp +decide only [go_sem, ↓reduceIte, h6] <;> rfl) | fail) only [go_sem, ↓reduceIte, h6]
 refine Qb (fun hg => ?_) (fun hg => ?_)
 ·have hi' : i < a.length := by omega
  have hai := Qaf ha hi'
  have hts := Qem hi'
  have hz0 : dg L (i + b.length) = 0 := by
   apply Qv9
   apply Qgs
   rw [hv, Nat.pow_add]
   have h1 := Qc8 ha i (by omega)
   have h2 := Qel hb
   exact Nat.mul_lt_mul'' h1 h2
  generalize hxx : a[i] = ai at *
  simp +decide (disch := first | omega | rfl | (simp +decide only [go_sem, ↓reduceIte, h6, hxx] <;> rfl) | fail) only [go_sem, ↓reduceIte, h6, hxx]
  refine Qaj (by repeat (first | exact Q2 | exact Qu | exact Qv | exact Qw | exact Qx | apply Qt | apply Qz | apply Q7 | apply Qad | apply Qae | apply Qp | apply Q5)) [(7, 9), (23, 62)] [] (fun m J hp => ∃ (k c : Nat) (M : List Nat), m = b.length + 1 - k /\ k <= b.length + 1 /\ (k <= b.length ∨ c = 0) /\ c < 65536 /\ M.length = L.length /\ Qg M /\ val M + 65536 ^ (i + k) * (c + ai * val (b.drop k)) = val L + 65536 ^ i * (ai * val b) /\ (∀ j, i + k <= j -> dg M j = dg L j) /\ J 7 = .int .u64 c /\ J 8 = .int .i64 k /\ hp = Qi hp0 16 ⟨1, 156, Qar M, false⟩) (b.length + 1) ?_ ?_
  ·refine ⟨0, 0, L, rfl, by omega, by omega, by omega, rfl, hL, by simp, fun _ _ => rfl, ?_⟩
   simp +decide (disch := first | omega | rfl | (simp +decide only [go_sem, ↓reduceIte, h6] <;> rfl) | fail) only [go_sem, ↓reduceIte, h6]
   simp
  rintro _ J2 _ ⟨k, c, M, rfl, hk, hk2, hc, hMl, hM, hw, hsame, h7, h8, rfl⟩
  have e2 := Qfu b k
  have d2 := Qkq hb k
  simp +decide (disch := first | omega | rfl | (simp +decide only [go_sem, ↓reduceIte, h6, h7, h8] <;> rfl) | fail) only [go_sem, ↓reduceIte, h6, h7, h8]
  refine Qax (fun hkb => ?_) (fun hkb => ?_)
  ·have hkb' : k <= b.length := by omega
   have hj : i + k < M.length := by omega
   have hx := Qaf hM hj
   have hset := fun v => Qu6 (v := v) hj
   have hmx := Qeb hai d2
   have hdx : dg M (i + k) = M[i + k] := Qa5 hj
   generalize hxm : M[i + k] = x at *
   have hdm := Nat.div_add_mod (x + ai * dg b k + c) 65536
   have hnew := Qqj (T := val L + 65536 ^ i * (ai * val b)) (hset ((x + ai * dg b k + c) % 65536)) (by rw [<- e2]; exact hw) hdm
   have hr := Nat.mod_lt (x + ai * dg b k + c) (show 0 < 65536 by omega)
   have hq : (x + ai * dg b k + c) / 65536 < 65536 := by omega
   have hq0 : ¬ k < b.length -> (x + ai * dg b k + c) / 65536 = 0 := fun h => by
    have z1 : dg b k = 0 := by rw [dg, Qa6 (by omega)]
    have z2 : x = 0 := by rw [<- hdx, hsame _ (Nat.le_refl _), show i + k = i + b.length by omega, hz0]
    rw [z1, z2]; omega
   have hlims : Qg (M.set (i + k) ((x + ai * dg b k + c) % 65536)) := fun z hz => by
    rcases List.mem_or_eq_of_mem_set hz with h | h
    ·exact hM z h
    ·omega
   have e5 : IntKind.u64.wrap ((ai * dg b k : Nat) : Int) = ((ai * dg b k : Nat) : Int) := Qef (by omega) (by omega)
   simp +decide (disch := first | omega | rfl | (simp +decide only [go_sem, ↓reduceIte, h6, h7, h8, hxx, hxm] <;> rfl) | fail) only [go_sem, ↓reduceIte, h6, h7, h8, hxx, hxm]
   refine Qa hP (Qbb hb (by omega)) rfl rfl rfl ?_
   simp +decide (disch := first | omega | rfl | (simp +decide only [go_sem, ↓reduceIte, h6, h7, h8, hxx, hxm, e5, Nat.mod_mod] <;> rfl) | fail) only [go_sem, ↓reduceIte, h6, h7, h8, hxx, hxm, e5, Nat.mod_mod]
   refine Qac (b.length + 1 - (k + 1)) (by omega) ⟨k + 1, (x + ai * dg b k + c) / 65536, M.set (i + k) ((x + ai * dg b k + c) % 65536), rfl, by omega, ?_, hq, by rw [List.length_set]; exact hMl, hlims, ?_, ?_, ?_⟩
   ·by_cases h : k < b.length
    ·omega
    ·exact .inr (hq0 h)
   ·rw [<- Nat.add_assoc, Nat.pow_succ]; exact hnew
   ·intro j hj2
    rw [Qqk (by omega)]; exact hsame j (by omega)
   ·simp +decide (disch := first | omega | rfl | (simp +decide only [go_sem, ↓reduceIte, h6, h7, h8] <;> rfl) | fail) only [go_sem, ↓reduceIte, h6, h7, h8]
  simp +decide (disch := first | omega | rfl | (simp +decide only [go_sem, ↓reduceIte, h6, h7, h8] <;> rfl) | fail) only [go_sem, ↓reduceIte, h6, h7, h8]
  refine Qb (fun hc0 => ?_) (fun hc0 => ?_)
  ·have hkb' : k <= b.length := by omega
   have hj : i + k < M.length := by omega
   have hx := Qaf hM hj
   have hset := fun v => Qu6 (v := v) hj
   have hmx := Qeb hai d2
   have hdx : dg M (i + k) = M[i + k] := Qa5 hj
   generalize hxm : M[i + k] = x at *
   have hdm := Nat.div_add_mod (x + ai * dg b k + c) 65536
   have hnew := Qqj (T := val L + 65536 ^ i * (ai * val b)) (hset ((x + ai * dg b k + c) % 65536)) (by rw [<- e2]; exact hw) hdm
   have hr := Nat.mod_lt (x + ai * dg b k + c) (show 0 < 65536 by omega)
   have hq : (x + ai * dg b k + c) / 65536 < 65536 := by omega
   have hq0 : ¬ k < b.length -> (x + ai * dg b k + c) / 65536 = 0 := fun h => by
    have z1 : dg b k = 0 := by rw [dg, Qa6 (by omega)]
    have z2 : x = 0 := by rw [<- hdx, hsame _ (Nat.le_refl _), show i + k = i + b.length by omega, hz0]
    rw [z1, z2]; omega
   have hlims : Qg (M.set (i + k) ((x + ai * dg b k + c) % 65536)) := fun z hz => by
    rcases List.mem_or_eq_of_mem_set hz with h | h
    ·exact hM z h
    ·omega
   have e5 : IntKind.u64.wrap ((ai * dg b k : Nat) : Int) = ((ai * dg b k : Nat) : Int) := Qef (by omega) (by omega)
   simp +decide (disch := first | omega | rfl | (simp +decide only [go_sem, ↓reduceIte, h6, h7, h8, hxx, hxm] <;> rfl) | fail) only [go_sem, ↓reduceIte, h6, h7, h8, hxx, hxm]
   refine Qa hP (Qbb hb (by omega)) rfl rfl rfl ?_
   simp +decide (disch := first | omega | rfl | (simp +decide only [go_sem, ↓reduceIte, h6, h7, h8, hxx, hxm, e5, Nat.mod_mod] <;> rfl) | fail) only [go_sem, ↓reduceIte, h6, h7, h8, hxx, hxm, e5, Nat.mod_mod]
   refine Qac (b.length + 1 - (k + 1)) (by omega) ⟨k + 1, (x + ai * dg b k + c) / 65536, M.set (i + k) ((x + ai * dg b k + c) % 65536), rfl, by omega, ?_, hq, by rw [List.length_set]; exact hMl, hlims, ?_, ?_, ?_⟩
   ·by_cases h : k < b.length
    ·omega
    ·exact .inr (hq0 h)
   ·rw [<- Nat.add_assoc, Nat.pow_succ]; exact hnew
   ·intro j hj2
    rw [Qqk (by omega)]; exact hsame j (by omega)
   ·simp +decide (disch := first | omega | rfl | (simp +decide only [go_sem, ↓reduceIte, h6, h7, h8] <;> rfl) | fail) only [go_sem, ↓reduceIte, h6, h7, h8]
  ·obtain rfl : c = 0 := by omega
   rw [List.drop_of_length_le (by omega)] at hw
   simp only [val, Nat.mul_zero, Nat.add_zero] at hw
   simp +decide (disch := first | omega | rfl | (simp +decide only [go_sem, ↓reduceIte, h6, h7, h8] <;> rfl) | fail) only [go_sem, ↓reduceIte, h6, h7, h8]
   simp (disch := decide) only [Qbv, Qcy]
   refine Qac (a.length - (i + 1)) (by omega) ⟨i + 1, M, rfl, by omega, by omega, hM, ?_, ?_⟩
   ·rw [hw, hv, hts, Nat.add_mul, Nat.mul_assoc]
   ·simp +decide (disch := first | omega | rfl | (simp +decide only [go_sem, ↓reduceIte] <;> rfl) | fail) only [go_sem, ↓reduceIte]
 ·obtain rfl : i = a.length := by omega
  rw [List.take_length] at hv
  simp +decide (disch := first | omega | rfl | (simp +decide only [go_sem, ↓reduceIte] <;> rfl) | fail) only [go_sem, ↓reduceIte]
  refine Qez hP (Qbi hL (by omega)) (by simp +decide (disch := first | omega | rfl | (simp +decide only [go_sem, ↓reduceIte, Ql, List.contains_cons, List.contains_nil, List.flatMap_cons, List.flatMap_nil, List.append_nil] <;> rfl) | fail) only [go_sem, ↓reduceIte, Ql, List.contains_cons, List.contains_nil, List.flatMap_cons, List.flatMap_nil, List.append_nil]; simp [List.take_of_length_le, hLl]) rfl fun hp' => ?_
  simp +decide (disch := first | omega | rfl | (simp +decide only [go_sem, ↓reduceIte] <;> rfl) | fail) only [go_sem, ↓reduceIte]
  exact Qc (by rw [hv]) rfl
end Go.Proofs.YtmnkngmmfnncoaaGreat
namespace Go.Proofs.YtmnkngmmfnncoaaGreat
open Go Go.FW
set_option linter.unusedSimpArgs false
set_option linter.unusedVariables false
set_option maxRecDepth 100000
theorem Qk2 {x y : Nat} (hx : nl x < 2 ^ 40) (hy : nl y < 2 ^ 40) : Qf Tryz.prog 160 [PV.num x, PV.num y] (· = PV.num (x * y)) := by
 have := Qjf (Qj x) (Qj y) hx hy
 rwa [Qq, Qq] at this
theorem Qwr {x y : Nat} (hx : nl x < 2 ^ 42) (hy : nl y < 2 ^ 42) : Qf Tryz.prog 224 [PV.num x, PV.num y] (· = .int .i64 (Qc5 x y)) := by
 have := Qgu (Qj x) (Qj y) hx hy
 rwa [Qq, Qq] at this
theorem Qov {x y : Nat} (hx : nl x < 2 ^ 40) (hy : nl y < 2 ^ 40) (h : y <= x) : Qf Tryz.prog 208 [PV.num x, PV.num y] (· = .tup [PV.num (x - y), .int .i64 0]) := by
 have := Qug (Qj x) (Qj y) hx hy
 rwa [Qq, Qq, if_neg (by omega)] at this
theorem Qvb {x y : Nat} : Qc5 x y <= 0 ↔ x <= y := by unfold Qc5; split <;> (try split) <;> omega
theorem Qla {x y : Nat} (hx : nl x < 2 ^ 38) (hy : nl y < 2 ^ 38) (hy0 : 0 < y) : Qf Tryz.prog 210 [PV.num x, PV.num y] (· = .int .u64 (min 65535 (x / y) : Nat)) := by
 have hq2 : ∀ (n d : Nat) fr hp K, n < 18446744073709551616 -> Qas .quo false (.int .u64 (n : Int)) (.int .u64 2) d fr hp K = K (upd fr d (.int .u64 ((n / 2 : Nat) : Int))) hp := fun n d fr hp K h => by
  rw [show (2 : Int) = ((2 : Nat) : Int) from rfl, Qhr (by omega) h]
 refine Qh Qn Tryz.func210 rfl Q71 (by simp [Q3x]) fun C hP => ?_; simp only [Q3x]
 simp +decide (disch := first | omega | rfl | (simp +decide only [go_sem, ↓reduceIte] <;> rfl) | fail) only [go_sem, ↓reduceIte]
 refine Qaj (by repeat (first | exact Q2 | exact Qu | exact Qv | exact Qw | exact Qx | apply Qt | apply Qz | apply Q7 | apply Qad | apply Qae | apply Qp | apply Q5)) [(5, 25)] [] (fun m J hp => ∃ lo hi : Nat, m = hi - lo /\ lo <= hi /\ hi <= 65535 /\ y * lo <= x /\ (hi = 65535 ∨ x < y * (hi + 1)) /\ J 5 = .int .u64 lo /\ J 6 = .int .u64 hi) 65535 ?_ ?_
 ·refine ⟨0, 65535, rfl, by omega, by omega, by omega, .inl rfl, ?_⟩
  simp +decide (disch := first | omega | rfl | (simp +decide only [go_sem, ↓reduceIte] <;> rfl) | fail) only [go_sem, ↓reduceIte]
  simp
 rintro _ J h ⟨lo, hi, rfl, h1, h2, h3, h4, h5, h6⟩
 simp +decide (disch := first | omega | rfl | (simp +decide only [go_sem, ↓reduceIte, h5, h6] <;> rfl) | fail) only [go_sem, ↓reduceIte, h5, h6]
 refine Qb (fun hg => ?_) (fun hg => ?_)
 ·have hsz : nl ((lo + hi + 1) / 2) <= 4 := Qdi (by omega)
  have hm := Qfg y ((lo + hi + 1) / 2)
  generalize hmid : (lo + hi + 1) / 2 = mid at *
  simp +decide (disch := first | omega | rfl | (simp +decide only [go_sem, ↓reduceIte, h5, h6, hq2, hmid] <;> rfl) | fail) only [go_sem, ↓reduceIte, h5, h6, hq2, hmid]
  refine Qa hP (Qcj (n := mid) (by omega)) rfl rfl rfl ?_
  simp +decide (disch := first | omega | rfl | (simp +decide only [go_sem, ↓reduceIte, h5, h6] <;> rfl) | fail) only [go_sem, ↓reduceIte, h5, h6]
  refine Qa hP (Qk2 (x := y) (y := mid) (by omega) (by omega)) rfl rfl rfl ?_
  simp +decide (disch := first | omega | rfl | (simp +decide only [go_sem, ↓reduceIte, h5, h6] <;> rfl) | fail) only [go_sem, ↓reduceIte, h5, h6]
  refine Qa hP (Qwr (x := y * mid) (y := x) (by omega) (by omega)) rfl rfl rfl ?_
  simp +decide (disch := first | omega | rfl | (simp +decide only [go_sem, ↓reduceIte, h5, h6] <;> rfl) | fail) only [go_sem, ↓reduceIte, h5, h6]
  refine Qb (fun hc => ?_) (fun hc => ?_)
  ·rw [Qvb] at hc
   simp +decide (disch := first | omega | rfl | (simp +decide only [go_sem, ↓reduceIte, h5, h6] <;> rfl) | fail) only [go_sem, ↓reduceIte, h5, h6]
   refine Qac (hi - mid) (by omega) ⟨mid, hi, rfl, by omega, h2, hc, h4, ?_⟩
   simp +decide (disch := first | omega | rfl | (simp +decide only [go_sem, ↓reduceIte, h6] <;> rfl) | fail) only [go_sem, ↓reduceIte, h6]
  ·rw [Qvb] at hc
   obtain ⟨n, rfl⟩ : ∃ n, mid = n + 1 := ⟨mid - 1, by omega⟩
   have e : ((n + 1 : Nat) : Int) - 1 = n := by omega
   simp +decide (disch := first | omega | rfl | (simp +decide only [go_sem, ↓reduceIte, h5, h6, e] <;> rfl) | fail) only [go_sem, ↓reduceIte, h5, h6, e]
   refine Qac (n - lo) (by omega) ⟨lo, n, rfl, by omega, by omega, h3, .inr (by omega), ?_⟩
   simp +decide (disch := first | omega | rfl | (simp +decide only [go_sem, ↓reduceIte, h5] <;> rfl) | fail) only [go_sem, ↓reduceIte, h5]
 ·obtain rfl : lo = hi := by omega
  simp +decide (disch := first | omega | rfl | (simp +decide only [go_sem, ↓reduceIte, h5] <;> rfl) | fail) only [go_sem, ↓reduceIte, h5]
  refine Qc ?_ rfl
  have hle : lo <= x / y := (Nat.le_div_iff_mul_le hy0).2 (by rw [Nat.mul_comm]; exact h3)
  rcases h4 with rfl | h4
  ·rw [Nat.min_eq_left hle]
  ·have : x / y < lo + 1 := (Nat.div_lt_iff_lt_mul hy0).2 (by rw [Nat.mul_comm]; exact h4)
   congr 2; omega
theorem Qj3 {a b : List Nat} (ha : Qg a) (hb : Qg b) (hla : a.length < 2 ^ 36) (hlb : b.length < 2 ^ 36) : Qf Tryz.prog 168 [PV.nat a, PV.nat b]
  (· = if val b = 0 then .tup [PV.num 0, PV.num 0, .int .i64 3] else .tup [PV.num (val a / val b), PV.num (val a % val b), .int .i64 0]) := by
 have hda := Qah ha
 have hdb := Qah hb
 refine Qh Qn Tryz.func168 rfl Q72 (by simp [Q3y]) fun C hP => ?_; simp only [Q3y]
 simp +decide (disch := first | omega | rfl | (simp +decide only [go_sem, ↓reduceIte] <;> rfl) | fail) only [go_sem, ↓reduceIte]
 refine Qa hP (Qbi ha (by omega)) rfl rfl rfl ?_
 simp +decide (disch := first | omega | rfl | (simp +decide only [go_sem, ↓reduceIte] <;> rfl) | fail) only [go_sem, ↓reduceIte]
 refine Qa hP (Qbi hb (by omega)) rfl rfl rfl ?_
 simp +decide (disch := first | omega | rfl | (simp +decide only [go_sem, ↓reduceIte] <;> rfl) | fail) only [go_sem, ↓reduceIte]
 generalize val a = x at *
 generalize val b = y at *
 unfold nl at hda hdb
 refine Qb (fun hz => ?_) (fun hz => ?_)
 ·have hy0 : y = 0 := Qa9.1 (Qch (by omega))
  simp +decide (disch := first | omega | rfl | (simp +decide only [go_sem, ↓reduceIte] <;> rfl) | fail) only [go_sem, ↓reduceIte]
  rw [if_pos hy0]
  exact Qkg rfl rfl rfl rfl Qgk Qgk (Qm _)
 have hy0 : y ≠ 0 := fun h => by rw [h, Qau] at hz; simp at hz
 rw [if_neg hy0]
 have hyp : 0 < y := Nat.pos_of_ne_zero hy0
 have hxl := Qj x
 have hyl := Qj y
 have hxv := Qq x
 have hyv := Qq y
 simp +decide (disch := first | omega | rfl | (simp +decide only [go_sem, ↓reduceIte] <;> rfl) | fail) only [go_sem, ↓reduceIte]
 refine Qbp (fun h1 => ?_) (fun h1 => ?_)
 ·simp +decide (disch := first | omega | rfl | (simp +decide only [go_sem, ↓reduceIte] <;> rfl) | fail) only [go_sem, ↓reduceIte]
  refine Qb (fun h2 => ?_) (fun h2 => ?_)
  ·have hx64 := Qio.1 (show nl x <= 4 by unfold nl; omega)
   have hy64 := Qio.1 (show nl y <= 4 by unfold nl; omega)
   have hq := Nat.div_le_self x y
   have hr := Nat.mod_lt x hyp
   simp +decide (disch := first | omega | rfl | (simp +decide only [go_sem, ↓reduceIte] <;> rfl) | fail) only [go_sem, ↓reduceIte]
   refine Qa hP (Qfk hxl (by omega)) rfl rfl rfl ?_
   simp +decide (disch := first | omega | rfl | (simp +decide only [go_sem, ↓reduceIte, hxv] <;> rfl) | fail) only [go_sem, ↓reduceIte, hxv]
   refine Qa hP (Qfk hyl (by omega)) rfl rfl rfl ?_
   simp +decide (disch := first | omega | rfl | (simp +decide only [go_sem, ↓reduceIte, hxv, hyv, Qhr] <;> rfl) | fail) only [go_sem, ↓reduceIte, hxv, hyv, Qhr]
   refine Qa hP (Qcj (n := x / y) (by omega)) rfl rfl rfl ?_
   simp +decide (disch := first | omega | rfl | (simp +decide only [go_sem, ↓reduceIte] <;> rfl) | fail) only [go_sem, ↓reduceIte]
   refine Qa hP (Qfk hxl (by omega)) rfl rfl rfl ?_
   simp +decide (disch := first | omega | rfl | (simp +decide only [go_sem, ↓reduceIte, hxv] <;> rfl) | fail) only [go_sem, ↓reduceIte, hxv]
   refine Qa hP (Qfk hyl (by omega)) rfl rfl rfl ?_
   simp +decide (disch := first | omega | rfl | (simp +decide only [go_sem, ↓reduceIte, hxv, hyv, Qdf] <;> rfl) | fail) only [go_sem, ↓reduceIte, hxv, hyv, Qdf]
   refine Qa hP (Qcj (n := x % y) (by omega)) rfl rfl rfl ?_
   simp +decide (disch := first | omega | rfl | (simp +decide only [go_sem, ↓reduceIte] <;> rfl) | fail) only [go_sem, ↓reduceIte]
   exact Qkg rfl rfl rfl rfl (Qm _) (Qm _) (Qm _)
  ·have hsep := trivial
   simp +decide (disch := first | omega | rfl | (simp +decide only [go_sem, ↓reduceIte] <;> rfl) | fail) only [go_sem, ↓reduceIte]
   refine Qmn 7 1 (by simp +decide (disch := first | omega | rfl | (simp +decide only [go_sem, ↓reduceIte] <;> rfl) | fail) only [go_sem, ↓reduceIte]) ?_
   refine Qmn 8 1 (by simp +decide (disch := first | omega | rfl | (simp +decide only [go_sem, ↓reduceIte] <;> rfl) | fail) only [go_sem, ↓reduceIte]) ?_
   refine Qsw (by repeat (first | exact Q2 | exact Qu | exact Qv | exact Qw | exact Qx | apply Qt | apply Qz | apply Q7 | apply Qad | apply Qae | apply Qp | apply Q5)) [(7, 10), (41, 69)] [49, 51, 58, 60] (fun k J hp => ∃ qs, k <= (dig x).length /\ qs.length = (dig x).length - k /\ Qg qs /\ val qs = val ((dig x).drop k) / y /\ J 7 = .sl 1 (Qar qs) /\ J 8 = PV.num (val ((dig x).drop k) % y) /\ J 9 = .int .i64 ((k : Int) - 1)) (dig x).length ?_ ?_
   ·refine ⟨[], Nat.le_refl _, by simp, Qb7, by simp [val], ?_⟩
    simp +decide (disch := first | omega | rfl | (simp +decide only [go_sem, ↓reduceIte] <;> rfl) | fail) only [go_sem, ↓reduceIte]
    simp [val, Qau]
   rintro k J h ⟨qs, hk, hql, hqs, hqv, h7, h8, h9⟩
   simp +decide (disch := first | omega | rfl | (simp +decide only [go_sem, ↓reduceIte, h7, h8, h9] <;> rfl) | fail) only [go_sem, ↓reduceIte, h7, h8, h9]
   have hr := Nat.mod_lt (val ((dig x).drop k)) hyp
   refine Qb (fun hg => ?_) (fun hg => ?_)
   ·obtain _ | n := k
    ·omega
    have hn : n < (dig x).length := by omega
    have han := Qaf hxl hn
    have e : ((n + 1 : Nat) : Int) - 1 = n := by omega
    have hst := Qom (x := (dig x)[n]) hyp hqv
    rw [<- Qb6 hn] at hst
    generalize hV : val ((dig x).drop (n + 1)) % y = r at *
    generalize hxx : (dig x)[n] = xi at *
    have hrl : (dig r).length <= (dig y).length := Qbw (Nat.le_of_lt hr)
    have hlim : Qg ([xi] ++ dig r) := by rw [Qbh]; exact ⟨by intro z hz; simp at hz; omega, Qj r⟩
    have hvl : val ([xi] ++ dig r) = r * 65536 + xi := by rw [Qbu, Qq]; simp [val]; omega
    have hlt : (r * 65536 + xi) / y < 65536 := by
     rw [Nat.div_lt_iff_lt_mul hyp]
     have : (r + 1) * 65536 <= y * 65536 := Nat.mul_le_mul_right _ hr
     omega
    have hnR : nl (r * 65536 + xi) <= (dig y).length + 1 := by
     have := Qah hlim
     rw [hvl, List.length_append] at this
     simp at this; omega
    have hdm := Nat.div_add_mod (r * 65536 + xi) y
    have hnm : nl (y * ((r * 65536 + xi) / y)) <= (dig y).length + 1 := Nat.le_trans (Qbw (by omega)) hnR
    have hn4 : nl ((r * 65536 + xi) / y) <= 4 := Qdi (by omega)
    have hsub : r * 65536 + xi - y * ((r * 65536 + xi) / y) = (r * 65536 + xi) % y := by omega
    simp +decide (disch := first | omega | rfl | (simp +decide only [go_sem, ↓reduceIte, h7, h8, h9, e, hxx] <;> rfl) | fail) only [go_sem, ↓reduceIte, h7, h8, h9, e, hxx]
    rw [Qmm (f := fun (x : Nat) => .int .u16 x) (xs := [xi]) (ys := dig r) (n := 1) (by simp +decide (disch := first | omega | rfl | (simp +decide only [go_sem, ↓reduceIte] <;> rfl) | fail) only [go_sem, ↓reduceIte] <;> rfl) rfl (by omega) (by omega) (by omega)]
    simp +decide (disch := first | omega | rfl | (simp +decide only [go_sem, ↓reduceIte, h7, h8, h9, e, hxx] <;> rfl) | fail) only [go_sem, ↓reduceIte, h7, h8, h9, e, hxx]
    refine Qde hP (Qbi (l := [xi] ++ dig r) hlim (by simp; omega)) (by simp +decide (disch := first | omega | rfl | (simp +decide only [go_sem, ↓reduceIte, Ql, List.contains_cons, List.contains_nil, List.flatMap_cons, List.flatMap_nil, List.append_nil] <;> rfl) | fail) only [go_sem, ↓reduceIte, Ql, List.contains_cons, List.contains_nil, List.flatMap_cons, List.flatMap_nil, List.append_nil]; simp [Nat.add_comm 1, List.take_of_length_le]) rfl ?_
    rw [hvl]
    simp +decide (disch := first | omega | rfl | (simp +decide only [go_sem, ↓reduceIte, h7, h8, h9, e, hxx] <;> rfl) | fail) only [go_sem, ↓reduceIte, h7, h8, h9, e, hxx]
    refine Qa hP (Qla (x := r * 65536 + xi) (y := y) (by omega) (by unfold nl; omega) hyp) rfl rfl rfl ?_
    rw [Nat.min_eq_right (by omega : (r * 65536 + xi) / y <= 65535)]
    generalize hD : (r * 65536 + xi) / y = D at *
    simp +decide (disch := first | omega | rfl | (simp +decide only [go_sem, ↓reduceIte, h7, h8, h9, e, hxx, Nat.mod_eq_of_lt hlt] <;> rfl) | fail) only [go_sem, ↓reduceIte, h7, h8, h9, e, hxx, Nat.mod_eq_of_lt hlt]
    rw [Qmm (f := fun (x : Nat) => .int .u16 x) (xs := [D]) (ys := qs) (n := 1) (by simp +decide (disch := first | omega | rfl | (simp +decide only [go_sem, ↓reduceIte] <;> rfl) | fail) only [go_sem, ↓reduceIte] <;> rfl) rfl (by omega) (by omega) (by omega)]
    simp +decide (disch := first | omega | rfl | (simp +decide only [go_sem, ↓reduceIte, h7, h8, h9, e, hxx] <;> rfl) | fail) only [go_sem, ↓reduceIte, h7, h8, h9, e, hxx]
    refine Qa hP (Qcj (n := D) (by omega)) rfl rfl rfl ?_
    simp +decide (disch := first | omega | rfl | (simp +decide only [go_sem, ↓reduceIte, h7, h8, h9, e] <;> rfl) | fail) only [go_sem, ↓reduceIte, h7, h8, h9, e]
    refine Qa hP (Qk2 (x := y) (y := D) (by unfold nl; omega) (by omega)) rfl rfl rfl ?_
    simp +decide (disch := first | omega | rfl | (simp +decide only [go_sem, ↓reduceIte, h7, h8, h9, e] <;> rfl) | fail) only [go_sem, ↓reduceIte, h7, h8, h9, e]
    refine Qa hP (Qov (x := r * 65536 + xi) (y := y * D) (by omega) (by omega) (by omega)) rfl rfl rfl ?_
    rw [hsub]
    simp +decide (disch := first | omega | rfl | (simp +decide only [go_sem, ↓reduceIte, h7, h8, h9, e] <;> rfl) | fail) only [go_sem, ↓reduceIte, h7, h8, h9, e]
    refine Qol 7 n rfl ?_ (by omega) ⟨D :: qs, by omega, by simp; omega, ?_, ?_, ?_⟩
    ·simp +decide (disch := first | omega | rfl | (simp +decide only [go_sem, ↓reduceIte, Ql, List.contains_cons, List.contains_nil, List.flatMap_cons, List.flatMap_nil, List.append_nil] <;> rfl) | fail) only [go_sem, ↓reduceIte, Ql, List.contains_cons, List.contains_nil, List.flatMap_cons, List.flatMap_nil, List.append_nil]
    ·rw [Qao]; exact ⟨hlt, hqs⟩
    ·rw [val, hst.1]
    ·simp +decide (disch := first | omega | rfl | (simp +decide only [go_sem, ↓reduceIte, Ql, List.contains_cons, List.contains_nil, List.flatMap_cons, List.flatMap_nil, List.append_nil, hst.2] <;> rfl) | fail) only [go_sem, ↓reduceIte, Ql, List.contains_cons, List.contains_nil, List.flatMap_cons, List.flatMap_nil, List.append_nil, hst.2]
     simp [Nat.add_comm 1, List.take_of_length_le]
   ·obtain rfl : k = 0 := by omega
    rw [List.drop_zero, hxv] at hqv h8
    simp +decide (disch := first | omega | rfl | (simp +decide only [go_sem, ↓reduceIte, h7, h8] <;> rfl) | fail) only [go_sem, ↓reduceIte, h7, h8]
    refine Qa hP (Qbi hqs (by omega)) rfl rfl rfl ?_
    simp +decide (disch := first | omega | rfl | (simp +decide only [go_sem, ↓reduceIte, h7, h8] <;> rfl) | fail) only [go_sem, ↓reduceIte, h7, h8]
    exact Qkg rfl rfl rfl rfl (Qfq (by rw [hqv])) (Qm _) (Qm _)
 ·have hsep := trivial
  simp +decide (disch := first | omega | rfl | (simp +decide only [go_sem, ↓reduceIte] <;> rfl) | fail) only [go_sem, ↓reduceIte]
  refine Qmn 7 1 (by simp +decide (disch := first | omega | rfl | (simp +decide only [go_sem, ↓reduceIte] <;> rfl) | fail) only [go_sem, ↓reduceIte]) ?_
  refine Qmn 8 1 (by simp +decide (disch := first | omega | rfl | (simp +decide only [go_sem, ↓reduceIte] <;> rfl) | fail) only [go_sem, ↓reduceIte]) ?_
  refine Qsw (by repeat (first | exact Q2 | exact Qu | exact Qv | exact Qw | exact Qx | apply Qt | apply Qz | apply Q7 | apply Qad | apply Qae | apply Qp | apply Q5)) [(7, 10), (41, 69)] [49, 51, 58, 60] (fun k J hp => ∃ qs, k <= (dig x).length /\ qs.length = (dig x).length - k /\ Qg qs /\ val qs = val ((dig x).drop k) / y /\ J 7 = .sl 1 (Qar qs) /\ J 8 = PV.num (val ((dig x).drop k) % y) /\ J 9 = .int .i64 ((k : Int) - 1)) (dig x).length ?_ ?_
  ·refine ⟨[], Nat.le_refl _, by simp, Qb7, by simp [val], ?_⟩
   simp +decide (disch := first | omega | rfl | (simp +decide only [go_sem, ↓reduceIte] <;> rfl) | fail) only [go_sem, ↓reduceIte]
   simp [val, Qau]
  rintro k J h ⟨qs, hk, hql, hqs, hqv, h7, h8, h9⟩
  simp +decide (disch := first | omega | rfl | (simp +decide only [go_sem, ↓reduceIte, h7, h8, h9] <;> rfl) | fail) only [go_sem, ↓reduceIte, h7, h8, h9]
  have hr := Nat.mod_lt (val ((dig x).drop k)) hyp
  refine Qb (fun hg => ?_) (fun hg => ?_)
  ·obtain _ | n := k
   ·omega
   have hn : n < (dig x).length := by omega
   have han := Qaf hxl hn
   have e : ((n + 1 : Nat) : Int) - 1 = n := by omega
   have hst := Qom (x := (dig x)[n]) hyp hqv
   rw [<- Qb6 hn] at hst
   generalize hV : val ((dig x).drop (n + 1)) % y = r at *
   generalize hxx : (dig x)[n] = xi at *
   have hrl : (dig r).length <= (dig y).length := Qbw (Nat.le_of_lt hr)
   have hlim : Qg ([xi] ++ dig r) := by rw [Qbh]; exact ⟨by intro z hz; simp at hz; omega, Qj r⟩
   have hvl : val ([xi] ++ dig r) = r * 65536 + xi := by rw [Qbu, Qq]; simp [val]; omega
   have hlt : (r * 65536 + xi) / y < 65536 := by
    rw [Nat.div_lt_iff_lt_mul hyp]
    have : (r + 1) * 65536 <= y * 65536 := Nat.mul_le_mul_right _ hr
    omega
   have hnR : nl (r * 65536 + xi) <= (dig y).length + 1 := by
    have := Qah hlim
    rw [hvl, List.length_append] at this
    simp at this; omega
   have hdm := Nat.div_add_mod (r * 65536 + xi) y
   have hnm : nl (y * ((r * 65536 + xi) / y)) <= (dig y).length + 1 := Nat.le_trans (Qbw (by omega)) hnR
   have hn4 : nl ((r * 65536 + xi) / y) <= 4 := Qdi (by omega)
   have hsub : r * 65536 + xi - y * ((r * 65536 + xi) / y) = (r * 65536 + xi) % y := by omega
   simp +decide (disch := first | omega | rfl | (simp +decide only [go_sem, ↓reduceIte, h7, h8, h9, e, hxx] <;> rfl) | fail) only [go_sem, ↓reduceIte, h7, h8, h9, e, hxx]
   rw [Qmm (f := fun (x : Nat) => .int .u16 x) (xs := [xi]) (ys := dig r) (n := 1) (by simp +decide (disch := first | omega | rfl | (simp +decide only [go_sem, ↓reduceIte] <;> rfl) | fail) only [go_sem, ↓reduceIte] <;> rfl) rfl (by omega) (by omega) (by omega)]
   simp +decide (disch := first | omega | rfl | (simp +decide only [go_sem, ↓reduceIte, h7, h8, h9, e, hxx] <;> rfl) | fail) only [go_sem, ↓reduceIte, h7, h8, h9, e, hxx]
   refine Qde hP (Qbi (l := [xi] ++ dig r) hlim (by simp; omega)) (by simp +decide (disch := first | omega | rfl | (simp +decide only [go_sem, ↓reduceIte, Ql, List.contains_cons, List.contains_nil, List.flatMap_cons, List.flatMap_nil, List.append_nil] <;> rfl) | fail) only [go_sem, ↓reduceIte, Ql, List.contains_cons, List.contains_nil, List.flatMap_cons, List.flatMap_nil, List.append_nil]; simp [Nat.add_comm 1, List.take_of_length_le]) rfl ?_
   rw [hvl]
   simp +decide (disch := first | omega | rfl | (simp +decide only [go_sem, ↓reduceIte, h7, h8, h9, e, hxx] <;> rfl) | fail) only [go_sem, ↓reduceIte, h7, h8, h9, e, hxx]
   refine Qa hP (Qla (x := r * 65536 + xi) (y := y) (by omega) (by unfold nl; omega) hyp) rfl rfl rfl ?_
   rw [Nat.min_eq_right (by omega : (r * 65536 + xi) / y <= 65535)]
   generalize hD : (r * 65536 + xi) / y = D at *
   simp +decide (disch := first | omega | rfl | (simp +decide only [go_sem, ↓reduceIte, h7, h8, h9, e, hxx, Nat.mod_eq_of_lt hlt] <;> rfl) | fail) only [go_sem, ↓reduceIte, h7, h8, h9, e, hxx, Nat.mod_eq_of_lt hlt]
   rw [Qmm (f := fun (x : Nat) => .int .u16 x) (xs := [D]) (ys := qs) (n := 1) (by simp +decide (disch := first | omega | rfl | (simp +decide only [go_sem, ↓reduceIte] <;> rfl) | fail) only [go_sem, ↓reduceIte] <;> rfl) rfl (by omega) (by omega) (by omega)]
   simp +decide (disch := first | omega | rfl | (simp +decide only [go_sem, ↓reduceIte, h7, h8, h9, e, hxx] <;> rfl) | fail) only [go_sem, ↓reduceIte, h7, h8, h9, e, hxx]
   refine Qa hP (Qcj (n := D) (by omega)) rfl rfl rfl ?_
   simp +decide (disch := first | omega | rfl | (simp +decide only [go_sem, ↓reduceIte, h7, h8, h9, e] <;> rfl) | fail) only [go_sem, ↓reduceIte, h7, h8, h9, e]
   refine Qa hP (Qk2 (x := y) (y := D) (by unfold nl; omega) (by omega)) rfl rfl rfl ?_
   simp +decide (disch := first | omega | rfl | (simp +decide only [go_sem, ↓reduceIte, h7, h8, h9, e] <;> rfl) | fail) only [go_sem, ↓reduceIte, h7, h8, h9, e]
   refine Qa hP (Qov (x := r * 65536 + xi) (y := y * D) (by omega) (by omega) (by omega)) rfl rfl rfl ?_
   rw [hsub]
   simp +decide (disch := first | omega | rfl | (simp +decide only [go_sem, ↓reduceIte, h7, h8, h9, e] <;> rfl) | fail) only [go_sem, ↓reduceIte, h7, h8, h9, e]
   refine Qol 7 n rfl ?_ (by omega) ⟨D :: qs, by omega, by simp; omega, ?_, ?_, ?_⟩
   ·simp +decide (disch := first | omega | rfl | (simp +decide only [go_sem, ↓reduceIte, Ql, List.contains_cons, List.contains_nil, List.flatMap_cons, List.flatMap_nil, List.append_nil] <;> rfl) | fail) only [go_sem, ↓reduceIte, Ql, List.contains_cons, List.contains_nil, List.flatMap_cons, List.flatMap_nil, List.append_nil]
   ·rw [Qao]; exact ⟨hlt, hqs⟩
   ·rw [val, hst.1]
   ·simp +decide (disch := first | omega | rfl | (simp +decide only [go_sem, ↓reduceIte, Ql, List.contains_cons, List.contains_nil, List.flatMap_cons, List.flatMap_nil, List.append_nil, hst.2] <;> rfl) | fail) only [go_sem, ↓reduceIte, Ql, List.contains_cons, List.contains_nil, List.flatMap_cons, List.flatMap_nil, List.append_nil, hst.2]
    simp [Nat.add_comm 1, List.take_of_length_le]
  ·obtain rfl : k = 0 := by omega
   rw [List.drop_zero, hxv] at hqv h8
   simp +decide (disch := first | omega | rfl | (simp +decide only [go_sem, ↓reduceIte, h7, h8] <;> rfl) | fail) only [go_sem, ↓reduceIte, h7, h8]
   refine Qa hP (Qbi hqs (by omega)) rfl rfl rfl ?_
   simp +decide (disch := first | omega | rfl | (simp +decide only [go_sem, ↓reduceIte, h7, h8] <;> rfl) | fail) only [go_sem, ↓reduceIte, h7, h8]
   exact Qkg rfl rfl rfl rfl (Qfq (by rw [hqv])) (Qm _) (Qm _)
end Go.Proofs.YtmnkngmmfnncoaaGreat
namespace Go.Proofs.YtmnkngmmfnncoaaGreat
open Go Go.FW
set_option linter.unusedSimpArgs false
set_option linter.unusedVariables false
set_option maxRecDepth 100000
theorem Qrb {x y : Nat} (hx : nl x < 2 ^ 36) (hy : nl y < 2 ^ 36) (h0 : y ≠ 0) : Qf Tryz.prog 168 [PV.num x, PV.num y] (· = .tup [PV.num (x / y), PV.num (x % y), .int .i64 0]) := by
 have := Qj3 (Qj x) (Qj y) hx hy
 rwa [Qq, Qq, if_neg h0] at this
theorem Qm9 {a b : List Nat} (ha : Qg a) (hb : Qg b) (hla : a.length < 2 ^ 36) (hlb : b.length < 2 ^ 36) : Qf Tryz.prog 120 [PV.nat a, PV.nat b] (· = PV.num (Nat.gcd (val a) (val b))) := by
 have hda := Qah ha
 have hdb := Qah hb
 refine Qh Qn Tryz.func120 rfl Q73 (by simp [Q3z]) fun C hP => ?_; simp only [Q3z]
 simp +decide (disch := first | omega | rfl | (simp +decide only [go_sem, ↓reduceIte] <;> rfl) | fail) only [go_sem, ↓reduceIte]
 refine Qa hP (Qbi ha (by omega)) rfl rfl rfl ?_
 simp +decide (disch := first | omega | rfl | (simp +decide only [go_sem, ↓reduceIte] <;> rfl) | fail) only [go_sem, ↓reduceIte]
 refine Qa hP (Qbi hb (by omega)) rfl rfl rfl ?_
 simp +decide (disch := first | omega | rfl | (simp +decide only [go_sem, ↓reduceIte] <;> rfl) | fail) only [go_sem, ↓reduceIte]
 refine Qaj (by repeat (first | exact Q2 | exact Qu | exact Qv | exact Qw | exact Qx | apply Qt | apply Qz | apply Q7 | apply Qad | apply Qae | apply Qp | apply Q5)) [(0, 1), (5, 7), (12, 23)] [] (fun m J hp => ∃ x y, m = y /\ Nat.gcd x y = Nat.gcd (val a) (val b) /\ nl x < 2 ^ 36 /\ nl y < 2 ^ 36 /\ J 0 = PV.num x /\ J 1 = PV.num y /\ hp = hp0) (val b) ?_ ?_
 ·refine ⟨val a, val b, rfl, rfl, by omega, by omega, ?_⟩
  simp +decide (disch := first | omega | rfl | (simp +decide only [go_sem, ↓reduceIte] <;> rfl) | fail) only [go_sem, ↓reduceIte]
 rintro y J _ ⟨x, _, rfl, hg, hx, hy, h0, h1, rfl⟩
 generalize Nat.gcd (val a) (val b) = g at *
 simp +decide (disch := first | omega | rfl | (simp +decide only [go_sem, ↓reduceIte, h0, h1] <;> rfl) | fail) only [go_sem, ↓reduceIte, h0, h1]
 refine Qb (fun hc => ?_) (fun hc => ?_)
 ·have hy0 : y ≠ 0 := fun h => by rw [h, Qau] at hc; simp at hc
  have hmod := Qbw (Nat.le_of_lt (Nat.mod_lt x (Nat.pos_of_ne_zero hy0)))
  simp +decide (disch := first | omega | rfl | (simp +decide only [go_sem, ↓reduceIte, h0, h1] <;> rfl) | fail) only [go_sem, ↓reduceIte, h0, h1]
  refine Qa hP (Qrb (x := x) (y := y) hx hy hy0) rfl rfl rfl ?_
  simp +decide (disch := first | omega | rfl | (simp +decide only [go_sem, ↓reduceIte, h0, h1] <;> rfl) | fail) only [go_sem, ↓reduceIte, h0, h1]
  refine Qac (x % y) (Nat.mod_lt _ (Nat.pos_of_ne_zero hy0)) ⟨y, x % y, rfl, ?_, hy, by omega, ?_⟩
  ·rw [<- hg, Nat.gcd_comm x y, Nat.gcd_rec y x, Nat.gcd_comm]
  ·simp +decide (disch := first | omega | rfl | (simp +decide only [go_sem, ↓reduceIte] <;> rfl) | fail) only [go_sem, ↓reduceIte]
 ·have hy0 : y = 0 := Qa9.1 (Qch (by omega))
  subst hy0
  simp +decide (disch := first | omega | rfl | (simp +decide only [go_sem, ↓reduceIte, h0] <;> rfl) | fail) only [go_sem, ↓reduceIte, h0]
  exact Qc (by rw [<- hg, Nat.gcd_zero_right]) rfl
end Go.Proofs.YtmnkngmmfnncoaaGreat
namespace Go.Proofs.YtmnkngmmfnncoaaGreat
open Go Go.FW
set_option linter.unusedSimpArgs false
set_option linter.unusedVariables false
set_option maxRecDepth 100000
theorem Qgb {n : Bool} {a : List Nat} (ha : Qg a) (hla : a.length < 2 ^ 42) : Qf Tryz.prog 170 [.bool n, PV.nat a] (· = PV.zz (zv n a)) := by
 refine Qh Qn Tryz.func170 rfl Q76 (by simp [Q32]) fun C hP => ?_; simp only [Q32]
 simp +decide (disch := first | omega | rfl | (simp +decide only [go_sem, ↓reduceIte] <;> rfl) | fail) only [go_sem, ↓reduceIte]
 refine Qa hP (Qbi ha hla) rfl rfl rfl ?_
 simp +decide (disch := first | omega | rfl | (simp +decide only [go_sem, ↓reduceIte] <;> rfl) | fail) only [go_sem, ↓reduceIte]
 refine Qee (fun hn => ?_) (fun hn => ?_)
 all_goals
  simp +decide (disch := first | omega | rfl | (simp +decide only [go_sem, ↓reduceIte] <;> rfl) | fail) only [go_sem, ↓reduceIte]
  refine Qaz ?_
  simp +decide (disch := first | omega | rfl | (simp +decide only [go_sem, ↓reduceIte] <;> rfl) | fail) only [go_sem, ↓reduceIte]
  exact Qc (by have := Qpp n (val a); rw [hn] at this; subst hn; simpa [zv] using this) rfl
theorem Qgc {n : Bool} {a : List Nat} (ha : Qg a) (hla : a.length < 2 ^ 42) : Qf Tryz.prog 169 [PV.zi n a] (· = PV.zz (zv n a)) := by
 refine Qh Qn Tryz.func169 rfl Q77 (by simp [Q33]) fun C hP => ?_; simp only [Q33]
 simp +decide (disch := first | omega | rfl | (simp +decide only [go_sem, ↓reduceIte] <;> rfl) | fail) only [go_sem, ↓reduceIte]
 refine Qa hP (Qgb ha hla) rfl rfl rfl ?_
 simp +decide (disch := first | omega | rfl | (simp +decide only [go_sem, ↓reduceIte] <;> rfl) | fail) only [go_sem, ↓reduceIte]
 refine Qaz ?_
 simp +decide (disch := first | omega | rfl | (simp +decide only [go_sem, ↓reduceIte] <;> rfl) | fail) only [go_sem, ↓reduceIte]
 exact Qc rfl rfl
theorem Qna {n m : Bool} {a b : List Nat} (ha : Qg a) (hb : Qg b) (hla : a.length < 2 ^ 40) (hlb : b.length < 2 ^ 40) : Qf Tryz.prog 159 [PV.zi n a, PV.zi m b] (· = PV.zz (zv n a * zv m b)) := by
 have hr : nl (val a * val b) < 2 ^ 42 := by have := Qfg (val a) (val b); have := Qah ha; have := Qah hb; omega
 refine Qh Qn Tryz.func159 rfl Q8c (by simp [Q38]) fun C hP => ?_; simp only [Q38]
 simp +decide (disch := first | omega | rfl | (simp +decide only [go_sem, ↓reduceIte] <;> rfl) | fail) only [go_sem, ↓reduceIte]
 refine Qa hP (Qjf ha hb hla hlb) rfl rfl rfl ?_
 simp +decide (disch := first | omega | rfl | (simp +decide only [go_sem, ↓reduceIte] <;> rfl) | fail) only [go_sem, ↓reduceIte]
 refine Qa hP (Qgb (n := !(n == m)) (Qj (val a * val b)) hr) rfl rfl rfl ?_
 simp +decide (disch := first | omega | rfl | (simp +decide only [go_sem, ↓reduceIte] <;> rfl) | fail) only [go_sem, ↓reduceIte]
 refine Qaz ?_
 simp +decide (disch := first | omega | rfl | (simp +decide only [go_sem, ↓reduceIte] <;> rfl) | fail) only [go_sem, ↓reduceIte]
 exact Qc (congrArg PV.zz (by rw [Qjw]; unfold zv; cases n <;> cases m <;> simp [Int.neg_mul, Int.mul_neg])) rfl
theorem Qk3 {x : Int} (h1 : -9223372036854775808 <= x) (h2 : x <= 9223372036854775807) : Qf Tryz.prog 105 [.int .i64 x] (· = PV.zz x) := by
 refine Qh Qn Tryz.func105 rfl Q78 (by simp [Q34]) fun C hP => ?_; simp only [Q34]
 simp +decide (disch := first | omega | rfl | (simp +decide only [go_sem, ↓reduceIte] <;> rfl) | fail) only [go_sem, ↓reduceIte]
 refine Qb (fun hc => ?_) (fun hc => ?_)
 ·obtain ⟨y, hy⟩ : ∃ y : Nat, x = -((y : Int) + 1) := ⟨(-(x + 1)).toNat, by omega⟩
  have e1 : IntKind.i64.wrap (x + 1) = -(y : Int) := by rw [Qfo (by omega) (by omega)]; omega
  have e2 : IntKind.i64.wrap (0 - -(y : Int)) = (y : Int) := by rw [Qfo (by omega) (by omega)]; omega
  have e3 : IntKind.u64.wrap (y : Int) = (y : Int) := Qef (by omega) (by omega)
  have hl1 : nl y <= 4 := Qdi (by omega)
  have hl2 : nl (y + 1) <= 4 := Qdi (by omega)
  simp +decide (disch := first | omega | rfl | (simp +decide only [go_sem, ↓reduceIte, e1, e2, e3] <;> rfl) | fail) only [go_sem, ↓reduceIte, e1, e2, e3]
  refine Qa hP (Qcj (n := y) (by omega)) rfl rfl rfl ?_
  simp +decide (disch := first | omega | rfl | (simp +decide only [go_sem, ↓reduceIte] <;> rfl) | fail) only [go_sem, ↓reduceIte]
  refine Qa hP (Qcj (n := 1) (by omega)) rfl rfl rfl ?_
  simp +decide (disch := first | omega | rfl | (simp +decide only [go_sem, ↓reduceIte] <;> rfl) | fail) only [go_sem, ↓reduceIte]
  refine Qa hP (Quf (Qj y) (Qj 1) (show nl y < _ by omega) (show nl 1 < _ by rw [Qjy]; omega)) rfl rfl rfl ?_
  simp +decide (disch := first | omega | rfl | (simp +decide only [go_sem, ↓reduceIte] <;> rfl) | fail) only [go_sem, ↓reduceIte]
  refine Qa hP (Qgb (n := true) (Qj (val (dig y) + val (dig 1))) (show nl _ < _ by rw [Qq, Qq]; omega)) rfl rfl rfl ?_
  simp +decide (disch := first | omega | rfl | (simp +decide only [go_sem, ↓reduceIte] <;> rfl) | fail) only [go_sem, ↓reduceIte]
  refine Qaz ?_
  simp +decide (disch := first | omega | rfl | (simp +decide only [go_sem, ↓reduceIte] <;> rfl) | fail) only [go_sem, ↓reduceIte]
  exact Qc (congrArg PV.zz (by rw [Qjw, Qq, Qq]; simp; omega)) rfl
 ·obtain ⟨y, rfl⟩ : ∃ y : Nat, x = y := ⟨x.toNat, by omega⟩
  have hl1 : nl y <= 4 := Qdi (by omega)
  simp +decide (disch := first | omega | rfl | (simp +decide only [go_sem, ↓reduceIte] <;> rfl) | fail) only [go_sem, ↓reduceIte]
  refine Qa hP (Qcj (by omega)) rfl rfl rfl ?_
  simp +decide (disch := first | omega | rfl | (simp +decide only [go_sem, ↓reduceIte] <;> rfl) | fail) only [go_sem, ↓reduceIte]
  refine Qa hP (Qgb (n := false) (Qj y) (show nl _ < _ by omega)) rfl rfl rfl ?_
  simp +decide (disch := first | omega | rfl | (simp +decide only [go_sem, ↓reduceIte] <;> rfl) | fail) only [go_sem, ↓reduceIte]
  refine Qaz ?_
  simp +decide (disch := first | omega | rfl | (simp +decide only [go_sem, ↓reduceIte] <;> rfl) | fail) only [go_sem, ↓reduceIte]
  exact Qc (congrArg PV.zz (by rw [Qjw]; simp)) rfl
theorem Qth {n : Bool} {a : List Nat} (ha : Qg a) (hla : a.length < 2 ^ 42) : Qf Tryz.prog 156 [PV.zi n a] (· = .int .i64 (sgn (zv n a))) := by
 refine Qh Qn Tryz.func156 rfl Q79 (by simp [Q35]) fun C hP => ?_; simp only [Q35]
 simp +decide (disch := first | omega | rfl | (simp +decide only [go_sem, ↓reduceIte] <;> rfl) | fail) only [go_sem, ↓reduceIte]
 refine Qa hP (Qgc ha hla) rfl rfl rfl ?_
 generalize zv n a = z
 simp +decide (disch := first | omega | rfl | (simp +decide only [go_sem, ↓reduceIte] <;> rfl) | fail) only [go_sem, ↓reduceIte]
 refine Qb (fun hz => ?_) (fun hz => ?_)
 ·have : z = 0 := by have := Qa9.1 (Qch (n := z.natAbs) (by omega)); omega
  subst this
  simp +decide (disch := first | omega | rfl | (simp +decide only [go_sem, ↓reduceIte] <;> rfl) | fail) only [go_sem, ↓reduceIte]
  exact Qc rfl rfl
 ·have h0 : z ≠ 0 := fun h => by subst h; exact hz (by simp [Qau])
  simp +decide (disch := first | omega | rfl | (simp +decide only [go_sem, ↓reduceIte] <;> rfl) | fail) only [go_sem, ↓reduceIte]
  refine Qin (fun hn => ?_) (fun hn => ?_)
  ·have hn : z < 0 := by simpa using hn
   simp +decide (disch := first | omega | rfl | (simp +decide only [go_sem, ↓reduceIte] <;> rfl) | fail) only [go_sem, ↓reduceIte]
   exact Qc (by rw [sgn, if_pos hn]) rfl
  ·have hn : ¬ z < 0 := by simpa using hn
   simp +decide (disch := first | omega | rfl | (simp +decide only [go_sem, ↓reduceIte] <;> rfl) | fail) only [go_sem, ↓reduceIte]
   exact Qc (by rw [sgn, if_neg hn, if_pos (by omega)]) rfl
theorem Qti {n m : Bool} {a b : List Nat} (hla : a.length < 2 ^ 43) (hlb : b.length < 2 ^ 43) : Qf Tryz.prog 87 [PV.zi n a, PV.zi m b] (· = .bool (decide (n = m /\ a = b))) := by
 refine Qh Qn Tryz.func87 rfl Qaaz (by simp [c87]) fun C hP => ?_; simp only [c87]
 simp +decide (disch := first | omega | rfl | (simp +decide only [go_sem, ↓reduceIte] <;> rfl) | fail) only [go_sem, ↓reduceIte]
 refine Qee (fun hn => ?_) (fun hn => ?_)
 ·simp +decide (disch := first | omega | rfl | (simp +decide only [go_sem, ↓reduceIte] <;> rfl) | fail) only [go_sem, ↓reduceIte]
  refine Qa hP (Qif hla hlb) rfl rfl rfl ?_
  simp +decide (disch := first | omega | rfl | (simp +decide only [go_sem, ↓reduceIte] <;> rfl) | fail) only [go_sem, ↓reduceIte]
  exact Qc (congrArg PV.bool (by cases n <;> cases m <;> simp_all)) rfl
 ·simp +decide (disch := first | omega | rfl | (simp +decide only [go_sem, ↓reduceIte] <;> rfl) | fail) only [go_sem, ↓reduceIte]
  exact Qc (congrArg PV.bool (by cases n <;> cases m <;> simp_all)) rfl
theorem Qrc {n : Bool} {a : List Nat} (ha : Qg a) (hla : a.length < 2 ^ 42) : Qf Tryz.prog 118 [PV.zi n a] (· = .bool (Qfj n a)) := by
 refine Qh Qn Tryz.func118 rfl Q75 (by simp [Q31]) fun C hP => ?_; simp only [Q31]
 simp +decide (disch := first | omega | rfl | (simp +decide only [go_sem, ↓reduceIte] <;> rfl) | fail) only [go_sem, ↓reduceIte]
 refine Qa hP (Qk9 ha (by omega)) rfl rfl rfl ?_
 simp +decide (disch := first | omega | rfl | (simp +decide only [go_sem, ↓reduceIte] <;> rfl) | fail) only [go_sem, ↓reduceIte]
 refine Qee (fun hv => ?_) (fun hv => ?_)
 ·simp +decide (disch := first | omega | rfl | (simp +decide only [go_sem, ↓reduceIte] <;> rfl) | fail) only [go_sem, ↓reduceIte]
  refine Qee (fun hn => ?_) (fun hn => ?_)
  ·simp +decide (disch := first | omega | rfl | (simp +decide only [go_sem, ↓reduceIte] <;> rfl) | fail) only [go_sem, ↓reduceIte]
   exact Qc (congrArg PV.bool (by unfold Qfj; subst hn; cases a <;> simp_all <;> omega)) rfl
  ·simp +decide (disch := first | omega | rfl | (simp +decide only [go_sem, ↓reduceIte] <;> rfl) | fail) only [go_sem, ↓reduceIte]
   exact Qc (congrArg PV.bool (by unfold Qfj; subst hn; cases a <;> simp_all)) rfl
 ·simp +decide (disch := first | omega | rfl | (simp +decide only [go_sem, ↓reduceIte] <;> rfl) | fail) only [go_sem, ↓reduceIte]
  exact Qc (congrArg PV.bool (by unfold Qfj; cases a <;> simp_all)) rfl
theorem Quh {n m : Bool} {a b : List Nat} (ha : Qg a) (hb : Qg b) (hla : a.length < 2 ^ 41) (hlb : b.length < 2 ^ 41) : Qf Tryz.prog 201 [PV.zi n a, PV.zi m b] (· = .int .i64 (Qeg (zv n a) (zv m b))) := by
 have hx : nl (zv n a).natAbs < 2 ^ 41 := by rw [Qbf]; have := Qah ha; omega
 have hy : nl (zv m b).natAbs < 2 ^ 41 := by rw [Qbf]; have := Qah hb; omega
 refine Qh Qn Tryz.func201 rfl Q8a (by simp [Q36]) fun C hP => ?_; simp only [Q36]
 simp +decide (disch := first | omega | rfl | (simp +decide only [go_sem, ↓reduceIte] <;> rfl) | fail) only [go_sem, ↓reduceIte]
 refine Qa hP (Qgc ha (by omega)) rfl rfl rfl ?_
 simp +decide (disch := first | omega | rfl | (simp +decide only [go_sem, ↓reduceIte] <;> rfl) | fail) only [go_sem, ↓reduceIte]
 refine Qa hP (Qgc hb (by omega)) rfl rfl rfl ?_
 generalize zv n a = x at *
 generalize zv m b = y at *
 have lx : (dig x.natAbs).length < 2 ^ 41 := hx
 have ly : (dig y.natAbs).length < 2 ^ 41 := hy
 by_cases hx0 : x < 0 <;> by_cases hy0 : y < 0
 ·simp +decide (disch := first | omega | rfl | (simp +decide only [go_sem, ↓reduceIte, hx0, hy0] <;> rfl) | fail) only [go_sem, ↓reduceIte, hx0, hy0]
  refine Qa hP (Qgu (Qj y.natAbs) (Qj x.natAbs) (by omega) (by omega)) rfl rfl rfl ?_
  simp +decide (disch := first | omega | rfl | (simp +decide only [go_sem, ↓reduceIte] <;> rfl) | fail) only [go_sem, ↓reduceIte]
  exact Qc (congrArg (PV.int .i64) (by rw [Qq, Qq]; unfold Qc5 Qeg; split <;> split <;> (try split) <;> (try split) <;> omega)) rfl
 ·simp +decide (disch := first | omega | rfl | (simp +decide only [go_sem, ↓reduceIte, hx0, hy0] <;> rfl) | fail) only [go_sem, ↓reduceIte, hx0, hy0]
  exact Qc (congrArg (PV.int .i64) (by unfold Qeg; rw [if_pos (by omega)])) rfl
 ·simp +decide (disch := first | omega | rfl | (simp +decide only [go_sem, ↓reduceIte, hx0, hy0] <;> rfl) | fail) only [go_sem, ↓reduceIte, hx0, hy0]
  exact Qc (congrArg (PV.int .i64) (by unfold Qeg; rw [if_neg (by omega), if_pos (by omega)])) rfl
 ·simp +decide (disch := first | omega | rfl | (simp +decide only [go_sem, ↓reduceIte, hx0, hy0] <;> rfl) | fail) only [go_sem, ↓reduceIte, hx0, hy0]
  refine Qa hP (Qgu (Qj x.natAbs) (Qj y.natAbs) (by omega) (by omega)) rfl rfl rfl ?_
  simp +decide (disch := first | omega | rfl | (simp +decide only [go_sem, ↓reduceIte] <;> rfl) | fail) only [go_sem, ↓reduceIte]
  exact Qc (congrArg (PV.int .i64) (by rw [Qq, Qq]; unfold Qc5 Qeg; split <;> split <;> (try split) <;> (try split) <;> omega)) rfl
end Go.Proofs.YtmnkngmmfnncoaaGreat
namespace Go.Proofs.YtmnkngmmfnncoaaGreat
open Go Go.FW
set_option linter.unusedSimpArgs false
set_option linter.unusedVariables false
set_option maxRecDepth 100000
theorem Qlz {a : List Nat} {g : Nat} (ha : Qg a) (hx : a.length < 2 ^ 36) (hy : nl g < 2 ^ 36) (h0 : g ≠ 0) : Qf Tryz.prog 168 [PV.nat a, PV.num g] (· = .tup [PV.num (val a / g), PV.num (val a % g), .int .i64 0]) := by
 have := Qj3 ha (Qj g) hx hy
 rwa [Qq, if_neg h0] at this
theorem Qaa5 (n : Bool) (a : List Nat) (D : Nat) : zv n (dig (val a / Nat.gcd (val a) D)) = zv n a / (Nat.gcd (zv n a).natAbs D : Int) := by
 rw [Qbf, Qjw]
 unfold zv
 cases n
 ·simp
 ·have hd : ((Nat.gcd (val a) D : Nat) : Int) ∣ (val a : Int) := Int.natCast_dvd_natCast.2 (Nat.gcd_dvd_left _ _)
  simp only [if_true]
  rw [Int.neg_ediv_of_dvd hd, Int.natCast_ediv]
theorem Ql0 {n : Bool} {a d : List Nat} (ha : Qg a) (hd : Qg d) (hla : a.length < 2 ^ 36) (hld : d.length < 2 ^ 36) : Qf Tryz.prog 104 [PV.zi n a, PV.nat d] (· = PV.rat (rv n a d)) := by
 have hna := Qah ha
 have hnd := Qah hd
 refine Qh Qn Tryz.func104 rfl Q8d (by simp [Q39]) fun C hP => ?_; simp only [Q39]
 simp +decide (disch := first | omega | rfl | (simp +decide only [go_sem, ↓reduceIte] <;> rfl) | fail) only [go_sem, ↓reduceIte]
 refine Qa hP (Qbi hd (by omega)) rfl rfl rfl ?_
 simp +decide (disch := first | omega | rfl | (simp +decide only [go_sem, ↓reduceIte] <;> rfl) | fail) only [go_sem, ↓reduceIte]
 refine Qb (fun hz => ?_) (fun hz => ?_)
 ·have h0 : val d = 0 := Qa9.1 (Qch (n := val d) (by omega))
  simp +decide (disch := first | omega | rfl | (simp +decide only [go_sem, ↓reduceIte] <;> rfl) | fail) only [go_sem, ↓reduceIte]
  refine Qa hP (Qcj (n := 1) (by omega)) rfl rfl rfl ?_
  simp +decide (disch := first | omega | rfl | (simp +decide only [go_sem, ↓reduceIte] <;> rfl) | fail) only [go_sem, ↓reduceIte]
  refine Qaz ?_
  simp +decide (disch := first | omega | rfl | (simp +decide only [go_sem, ↓reduceIte] <;> rfl) | fail) only [go_sem, ↓reduceIte]
  exact (by unfold rv; rw [Qm1 (.inl h0), Qfa]; exact Qgj Qu4 rfl)
 ·have h0 : val d ≠ 0 := fun h => by rw [h, Qau] at hz; exact hz rfl
  have hg0 : Nat.gcd (val a) (val d) ≠ 0 := fun h => h0 (Nat.gcd_eq_zero_iff.1 h).2
  have hg := Qbw (Nat.gcd_le_right (val a) (Nat.pos_of_ne_zero h0))
  have hq := Qyv (val a) (Nat.gcd (val a) (val d))
  simp +decide (disch := first | omega | rfl | (simp +decide only [go_sem, ↓reduceIte] <;> rfl) | fail) only [go_sem, ↓reduceIte]
  refine Qa hP (Qm9 ha hd hla hld) rfl rfl rfl ?_
  simp +decide (disch := first | omega | rfl | (simp +decide only [go_sem, ↓reduceIte] <;> rfl) | fail) only [go_sem, ↓reduceIte]
  refine Qa hP (Qlz ha hla (by omega) hg0) rfl rfl rfl ?_
  simp +decide (disch := first | omega | rfl | (simp +decide only [go_sem, ↓reduceIte] <;> rfl) | fail) only [go_sem, ↓reduceIte]
  refine Qa hP (Qlz hd hld (by omega) hg0) rfl rfl rfl ?_
  simp +decide (disch := first | omega | rfl | (simp +decide only [go_sem, ↓reduceIte] <;> rfl) | fail) only [go_sem, ↓reduceIte]
  refine Qa hP (Qgc (n := n) (Qj (val a / Nat.gcd (val a) (val d))) (show nl _ < _ by omega)) rfl rfl rfl ?_
  rw [Qaa5]
  have hm := Qiw (z := zv n a) h0
  simp +decide (disch := first | omega | rfl | (simp +decide only [go_sem, ↓reduceIte] <;> rfl) | fail) only [go_sem, ↓reduceIte]
  refine Qaz ?_
  simp +decide (disch := first | omega | rfl | (simp +decide only [go_sem, ↓reduceIte] <;> rfl) | fail) only [go_sem, ↓reduceIte]
  exact Qc (by unfold rv; rw [PV.rat, hm.1, hm.2, Qbf]) rfl
theorem Ql1 {n : Bool} {a d : List Nat} {k : Nat} (hp : Raw k n a d) (hk : k < 2 ^ 36) : Qf Tryz.prog 157 [PV.rr n a d] (· = PV.rat (rv n a d)) := by
 obtain ⟨ha, hd, sa, sd, k1⟩ := hp
 refine Qh Qn Tryz.func157 rfl Q8e (by simp [Q4a]) fun C hP => ?_; simp only [Q4a]
 simp +decide (disch := first | omega | rfl | (simp +decide only [go_sem, ↓reduceIte] <;> rfl) | fail) only [go_sem, ↓reduceIte]
 refine Qa hP (Ql0 (n := n) ha hd (by omega) (by omega)) rfl rfl rfl ?_
 simp +decide (disch := first | omega | rfl | (simp +decide only [go_sem, ↓reduceIte] <;> rfl) | fail) only [go_sem, ↓reduceIte]
 refine Qaz ?_
 simp +decide (disch := first | omega | rfl | (simp +decide only [go_sem, ↓reduceIte] <;> rfl) | fail) only [go_sem, ↓reduceIte]
 exact Qc rfl rfl
theorem Qhn {z : Int} {D : Nat} (hz : nl z.natAbs < 2 ^ 36) (hD : nl D < 2 ^ 36) : Qf Tryz.prog 104 [PV.zz z, PV.num D] (· = PV.rat (mkRat z D)) := by
 have := Ql0 (n := decide (z < 0)) (Qj z.natAbs) (Qj D) hz hD
 rwa [rv, Qfc, Qq] at this
theorem Qow {x : Int} (h1 : -9223372036854775808 <= x) (h2 : x <= 9223372036854775807) : Qf Tryz.prog 34 [.int .i64 x] (· = PV.rat (x : Rat)) := by
 have hl1 : nl x.natAbs <= 4 := Qdi (by omega)
 refine Qh Qn Tryz.func34 rfl Qaa1 (by simp [c34]) fun C hP => ?_; simp only [c34]
 simp +decide (disch := first | omega | rfl | (simp +decide only [go_sem, ↓reduceIte] <;> rfl) | fail) only [go_sem, ↓reduceIte]
 refine Qa hP (Qk3 h1 h2) rfl rfl rfl ?_
 simp +decide (disch := first | omega | rfl | (simp +decide only [go_sem, ↓reduceIte] <;> rfl) | fail) only [go_sem, ↓reduceIte]
 refine Qa hP (Qcj (n := 1) (by omega)) rfl rfl rfl ?_
 simp +decide (disch := first | omega | rfl | (simp +decide only [go_sem, ↓reduceIte] <;> rfl) | fail) only [go_sem, ↓reduceIte]
 refine Qa hP (Qhn (z := x) (D := 1) (by omega) (by rw [Qjy]; omega)) rfl rfl rfl ?_
 simp +decide (disch := first | omega | rfl | (simp +decide only [go_sem, ↓reduceIte] <;> rfl) | fail) only [go_sem, ↓reduceIte]
 refine Qaz ?_
 simp +decide (disch := first | omega | rfl | (simp +decide only [go_sem, ↓reduceIte] <;> rfl) | fail) only [go_sem, ↓reduceIte]
 exact Qc (congrArg PV.rat (Rat.mkRat_one x)) rfl
theorem Qlb (d : List Nat) : Qf Tryz.prog 161 [PV.nat d] (· = PV.zi false d) := by
 refine Qh Qn Tryz.func161 rfl Q8g (by simp [Q4c]) fun C hP => ?_; simp only [Q4c]
 simp +decide (disch := first | omega | rfl | (simp +decide only [go_sem, ↓reduceIte] <;> rfl) | fail) only [go_sem, ↓reduceIte]
 refine Qaz ?_
 simp +decide (disch := first | omega | rfl | (simp +decide only [go_sem, ↓reduceIte] <;> rfl) | fail) only [go_sem, ↓reduceIte]
 exact Qc rfl rfl
theorem Qws {x : Int} (hx : nl x.natAbs < 2 ^ 42) : Qf Tryz.prog 156 [PV.zz x] (· = .int .i64 (sgn x)) := by
 have := Qth (n := decide (x < 0)) (Qj x.natAbs) hx
 rwa [Qfc] at this
theorem Qtj {n m : Bool} {a d b c : List Nat} {k : Nat} (hp : Raw k n a d) (hq : Raw k m b c) (hk : k < 2 ^ 36) : Qf Tryz.prog 20 [PV.rr n a d, PV.rr m b c] (· = .bool (decide ((n = m /\ a = b) /\ d = c))) := by
 obtain ⟨ha, hd, sa, sd, k1⟩ := hp
 obtain ⟨hb, hc, sb, sc, k2⟩ := hq
 refine Qh Qn Tryz.func20 rfl Qaa4 (by simp [c20]) fun C hP => ?_; simp only [c20]
 simp +decide (disch := first | omega | rfl | (simp +decide only [go_sem, ↓reduceIte] <;> rfl) | fail) only [go_sem, ↓reduceIte]
 refine Qa hP (Qti (n := n) (m := m) (a := a) (b := b) (by omega) (by omega)) rfl rfl rfl ?_
 simp +decide (disch := first | omega | rfl | (simp +decide only [go_sem, ↓reduceIte] <;> rfl) | fail) only [go_sem, ↓reduceIte]
 refine Qbp (fun hn => ?_) (fun hn => ?_)
 ·simp +decide (disch := first | omega | rfl | (simp +decide only [go_sem, ↓reduceIte] <;> rfl) | fail) only [go_sem, ↓reduceIte]
  refine Qa hP (Qif (by omega) (by omega)) rfl rfl rfl ?_
  simp +decide (disch := first | omega | rfl | (simp +decide only [go_sem, ↓reduceIte] <;> rfl) | fail) only [go_sem, ↓reduceIte]
  exact Qc (congrArg PV.bool (by rw [decide_eq_decide]; simp [hn])) rfl
 ·simp +decide (disch := first | omega | rfl | (simp +decide only [go_sem, ↓reduceIte] <;> rfl) | fail) only [go_sem, ↓reduceIte]
  exact Qc (congrArg PV.bool (by symm; rw [decide_eq_false_iff_not]; exact fun h => hn h.1)) rfl
end Go.Proofs.YtmnkngmmfnncoaaGreat
namespace Go.Proofs.YtmnkngmmfnncoaaGreat
open Go Go.FW
set_option linter.unusedSimpArgs false
set_option linter.unusedVariables false
set_option maxRecDepth 100000
theorem Qqx {x : Int} {d : Nat} (hx : nl x.natAbs < 2 ^ 40) (hy : nl d < 2 ^ 40) : Qf Tryz.prog 159 [PV.zz x, PV.zi false (dig d)] (· = PV.zz (x * (d : Int))) := by
 have := Qna (n := decide (x < 0)) (m := false) (Qj x.natAbs) (Qj d) hx hy
 rwa [Qfc, Qe2, Qq] at this
theorem Qzt {x y : Int} (hx : nl x.natAbs < 2 ^ 41) (hy : nl y.natAbs < 2 ^ 41) : Qf Tryz.prog 201 [PV.zz x, PV.zz y] (· = .int .i64 (Qeg x y)) := by
 have := Quh (n := decide (x < 0)) (m := decide (y < 0)) (Qj x.natAbs) (Qj y.natAbs) hx hy
 rwa [Qfc, Qfc] at this
theorem r3_Mul_spec {n m : Bool} {a d b c : List Nat} {k : Nat} (hp : Raw k n a d) (hq : Raw k m b c) (hk : k < 2 ^ 34) : Qf Tryz.prog 83 [PV.rr n a d, PV.rr m b c] (· = PV.rat (rv n a d * rv m b c)) := by
 obtain ⟨ha, hd, sa, sd, k1⟩ := hp
 obtain ⟨hb, hc, sb, sc, k2⟩ := hq
 have h1 := Qav (zv n a) (zv m b)
 have h2 := Qfg (val d) (val c)
 rw [Qbf, Qbf] at h1
 have e1 := Qah ha
 have e2 := Qah hd
 have e3 := Qah hb
 have e4 := Qah hc
 refine Qh Qn Tryz.func83 rfl Qaa3 (by simp [c83]) fun C hP => ?_; simp only [c83]
 simp +decide (disch := first | omega | rfl | (simp +decide only [go_sem, ↓reduceIte] <;> rfl) | fail) only [go_sem, ↓reduceIte]
 refine Qa hP (Qna (n := n) (m := m) ha hb (by omega) (by omega)) rfl rfl rfl ?_
 simp +decide (disch := first | omega | rfl | (simp +decide only [go_sem, ↓reduceIte] <;> rfl) | fail) only [go_sem, ↓reduceIte]
 refine Qa hP (Qjf hd hc (by omega) (by omega)) rfl rfl rfl ?_
 simp +decide (disch := first | omega | rfl | (simp +decide only [go_sem, ↓reduceIte] <;> rfl) | fail) only [go_sem, ↓reduceIte]
 refine Qa hP (Qhn (z := zv n a * zv m b) (D := val d * val c) (by omega) (by omega)) rfl rfl rfl ?_
 simp +decide (disch := first | omega | rfl | (simp +decide only [go_sem, ↓reduceIte] <;> rfl) | fail) only [go_sem, ↓reduceIte]
 refine Qaz ?_
 simp +decide (disch := first | omega | rfl | (simp +decide only [go_sem, ↓reduceIte] <;> rfl) | fail) only [go_sem, ↓reduceIte]
 exact Qc (congrArg PV.rat (Rat.mkRat_mul_mkRat _ _ _ _).symm) rfl
theorem Qui {n m : Bool} {a d b c : List Nat} {k : Nat} (hp : Raw k n a d) (hq : Raw k m b c) (hk : k < 2 ^ 34) : Qf Tryz.prog 148 [PV.rr n a d, PV.rr m b c] (· = .int .i64 (Qi9 (rv n a d) (rv m b c))) := by
 have hx := hp.rs
 have hy := hq.rs
 unfold FW.rs at hx hy
 refine Qh Qn Tryz.func148 rfl Q8h (by simp [Q4d]) fun C hP => ?_; simp only [Q4d]
 simp +decide (disch := first | omega | rfl | (simp +decide only [go_sem, ↓reduceIte] <;> rfl) | fail) only [go_sem, ↓reduceIte]
 refine Qa hP (Ql1 hp (by omega)) rfl rfl rfl ?_
 simp +decide (disch := first | omega | rfl | (simp +decide only [go_sem, ↓reduceIte] <;> rfl) | fail) only [go_sem, ↓reduceIte]
 refine Qa hP (Ql1 hq (by omega)) rfl rfl rfl ?_
 generalize rv n a d = p at *
 generalize rv m b c = q at *
 have h1 := Qav p.num (q.den : Int)
 have h2 := Qav q.num (p.den : Int)
 rw [Int.natAbs_natCast] at h1 h2
 simp +decide (disch := first | omega | rfl | (simp +decide only [go_sem, ↓reduceIte] <;> rfl) | fail) only [go_sem, ↓reduceIte]
 refine Qa hP (Qlb (dig q.den)) rfl rfl rfl ?_
 simp +decide (disch := first | omega | rfl | (simp +decide only [go_sem, ↓reduceIte] <;> rfl) | fail) only [go_sem, ↓reduceIte]
 refine Qa hP (Qqx (x := p.num) (d := q.den) (by omega) (by omega)) rfl rfl rfl ?_
 simp +decide (disch := first | omega | rfl | (simp +decide only [go_sem, ↓reduceIte] <;> rfl) | fail) only [go_sem, ↓reduceIte]
 refine Qa hP (Qlb (dig p.den)) rfl rfl rfl ?_
 simp +decide (disch := first | omega | rfl | (simp +decide only [go_sem, ↓reduceIte] <;> rfl) | fail) only [go_sem, ↓reduceIte]
 refine Qa hP (Qqx (x := q.num) (d := p.den) (by omega) (by omega)) rfl rfl rfl ?_
 simp +decide (disch := first | omega | rfl | (simp +decide only [go_sem, ↓reduceIte] <;> rfl) | fail) only [go_sem, ↓reduceIte]
 refine Qa hP (Qzt (x := p.num * (q.den : Int)) (y := q.num * (p.den : Int)) (by omega) (by omega)) rfl rfl rfl ?_
 simp +decide (disch := first | omega | rfl | (simp +decide only [go_sem, ↓reduceIte] <;> rfl) | fail) only [go_sem, ↓reduceIte]
 exact Qc (congrArg (PV.int .i64) (by rw [<- Qu5 p.den_nz q.den_nz, Rat.mkRat_self, Rat.mkRat_self])) rfl
theorem Qlc {n m : Bool} {a d b c : List Nat} {k : Nat} (hp : Raw k n a d) (hq : Raw k m b c) (hk : k < 2 ^ 34) : Qf Tryz.prog 72 [PV.rr n a d, PV.rr m b c] (· = .bool (decide (rv n a d = rv m b c))) := by
 refine Qh Qn Tryz.func72 rfl Qaa2 (by simp [c72]) fun C hP => ?_; simp only [c72]
 simp +decide (disch := first | omega | rfl | (simp +decide only [go_sem, ↓reduceIte] <;> rfl) | fail) only [go_sem, ↓reduceIte]
 refine Qa hP (Qui hp hq hk) rfl rfl rfl ?_
 simp +decide (disch := first | omega | rfl | (simp +decide only [go_sem, ↓reduceIte] <;> rfl) | fail) only [go_sem, ↓reduceIte]
 exact Qc (congrArg PV.bool (decide_eq_decide.2 Qqi)) rfl
end Go.Proofs.YtmnkngmmfnncoaaGreat
namespace Go.Proofs.YtmnkngmmfnncoaaGreat
open Go Go.FW
set_option linter.unusedSimpArgs false
set_option linter.unusedVariables false
set_option maxRecDepth 100000
theorem Qrd {n : Bool} {a d : List Nat} {k : Nat} (hp : Raw k n a d) (hk : k < 2 ^ 36) : Qf Tryz.prog 45 [PV.rr n a d] (· = .bool (Qhk n a d)) := by
 obtain ⟨ha, hd, sa, sd, k1⟩ := hp
 have hgl : (dig (Nat.gcd (val a) (val d))).length < 2 ^ 43 := by
  by_cases h0 : val d = 0
  ·rw [h0, Nat.gcd_zero_right]
   have h4 := Qah ha
   unfold nl at h4; omega
  ·have h3 := Qbw (Nat.gcd_le_right (val a) (Nat.pos_of_ne_zero h0))
   have h4 := Qah hd
   unfold nl at h3 h4; omega
 refine Qh Qn Tryz.func45 rfl Qaa0 (by simp [c45]) fun C hP => ?_; simp only [c45]
 simp +decide (disch := first | omega | rfl | (simp +decide only [go_sem, ↓reduceIte] <;> rfl) | fail) only [go_sem, ↓reduceIte]
 refine Qa hP (Qrc ha (by omega)) rfl rfl rfl ?_
 unfold Qhk
 simp +decide (disch := first | omega | rfl | (simp +decide only [go_sem, ↓reduceIte] <;> rfl) | fail) only [go_sem, ↓reduceIte]
 cases hio : Qfj n a
 ·simp +decide (disch := first | omega | rfl | (simp +decide only [go_sem, ↓reduceIte] <;> rfl) | fail) only [go_sem, ↓reduceIte]
  exact Qc (by simp) rfl
 rw [Bool.true_and]
 simp +decide (disch := first | omega | rfl | (simp +decide only [go_sem, ↓reduceIte] <;> rfl) | fail) only [go_sem, ↓reduceIte]
 refine Qa hP (Qk9 hd (by omega)) rfl rfl rfl ?_
 simp +decide (disch := first | omega | rfl | (simp +decide only [go_sem, ↓reduceIte] <;> rfl) | fail) only [go_sem, ↓reduceIte]
 refine Qee (fun hv => ?_) (fun hv => ?_)
 ·simp +decide (disch := first | omega | rfl | (simp +decide only [go_sem, ↓reduceIte] <;> rfl) | fail) only [go_sem, ↓reduceIte]
  refine Qa hP (Qm9 ha hd (by omega) (by omega)) rfl rfl rfl ?_
  simp +decide (disch := first | omega | rfl | (simp +decide only [go_sem, ↓reduceIte] <;> rfl) | fail) only [go_sem, ↓reduceIte]
  refine Qa hP (Qcj (n := 1) (by omega)) rfl rfl rfl ?_
  simp +decide (disch := first | omega | rfl | (simp +decide only [go_sem, ↓reduceIte] <;> rfl) | fail) only [go_sem, ↓reduceIte]
  refine Qa hP (Qif hgl (by rw [Qfa]; decide)) rfl rfl rfl ?_
  rw [Qfa, decide_eq_decide.2 (Qm6 (Nat.gcd (val a) (val d)))]
  simp +decide (disch := first | omega | rfl | (simp +decide only [go_sem, ↓reduceIte] <;> rfl) | fail) only [go_sem, ↓reduceIte]
  refine Qbp (fun hg => ?_) (fun hg => ?_)
  ·simp +decide (disch := first | omega | rfl | (simp +decide only [go_sem, ↓reduceIte] <;> rfl) | fail) only [go_sem, ↓reduceIte]
   exact Qc (congrArg PV.bool (by cases d <;> simp_all)) rfl
  ·simp +decide (disch := first | omega | rfl | (simp +decide only [go_sem, ↓reduceIte] <;> rfl) | fail) only [go_sem, ↓reduceIte]
   exact Qc (congrArg PV.bool (by simp [hg])) rfl
 ·simp +decide (disch := first | omega | rfl | (simp +decide only [go_sem, ↓reduceIte] <;> rfl) | fail) only [go_sem, ↓reduceIte]
  exact Qc (congrArg PV.bool (by simp_all)) rfl
end Go.Proofs.YtmnkngmmfnncoaaGreat
namespace Go.Proofs.YtmnkngmmfnncoaaGreat
open Go Go.FW
set_option linter.unusedSimpArgs false
set_option linter.unusedVariables false
set_option maxRecDepth 100000
end Go.Proofs.YtmnkngmmfnncoaaGreat
namespace Go.Proofs.YtmnkngmmfnncoaaGreat
open Go Go.FW
set_option linter.unusedSimpArgs false
set_option linter.unusedVariables false
set_option maxRecDepth 100000
end Go.Proofs.YtmnkngmmfnncoaaGreat
namespace Go.Proofs.YtmnkngmmfnncoaaGreat
open Go Go.FW
set_option linter.unusedSimpArgs false
set_option linter.unusedVariables false
set_option maxRecDepth 100000
end Go.Proofs.YtmnkngmmfnncoaaGreat
namespace Go.Proofs.YtmnkngmmfnncoaaGreat
open Go Go.FW
set_option linter.unusedSimpArgs false
set_option linter.unusedVariables false
set_option maxRecDepth 100000
end Go.Proofs.YtmnkngmmfnncoaaGreat
namespace Go.Proofs.YtmnkngmmfnncoaaGreat
open Go Go.FW
set_option linter.unusedSimpArgs false
set_option linter.unusedVariables false
set_option maxRecDepth 100000
end Go.Proofs.YtmnkngmmfnncoaaGreat
namespace Go.Proofs.YtmnkngmmfnncoaaGreat
open Go Go.FW
set_option linter.unusedSimpArgs false
set_option linter.unusedVariables false
set_option maxRecDepth 100000
end Go.Proofs.YtmnkngmmfnncoaaGreat
namespace Go.Proofs.YtmnkngmmfnncoaaGreat
open Go Go.FW
set_option linter.unusedSimpArgs false
set_option linter.unusedVariables false
set_option maxRecDepth 100000
end Go.Proofs.YtmnkngmmfnncoaaGreat
namespace Go.Proofs.YtmnkngmmfnncoaaGreat
open Go Go.FW
set_option linter.unusedSimpArgs false
set_option linter.unusedVariables false
set_option maxRecDepth 100000
end Go.Proofs.YtmnkngmmfnncoaaGreat
namespace Go.Proofs.YtmnkngmmfnncoaaGreat
open Go Go.FW
set_option maxRecDepth 100000
end Go.Proofs.YtmnkngmmfnncoaaGreat
namespace Go.Proofs.YtmnkngmmfnncoaaGreat
open Go Go.FW
set_option linter.unusedSimpArgs false
set_option linter.unusedVariables false
set_option maxRecDepth 100000
theorem Qwt {a b : Rat} {k : Nat} (ha : rs a <= k) (hb : rs b <= k) (hk : k < 2 ^ 34) : Qf Tryz.prog 72 [PV.rat a, PV.rat b] (· = .bool (decide (a = b))) := by
 have := Qlc (Qdj ha) (Qdj hb) hk
 rwa [Qeh, Qeh] at this
end Go.Proofs.YtmnkngmmfnncoaaGreat
namespace Go.Proofs.YtmnkngmmfnncoaaGreat
open Go Go.FW
set_option linter.unusedSimpArgs false
set_option linter.unusedVariables false
set_option maxRecDepth 100000
end Go.Proofs.YtmnkngmmfnncoaaGreat
namespace Go.Proofs.YtmnkngmmfnncoaaGreat
open Go Go.FW
set_option linter.unusedSimpArgs false
set_option linter.unusedVariables false
set_option maxRecDepth 100000
end Go.Proofs.YtmnkngmmfnncoaaGreat
namespace Go.Proofs.YtmnkngmmfnncoaaGreat
open Go Go.FW
set_option linter.unusedSimpArgs false
set_option linter.unusedVariables false
set_option maxRecDepth 100000
end Go.Proofs.YtmnkngmmfnncoaaGreat
namespace Go.Proofs.YtmnkngmmfnncoaaGreat
open Go Go.FW
set_option linter.unusedSimpArgs false
set_option linter.unusedVariables false
set_option maxRecDepth 100000
end Go.Proofs.YtmnkngmmfnncoaaGreat
namespace Go.Proofs.YtmnkngmmfnncoaaGreat
open Go Go.FW
set_option linter.unusedSimpArgs false
set_option linter.unusedVariables false
set_option maxRecDepth 100000
end Go.Proofs.YtmnkngmmfnncoaaGreat
namespace Go.FW
open Go
theorem Qox (x y : Int) (hy : y ≠ 0) : mkRat (zv (decide (x < 0) != decide (y < 0)) (dig x.natAbs)) y.natAbs = (x : Rat) / (y : Rat) := by
 rw [Rat.mkRat_eq_div, Qjw, <- Rat.intCast_natCast]
 have h3 : (y : Rat) ≠ 0 := by rw [Ne, Rat.intCast_eq_zero_iff]; exact hy
 by_cases hy0 : y < 0
 ·have e2 : (((y.natAbs : Nat) : Int) : Rat) = - (y : Rat) := by rw [<- Rat.intCast_neg]; congr 1; omega
  have e1 : (if (decide (x < 0) != decide (y < 0)) = true then -(x.natAbs : Int) else x.natAbs) = -x := by
   by_cases hx : x < 0 <;> simp [hx, hy0] <;> omega
  rw [e1, e2, Rat.intCast_neg]
  grind
 ·have e2 : (((y.natAbs : Nat) : Int) : Rat) = (y : Rat) := by congr 1; omega
  have e1 : (if (decide (x < 0) != decide (y < 0)) = true then -(x.natAbs : Int) else x.natAbs) = x := by
   by_cases hx : x < 0 <;> simp [hx, hy0] <;> omega
  rw [e1, e2]
theorem Qaa6 {n m : Bool} {a d b c : List Nat} (hd : val d ≠ 0) (hc : val c ≠ 0) (hb : zv m b ≠ 0) : ((zv n a * (val c : Int) : Int) : Rat) / ((zv m b * (val d : Int) : Int) : Rat) = rv n a d / rv m b c := by
 have h1 : ((val d : Int) : Rat) ≠ 0 := by rw [Ne, Rat.intCast_eq_zero_iff]; omega
 have h2 : ((val c : Int) : Rat) ≠ 0 := by rw [Ne, Rat.intCast_eq_zero_iff]; omega
 have h3 : ((zv m b : Int) : Rat) ≠ 0 := by rw [Ne, Rat.intCast_eq_zero_iff]; exact hb
 unfold rv
 rw [Rat.mkRat_eq_div, Rat.mkRat_eq_div, Rat.intCast_mul, Rat.intCast_mul]
 rw [<- Rat.intCast_natCast, <- Rat.intCast_natCast]
 grind
end Go.FW
