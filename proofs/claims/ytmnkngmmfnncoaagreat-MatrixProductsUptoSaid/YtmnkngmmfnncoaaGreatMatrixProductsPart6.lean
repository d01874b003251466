/- Part 6 of the proof of MatrixProducts: L1, CM, CP, R3, R4, M1, M2, P1, P2, P3, P8, CS2, CS3, CU, W1, W2, W3, CS, S1, S2, S3, S4, S5, S6, S7, S8, S9, T1, T1b, T1c, T1d, U1, U2, P4, U3, CL, U4, U7, U8, U10, W4, W5, FwUD. Own lemmas; no conditions. -/
import Derived.Test.YtmnkngmmfnncoaaGreatMatrixProductsPart5
set_option linter.unusedSimpArgs false
set_option linter.unnecessarySimpa false
set_option linter.unusedVariables false
namespace Go.Proofs.YtmnkngmmfnncoaaGreat
open Go Go.FW Go.ChangeShapes Go.WideShapes Go.ChangeAt Go.RowKit
set_option linter.unusedSimpArgs false
set_option linter.unusedVariables false
set_option maxRecDepth 100000
variable {H : Type} {enc : TypeId × Value -> H}
def I64 (x : Int) : Prop := -9223372036854775808 <= x /\ x <= 9223372036854775807
theorem Q0r : Rd enc 24 fun ps => ∃ (r c : Int) (l : List RQ), ps = (PV.rmat r c l).cells /\ I64 r /\ I64 c /\ Qao l := by
 refine (Quf (Qs := [fun ps => ∃ n : Int, ps = [.int .i64 n] /\ -9223372036854775808 <= n /\ n <= 9223372036854775807, fun ps => ∃ n : Int, ps = [.int .i64 n] /\ -9223372036854775808 <= n /\ n <= 9223372036854775807, fun ps => ∃ l : List RQ, ps = [PV.rqs l] /\ Qao l]) Qbt Tryz.underlying24 (by kernel_rfl) ⟨rfl, Qrm Tryz.underlying3, by kernel_rfl, Qrm Tryz.underlying3, by kernel_rfl, Q82, trivial⟩).mono ?_
 rintro ps ⟨p, q, rfl, ⟨r, rfl, h1⟩, p2, q2, rfl, ⟨c, rfl, h2⟩, p3, q3, rfl, ⟨l, rfl, h3⟩, rfl⟩
 exact ⟨r, c, l, rfl, h1, h2, h3⟩
variable {w : World} {base : Nat} {spare : Nat -> Bool} {held : Bool} {r : Reach} {b0 : Nat} {v : Value} {d : DataW H} {ps : List MemPlace}
theorem Qpy (Qda : Value.okWide Tryz.prog w r b0 24 v) (hd : DataW.Trod enc Tryz.prog w base spare held 24 v d ps) (hn : Rows.uptoBulk d <= 1048576) : ∃ r c l, Qae w Qbb (PV.rmat r c l) v /\ I64 r /\ I64 c /\ Qao l := by
 obtain ⟨p, ⟨r, c, l, rfl, h1, h2, h3⟩, h4⟩ := Qxe Tryz.underlying24 Qda Q0r hd hn
 exact ⟨r, c, l, h4, h1, h2, h3⟩
end Go.Proofs.YtmnkngmmfnncoaaGreat
namespace Go.Proofs.YtmnkngmmfnncoaaGreat
open Go Go.FW
set_option maxRecDepth 100000
end Go.Proofs.YtmnkngmmfnncoaaGreat
namespace Go.Proofs.YtmnkngmmfnncoaaGreat
open Go Go.FW
set_option maxRecDepth 100000
end Go.Proofs.YtmnkngmmfnncoaaGreat
namespace Go.Proofs.YtmnkngmmfnncoaaGreat
open Go Go.FW
set_option linter.unusedSimpArgs false
set_option linter.unusedVariables false
set_option maxRecDepth 100000
theorem Q0s {n m : Bool} {a d b c : List Nat} {k : Nat} (hp : Raw k n a d) (hq : Raw k m b c) (hk : k < 2 ^ 36) : Qd Tryz.prog 38 [PV.rr n a d, PV.rr m b c] (· = PV.rat (rv n a d * rv m b c)) := by
 refine Qi Qm Tryz.func38 rfl Qabs (by simp [c38]) fun C hP => ?_; simp only [c38]
 simp +decide (disch := first | omega | rfl | (simp +decide only [go_sem, ↓reduceIte] <;> rfl) | fail) only [go_sem, ↓reduceIte]
 refine Qcd hP (Qc2 hp.la hp.ld hp.k1 hp.sa hp.sd (by omega)) rfl rfl rfl ?_
 rintro _ ⟨n', a', d', rfl, g1, g2, g3, g4, g5, g6⟩
 simp +decide (disch := first | omega | rfl | (simp +decide only [go_sem, ↓reduceIte] <;> rfl) | fail) only [go_sem, ↓reduceIte]
 refine Qcd hP (Qc2 hq.la hq.ld hq.k1 hq.sa hq.sd (by omega)) rfl rfl rfl ?_
 rintro _ ⟨m', b', c', rfl, e1, e2, e3, e4, e5, e6⟩
 simp +decide (disch := first | omega | rfl | (simp +decide only [go_sem, ↓reduceIte] <;> rfl) | fail) only [go_sem, ↓reduceIte]
 have hza : nl (zv n' a').natAbs <= k := by rw [Qa5]; exact Nat.le_trans (Qai g1) g3
 have hzb : nl (zv m' b').natAbs <= k := by rw [Qa5]; exact Nat.le_trans (Qai e1) e3
 have hvd : nl (val d') <= k := Nat.le_trans (Qai g2) g4
 have hvc : nl (val c') <= k := Nat.le_trans (Qai e2) e4
 have h3 := Qat (zv n' a') (zv m' b')
 have h6 := Qe9 (val d') (val c')
 refine Qa hP (Qdi (n := n') (m := m') g1 e1 (by omega) (by omega)) rfl rfl rfl ?_
 simp +decide (disch := first | omega | rfl | (simp +decide only [go_sem, ↓reduceIte] <;> rfl) | fail) only [go_sem, ↓reduceIte]
 refine Qa hP (Qll g2 e2 (by omega) (by omega)) rfl rfl rfl ?_
 simp +decide (disch := first | omega | rfl | (simp +decide only [go_sem, ↓reduceIte] <;> rfl) | fail) only [go_sem, ↓reduceIte]
 refine Qa hP (Qh5 (z := zv n' a' * zv m' b') (Qj _) (by omega) (by show nl _ < _; omega)) rfl rfl rfl ?_
 simp +decide (disch := first | omega | rfl | (simp +decide only [go_sem, ↓reduceIte] <;> rfl) | fail) only [go_sem, ↓reduceIte]
 refine Qaw ?_
 simp +decide (disch := first | omega | rfl | (simp +decide only [go_sem, ↓reduceIte] <;> rfl) | fail) only [go_sem, ↓reduceIte]
 refine Qc ?_ rfl
 rw [Qy, <- g6, <- e6]
 unfold rv
 rw [Rat.mkRat_mul_mkRat]
theorem Qlr {n : Bool} {a d : List Nat} {k : Nat} (hp : Raw k n a d) (hk : k < 2 ^ 36) : Qd Tryz.prog 36 [PV.rr n a d] (· = .int .i64 (Qdw (rv n a d))) := by
 refine Qi Qm Tryz.func36 rfl Qabp (by simp [c36]) fun C hP => ?_; simp only [c36]
 simp +decide (disch := first | omega | rfl | (simp +decide only [go_sem, ↓reduceIte] <;> rfl) | fail) only [go_sem, ↓reduceIte]
 refine Qcd hP (Qc2 hp.la hp.ld hp.k1 hp.sa hp.sd (by omega)) rfl rfl rfl ?_
 rintro _ ⟨n', a', d', rfl, g1, g2, g3, g4, g5, g6⟩
 simp +decide (disch := first | omega | rfl | (simp +decide only [go_sem, ↓reduceIte] <;> rfl) | fail) only [go_sem, ↓reduceIte]
 refine Qa hP (Qg9 g1 (by omega)) rfl rfl rfl ?_
 simp +decide (disch := first | omega | rfl | (simp +decide only [go_sem, ↓reduceIte] <;> rfl) | fail) only [go_sem, ↓reduceIte]
 exact Qc (by rw [<- g6]; unfold rv; rw [Qz2 g5]) rfl
theorem Q0t {n m : Bool} {a d b c : List Nat} {k : Nat} (hp : Raw k n a d) (hq : Raw k m b c) (hk : k < 2 ^ 36) : Qd Tryz.prog 115 [PV.rr n a d, PV.rr m b c] (· = .int .i64 (Qjt (rv n a d) (rv m b c))) := by
 refine Qi Qm Tryz.func115 rfl Q79 (by simp [Q37]) fun C hP => ?_; simp only [Q37]
 simp +decide (disch := first | omega | rfl | (simp +decide only [go_sem, ↓reduceIte] <;> rfl) | fail) only [go_sem, ↓reduceIte]
 refine Qa hP (Qlr hp hk) rfl rfl rfl ?_
 simp +decide (disch := first | omega | rfl | (simp +decide only [go_sem, ↓reduceIte] <;> rfl) | fail) only [go_sem, ↓reduceIte]
 refine Qa hP (Qlr hq hk) rfl rfl rfl ?_
 simp +decide (disch := first | omega | rfl | (simp +decide only [go_sem, ↓reduceIte] <;> rfl) | fail) only [go_sem, ↓reduceIte]
 refine Qb (fun h1 => ?_) (fun h1 => ?_)
 ·simp +decide (disch := first | omega | rfl | (simp +decide only [go_sem, ↓reduceIte] <;> rfl) | fail) only [go_sem, ↓reduceIte]
  refine Qb (fun h2 => ?_) (fun h2 => ?_)
  ·simp +decide (disch := first | omega | rfl | (simp +decide only [go_sem, ↓reduceIte] <;> rfl) | fail) only [go_sem, ↓reduceIte]
   exact Qc (by rw [Qtw h2]) rfl
  ·simp +decide (disch := first | omega | rfl | (simp +decide only [go_sem, ↓reduceIte] <;> rfl) | fail) only [go_sem, ↓reduceIte]
   exact Qc (by rw [Q24 (by omega)]) rfl
 simp +decide (disch := first | omega | rfl | (simp +decide only [go_sem, ↓reduceIte] <;> rfl) | fail) only [go_sem, ↓reduceIte]
 refine Qcd hP (Qc2 hp.la hp.ld hp.k1 hp.sa hp.sd (by omega)) rfl rfl rfl ?_
 rintro _ ⟨n', a', d', rfl, g1, g2, g3, g4, g5, g6⟩
 simp +decide (disch := first | omega | rfl | (simp +decide only [go_sem, ↓reduceIte] <;> rfl) | fail) only [go_sem, ↓reduceIte]
 refine Qcd hP (Qc2 hq.la hq.ld hq.k1 hq.sa hq.sd (by omega)) rfl rfl rfl ?_
 rintro _ ⟨m', b', c', rfl, e1, e2, e3, e4, e5, e6⟩
 have hza : nl (zv n' a').natAbs <= k := by rw [Qa5]; exact Nat.le_trans (Qai g1) g3
 have hzb : nl (zv m' b').natAbs <= k := by rw [Qa5]; exact Nat.le_trans (Qai e1) e3
 have hvd : nl (val d') <= k := Nat.le_trans (Qai g2) g4
 have hvc : nl (val c') <= k := Nat.le_trans (Qai e2) e4
 have h3 := Qat (zv n' a') (val c')
 have h4 := Qat (zv m' b') (val d')
 rw [Int.natAbs_natCast] at h3 h4
 simp +decide (disch := first | omega | rfl | (simp +decide only [go_sem, ↓reduceIte] <;> rfl) | fail) only [go_sem, ↓reduceIte]
 refine Qa hP (Qd0 _) rfl rfl rfl ?_
 simp +decide (disch := first | omega | rfl | (simp +decide only [go_sem, ↓reduceIte] <;> rfl) | fail) only [go_sem, ↓reduceIte]
 refine Qa hP (Qdi (n := n') (m := false) g1 e2 (by omega) (by omega)) rfl rfl rfl ?_
 simp +decide (disch := first | omega | rfl | (simp +decide only [go_sem, ↓reduceIte] <;> rfl) | fail) only [go_sem, ↓reduceIte]
 refine Qa hP (Qd0 _) rfl rfl rfl ?_
 simp +decide (disch := first | omega | rfl | (simp +decide only [go_sem, ↓reduceIte] <;> rfl) | fail) only [go_sem, ↓reduceIte]
 refine Qa hP (Qdi (n := m') (m := false) e1 g2 (by omega) (by omega)) rfl rfl rfl ?_
 rw [Qfc, Qfc]
 simp +decide (disch := first | omega | rfl | (simp +decide only [go_sem, ↓reduceIte] <;> rfl) | fail) only [go_sem, ↓reduceIte]
 refine Qa hP (Q4g (x := zv n' a' * (val c' : Int)) (y := zv m' b' * (val d' : Int)) (by omega) (by omega)) rfl rfl rfl ?_
 simp +decide (disch := first | omega | rfl | (simp +decide only [go_sem, ↓reduceIte] <;> rfl) | fail) only [go_sem, ↓reduceIte]
 exact Qc (by rw [<- g6, <- e6]; unfold rv; rw [Qv6 g5 e5]) rfl
theorem Qn4 {n m : Bool} {a d b c : List Nat} {k : Nat} (hp : Raw k n a d) (hq : Raw k m b c) (hk : k < 2 ^ 36) : Qd Tryz.prog 39 [PV.rr n a d, PV.rr m b c] (· = .bool (decide (rv n a d = rv m b c))) := by
 refine Qi Qm Tryz.func39 rfl Qabq (by simp [c39]) fun C hP => ?_; simp only [c39]
 simp +decide (disch := first | omega | rfl | (simp +decide only [go_sem, ↓reduceIte] <;> rfl) | fail) only [go_sem, ↓reduceIte]
 refine Qa hP (Q0t hp hq hk) rfl rfl rfl ?_
 simp +decide (disch := first | omega | rfl | (simp +decide only [go_sem, ↓reduceIte] <;> rfl) | fail) only [go_sem, ↓reduceIte]
 exact Qc (congrArg PV.bool (decide_eq_decide.2 Qri)) rfl
theorem Q0u {x : Int} (h1 : -9223372036854775808 <= x) (h2 : x <= 9223372036854775807) : Qd Tryz.prog 154 [.int .i64 x] (· = PV.zz x) := by
 refine Qi Qm Tryz.func154 rfl Q7x (by simp [Q3v]) fun C hP => ?_; simp only [Q3v]
 simp +decide (disch := first | omega | rfl | (simp +decide only [go_sem, ↓reduceIte] <;> rfl) | fail) only [go_sem, ↓reduceIte]
 refine Qb (fun hc => ?_) (fun hc => ?_)
 ·obtain ⟨y, hy⟩ : ∃ y : Nat, x = -((y : Int) + 1) := ⟨(-(x + 1)).toNat, by omega⟩
  have e1 : IntKind.i64.wrap (x + 1) = -(y : Int) := by rw [Qfx (by omega) (by omega)]; omega
  have e2 : IntKind.i64.wrap (0 - -(y : Int)) = (y : Int) := by rw [Qfx (by omega) (by omega)]; omega
  have e3 : IntKind.u64.wrap (y : Int) = (y : Int) := Qen (by omega) (by omega)
  have e4 : IntKind.u64.wrap ((y + 1 : Nat) : Int) = ((y + 1 : Nat) : Int) := Qen (by omega) (by omega)
  simp +decide (disch := first | omega | rfl | (simp +decide only [go_sem, ↓reduceIte, e1, e2, e3, e4] <;> rfl) | fail) only [go_sem, ↓reduceIte, e1, e2, e3, e4]
  refine Qa hP (Qnh (by omega)) rfl rfl rfl ?_
  simp +decide (disch := first | omega | rfl | (simp +decide only [go_sem, ↓reduceIte] <;> rfl) | fail) only [go_sem, ↓reduceIte]
  refine Qa hP (Qex true (y + 1)) rfl rfl rfl ?_
  simp +decide (disch := first | omega | rfl | (simp +decide only [go_sem, ↓reduceIte] <;> rfl) | fail) only [go_sem, ↓reduceIte]
  refine Qaw ?_
  simp +decide (disch := first | omega | rfl | (simp +decide only [go_sem, ↓reduceIte] <;> rfl) | fail) only [go_sem, ↓reduceIte]
  exact Qc (congrArg PV.zz (by simp; omega)) rfl
 ·obtain ⟨y, rfl⟩ : ∃ y : Nat, x = y := ⟨x.toNat, by omega⟩
  simp +decide (disch := first | omega | rfl | (simp +decide only [go_sem, ↓reduceIte] <;> rfl) | fail) only [go_sem, ↓reduceIte]
  refine Qa hP (Qnh (by omega)) rfl rfl rfl ?_
  simp +decide (disch := first | omega | rfl | (simp +decide only [go_sem, ↓reduceIte] <;> rfl) | fail) only [go_sem, ↓reduceIte]
  refine Qa hP (Qex false y) rfl rfl rfl ?_
  simp +decide (disch := first | omega | rfl | (simp +decide only [go_sem, ↓reduceIte] <;> rfl) | fail) only [go_sem, ↓reduceIte]
  refine Qaw ?_
  simp +decide (disch := first | omega | rfl | (simp +decide only [go_sem, ↓reduceIte] <;> rfl) | fail) only [go_sem, ↓reduceIte]
  exact Qc (congrArg PV.zz (by simp)) rfl
theorem Q0v {x : Int} (h1 : -9223372036854775808 <= x) (h2 : x <= 9223372036854775807) : Qd Tryz.prog 79 [.int .i64 x] (· = PV.rat (x : Rat)) := by
 refine Qi Qm Tryz.func79 rfl Qabo (by simp [c79]) fun C hP => ?_; simp only [c79]
 simp +decide (disch := first | omega | rfl | (simp +decide only [go_sem, ↓reduceIte] <;> rfl) | fail) only [go_sem, ↓reduceIte]
 refine Qa hP (Q0u h1 h2) rfl rfl rfl ?_
 simp +decide (disch := first | omega | rfl | (simp +decide only [go_sem, ↓reduceIte] <;> rfl) | fail) only [go_sem, ↓reduceIte]
 refine Qa hP Qjh rfl rfl rfl ?_
 simp +decide (disch := first | omega | rfl | (simp +decide only [go_sem, ↓reduceIte] <;> rfl) | fail) only [go_sem, ↓reduceIte]
 refine Qaw ?_
 simp +decide (disch := first | omega | rfl | (simp +decide only [go_sem, ↓reduceIte] <;> rfl) | fail) only [go_sem, ↓reduceIte]
 exact Qc (by rw [PV.rat, Rat.num_intCast, Rat.den_intCast, PV.num, PV.num, Qfj]; rfl) rfl
theorem Qug {n : Bool} {a : List Nat} (ha : Qh a) (hla : a.length < 2 ^ 42) : Qd Tryz.prog 207 [PV.zi n a] (· = .bool (Qfl n a)) := by
 refine Qi Qm Tryz.func207 rfl Q7v (by simp [Q3t]) fun C hP => ?_; simp only [Q3t]
 simp +decide (disch := first | omega | rfl | (simp +decide only [go_sem, ↓reduceIte] <;> rfl) | fail) only [go_sem, ↓reduceIte]
 refine Qb3 (fun h0 => ?_) (fun h0 => ?_)
 ·have : a = [] := List.length_eq_zero_iff.1 (by omega)
  subst this
  simp +decide (disch := first | omega | rfl | (simp +decide only [go_sem, ↓reduceIte] <;> rfl) | fail) only [go_sem, ↓reduceIte]
  cases n
  ·simp +decide (disch := first | omega | rfl | (simp +decide only [go_sem, ↓reduceIte] <;> rfl) | fail) only [go_sem, ↓reduceIte]
   refine Qc (congrArg PV.bool ?_) rfl
   simp [Qfl]
  ·simp +decide (disch := first | omega | rfl | (simp +decide only [go_sem, ↓reduceIte] <;> rfl) | fail) only [go_sem, ↓reduceIte]
   refine Qc (congrArg PV.bool ?_) rfl
   simp [Qfl]
 ·obtain ⟨k, hk⟩ : ∃ k, a.length = k + 1 := ⟨a.length - 1, by omega⟩
  have hne : a ≠ [] := fun h => by rw [h] at hk; simp at hk
  have hl := Qnx hk
  have e : ((k + 1 : Nat) : Int) - 1 = k := by omega
  generalize hx : a[k]'(by omega) = x at *
  simp +decide (disch := first | omega | rfl | (simp +decide only [go_sem, ↓reduceIte, hk, e, hx] <;> rfl) | fail) only [go_sem, ↓reduceIte, hk, e, hx]
  refine Qb3 (fun h => ?_) (fun h => absurd (by omega) h)
  simp +decide (disch := first | omega | rfl | (simp +decide only [go_sem, ↓reduceIte, hk, e, hx] <;> rfl) | fail) only [go_sem, ↓reduceIte, hk, e, hx]
  refine Qc (congrArg PV.bool ?_) rfl
  unfold Qfl
  rw [if_neg hne, hl]
  exact decide_eq_decide.2 ⟨fun h h' => h (by injection h' with h'; rw [h']; rfl), fun h h' => h (by rw [show x = 0 by omega])⟩
end Go.Proofs.YtmnkngmmfnncoaaGreat
namespace Go.Proofs.YtmnkngmmfnncoaaGreat
open Go Go.FW
set_option linter.unusedSimpArgs false
set_option linter.unusedVariables false
set_option maxRecDepth 100000
theorem Qvf {n : Bool} {a d : List Nat} {k : Nat} (hp : Raw k n a d) (hk : k < 2 ^ 36) : Qd Tryz.prog 163 [PV.rr n a d] (· = .bool (Qfr n a d)) := by
 obtain ⟨ha, hd, sa, sd, k1⟩ := hp
 refine Qi Qm Tryz.func163 rfl Q78 (by simp [Q36]) fun C hP => ?_; simp only [Q36]
 simp +decide (disch := first | omega | rfl | (simp +decide only [go_sem, ↓reduceIte] <;> rfl) | fail) only [go_sem, ↓reduceIte]
 refine Qa hP (Qug ha (by omega)) rfl rfl rfl ?_
 unfold Qfr
 simp +decide (disch := first | omega | rfl | (simp +decide only [go_sem, ↓reduceIte] <;> rfl) | fail) only [go_sem, ↓reduceIte]
 cases hio : Qfl n a
 ·simp +decide (disch := first | omega | rfl | (simp +decide only [go_sem, ↓reduceIte, Bool.not_false] <;> rfl) | fail) only [go_sem, ↓reduceIte, Bool.not_false]
  exact Qc (by simp) rfl
 rw [Bool.true_and]
 simp +decide (disch := first | omega | rfl | (simp +decide only [go_sem, ↓reduceIte, Bool.not_true] <;> rfl) | fail) only [go_sem, ↓reduceIte, Bool.not_true]
 refine Qa3 (fun h0 => ?_) (fun h0 => ?_)
 ·have : d = [] := List.length_eq_zero_iff.1 (by omega)
  subst this
  simp +decide (disch := first | omega | rfl | (simp +decide only [go_sem, ↓reduceIte] <;> rfl) | fail) only [go_sem, ↓reduceIte]
  exact Qc (by simp) rfl
 obtain ⟨k', hk'⟩ : ∃ k, d.length = k + 1 := ⟨d.length - 1, by omega⟩
 have hne : d ≠ [] := fun h => by rw [h] at hk'; simp at hk'
 have hl := Qnx hk'
 have e : ((k' + 1 : Nat) : Int) - 1 = k' := by omega
 generalize hx : d[k']'(by omega) = x at *
 simp +decide (disch := first | omega | rfl | (simp +decide only [go_sem, ↓reduceIte, hk', e, hx] <;> rfl) | fail) only [go_sem, ↓reduceIte, hk', e, hx]
 refine Qb (fun h1 => ?_) (fun h1 => ?_)
 ·simp +decide (disch := first | omega | rfl | (simp +decide only [go_sem, ↓reduceIte] <;> rfl) | fail) only [go_sem, ↓reduceIte]
  refine Qc (congrArg PV.bool ?_) rfl
  rw [hl, show x = 0 by omega]; simp
 have hx0 : x ≠ 0 := by omega
 simp +decide (disch := first | omega | rfl | (simp +decide only [go_sem, ↓reduceIte] <;> rfl) | fail) only [go_sem, ↓reduceIte]
 refine Qa hP (Qln (by omega)) rfl rfl rfl ?_
 simp +decide (disch := first | omega | rfl | (simp +decide only [go_sem, ↓reduceIte] <;> rfl) | fail) only [go_sem, ↓reduceIte]
 refine Qa3 (fun h2 => ?_) (fun h2 => ?_)
 ·subst h2
  simp +decide (disch := first | omega | rfl | (simp +decide only [go_sem, ↓reduceIte] <;> rfl) | fail) only [go_sem, ↓reduceIte]
  refine Qc (congrArg PV.bool ?_) rfl
  simp [val]
 ·simp +decide (disch := first | omega | rfl | (simp +decide only [go_sem, ↓reduceIte] <;> rfl) | fail) only [go_sem, ↓reduceIte]
  refine Qa hP (Qt3 ha hd (by omega) (by omega)) rfl rfl rfl ?_
  have hD : 0 < val d := by
   apply Nat.pos_of_ne_zero
   intro h0
   have hdd := Qkc hd (by rw [hl]; simpa using hx0)
   rw [h0, Qax] at hdd
   exact hne hdd.symm
  have hgl : (dig (Nat.gcd (val a) (val d))).length < 2 ^ 43 := by
   have h3 := Qbs (Nat.gcd_le_right (val a) hD)
   have h4 := Qai hd
   unfold nl at h3 h4; omega
  simp +decide (disch := first | omega | rfl | (simp +decide only [go_sem, ↓reduceIte] <;> rfl) | fail) only [go_sem, ↓reduceIte]
  refine Qa hP (Qqu hgl) rfl rfl rfl ?_
  simp +decide (disch := first | omega | rfl | (simp +decide only [go_sem, ↓reduceIte] <;> rfl) | fail) only [go_sem, ↓reduceIte]
  refine Qc (congrArg PV.bool ?_) rfl
  rw [hl]; simp [hne, hx0]
end Go.Proofs.YtmnkngmmfnncoaaGreat
namespace Go.Proofs.YtmnkngmmfnncoaaGreat
open Go Go.FW
set_option linter.unusedSimpArgs false
set_option linter.unusedVariables false
set_option maxRecDepth 100000
end Go.Proofs.YtmnkngmmfnncoaaGreat
namespace Go.Proofs.YtmnkngmmfnncoaaGreat
open Go Go.FW
set_option linter.unusedSimpArgs false
set_option linter.unusedVariables false
set_option maxRecDepth 100000
end Go.Proofs.YtmnkngmmfnncoaaGreat
namespace Go.Proofs.YtmnkngmmfnncoaaGreat
open Go Go.FW
set_option linter.unusedSimpArgs false
set_option linter.unusedVariables false
set_option maxRecDepth 100000
theorem Qsk {a b : Rat} {k : Nat} (ha : rs a <= k) (hb : rs b <= k) (hk : k < 2 ^ 36) : Qd Tryz.prog 37 [PV.rat a, PV.rat b] (· = PV.rat (a + b)) := by
 have := Qrp (Qct ha) (Qct hb) hk
 rwa [Qdh, Qdh] at this
theorem Qls {a b : Rat} {k : Nat} (ha : rs a <= k) (hb : rs b <= k) (hk : k < 2 ^ 36) : Qd Tryz.prog 38 [PV.rat a, PV.rat b] (· = PV.rat (a * b)) := by
 have := Q0s (Qct ha) (Qct hb) hk
 rwa [Qdh, Qdh] at this
theorem Q83 {a b : Rat} {k : Nat} (ha : rs a <= k) (hb : rs b <= k) (hk : k < 2 ^ 36) : Qd Tryz.prog 39 [PV.rat a, PV.rat b] (· = .bool (decide (a = b))) := by
 have := Qn4 (Qct ha) (Qct hb) hk
 rwa [Qdh, Qdh] at this
theorem Qms {a : Rat} (ha : rs a < 2 ^ 36) : Qd Tryz.prog 36 [PV.rat a] (· = .int .i64 (Qdw a)) := by
 have := Qlr (Qct (Nat.le_refl (rs a))) ha
 rwa [Qdh] at this
end Go.Proofs.YtmnkngmmfnncoaaGreat
namespace Go.Proofs.YtmnkngmmfnncoaaGreat
open Go Go.FW
set_option linter.unusedSimpArgs false
set_option linter.unusedVariables false
set_option maxRecDepth 100000
end Go.Proofs.YtmnkngmmfnncoaaGreat
namespace Go.Proofs.YtmnkngmmfnncoaaGreat
open Go Go.FW
set_option linter.unusedSimpArgs false
set_option linter.unusedVariables false
set_option maxRecDepth 100000
end Go.Proofs.YtmnkngmmfnncoaaGreat
namespace Go.Proofs.YtmnkngmmfnncoaaGreat
open Go Go.FW
set_option linter.unusedSimpArgs false
set_option linter.unusedVariables false
set_option maxRecDepth 100000
end Go.Proofs.YtmnkngmmfnncoaaGreat
namespace Go.Proofs.YtmnkngmmfnncoaaGreat
open Go Go.FW
set_option maxRecDepth 100000
end Go.Proofs.YtmnkngmmfnncoaaGreat
namespace Go.Proofs.YtmnkngmmfnncoaaGreat
open Go Go.FW
set_option maxRecDepth 100000
end Go.Proofs.YtmnkngmmfnncoaaGreat
namespace Go.Proofs.YtmnkngmmfnncoaaGreat
open Go Go.FW
set_option maxRecDepth 100000
def c71 : SFn := ⟨19, [.cell 4 3 true], .seq (.rg (.o none (.alloc 4 3 32 (.agg [(.bool false), .nilS, .nilS])) .nil)) <| .seq (.rg (.o none (.mv 8 (.t 0)) <|
 .o none (.call (some 9) false (.c (.fn 105 [] [])) [(.t 8)]) <|
 .o none (.mv 10 (.t 1)) <|
 .o none (.call (some 11) false (.c (.fn 105 [] [])) [(.t 10)]) <|
 .o none (.call (some 12) false (.c (.fn 147 [] [])) [(.t 9), (.t 11)]) <|
 .o none (.mv 7 (.t 12)) <|
 .o none (.ext 13 (.t 7) 0) <|
 .o none (.ext 14 (.t 7) 1) <|
 .o none (.alloc 5 3 32 (.agg [(.bool false), .nilS, .nilS])) <|
 .o none (.st 3 (.t 5) (.t 13)) <|
 .o none (.mv 6 (.t 14)) .nil)) <| .seq (.seq (.rg (.o none (.mv 15 (.t 6)) <|
 .o none (.bin 16 .neq false (.t 15) (.c (.int .i64 0))) .nil)) <| .cond (.t 16) (.seq (.rg (.o none (.call (some 17) false (.c (.fn 34 [] [])) [(.c (.int .i64 0))]) <|
 .o none (.st 3 (.t 4) (.t 17)) .nil)) <| .ret) (.skip)) <| .seq (.rg (.o none (.ld 18 3 true (.t 5)) <|
 .o none (.st 3 (.t 4) (.t 18)) .nil)) <| .ret⟩
theorem Qacb : Qf Tryz.prog Tryz.f71 = some c71 := by kernel_rfl
end Go.Proofs.YtmnkngmmfnncoaaGreat
namespace Go.Proofs.YtmnkngmmfnncoaaGreat
open Go Go.FW
set_option linter.unusedSimpArgs false
set_option linter.unusedVariables false
set_option maxRecDepth 100000
end Go.Proofs.YtmnkngmmfnncoaaGreat
namespace Go.Proofs.YtmnkngmmfnncoaaGreat
open Go Go.FW
set_option linter.unusedSimpArgs false
set_option linter.unusedVariables false
set_option maxRecDepth 100000
end Go.Proofs.YtmnkngmmfnncoaaGreat
namespace Go.Proofs.YtmnkngmmfnncoaaGreat
open Go Go.FW
set_option linter.unusedSimpArgs false
set_option linter.unusedVariables false
set_option maxRecDepth 100000
end Go.Proofs.YtmnkngmmfnncoaaGreat
namespace Go.Proofs.YtmnkngmmfnncoaaGreat
open Go Go.FW
set_option maxRecDepth 100000
def Q4z : SFn := ⟨24, [.t 2], .seq (.rg (.o none (.mv 2 (.c .nilS)) .nil)) <| .seq (.rg (.o none (.mv 5 (.t 0)) <|
 .o none (.len 6 (.t 5)) <|
 .o none (.mv 3 (.t 6)) .nil)) <| .seq (.block 0 (.loop (.seq (.seq (.rg (.o none (.mv 7 (.t 3)) <|
 .o none (.bin 8 .gtr false (.t 7) (.c (.int .i64 0))) <|
 .o none (.mv 9 (.t 8)) <|
 .o (some (9, true)) (.mv 10 (.t 0)) <|
 .o (some (9, true)) (.mv 11 (.t 3)) <|
 .o (some (9, true)) (.bin 12 .sub false (.t 11) (.c (.int .i64 1))) <|
 .o (some (9, true)) (.idx 13 1 (.t 10) (.t 12)) <|
 .o (some (9, true)) (.ld 14 1 false (.t 13)) <|
 .o (some (9, true)) (.bin 15 .eql false (.t 14) (.c (.int .u16 0))) <|
 .o none (.pick 16 (.t 9) (.t 15) (.c (.bool false))) .nil)) <| .cond (.t 16) (.skip) (.exit 0)) <| .block 1 (.rg (.o none (.mv 17 (.t 3)) <|
 .o none (.bin 18 .sub false (.t 17) (.c (.int .i64 1))) <|
 .o none (.mv 3 (.t 18)) .nil))))) <| .seq (.rg (.o none (.mv 4 (.c .nilS)) .nil)) <| .seq (.rg (.o none (.mv 19 (.t 4)) <|
 .o none (.mv 20 (.t 0)) <|
 .o none (.mv 21 (.t 3)) <|
 .o none (.sl 22 1 (.t 20) none (some (.t 21)) none) <|
 .o none (.app 23 1 2 156 (.t 19) (.t 22)) <|
 .o none (.mv 2 (.t 23)) .nil)) <| .ret⟩
theorem Q84 : Qf Tryz.prog Tryz.f167 = some Q4z := by kernel_rfl
def Q40 : SFn := ⟨15, [.t 2], .seq (.rg (.o none (.mv 2 (.c .nilS)) .nil)) <| .seq (.rg (.o none (.mv 3 (.c .nilS)) .nil)) <| .seq (.block 0 (.loop (.seq (.seq (.rg (.o none (.mv 4 (.t 0)) <|
 .o none (.bin 5 .gtr false (.t 4) (.c (.int .u64 0))) .nil)) <| .cond (.t 5) (.skip) (.exit 0)) <| .block 1 (.seq (.rg (.o none (.mv 6 (.t 3)) <|
 .o none (.mv 7 (.t 0)) <|
 .o none (.bin 8 .rem false (.t 7) (.c (.int .u64 65536))) <|
 .o none (.conv 9 .u16 (.t 8)) <|
 .o none (.bs 10 1 156 [(.t 9)]) <|
 .o none (.app 11 1 2 156 (.t 6) (.t 10)) <|
 .o none (.mv 3 (.t 11)) .nil)) <| .rg (.o none (.mv 12 (.t 0)) <|
 .o none (.bin 13 .quo false (.t 12) (.c (.int .u64 65536))) <|
 .o none (.mv 0 (.t 13)) .nil))))) <| .seq (.rg (.o none (.mv 14 (.t 3)) <|
 .o none (.mv 2 (.t 14)) .nil)) <| .ret⟩
theorem Q85 : Qf Tryz.prog Tryz.f106 = some Q40 := by kernel_rfl
def Q41 : SFn := ⟨21, [.t 2], .seq (.rg (.o none (.mv 2 (.c (.int .u64 0))) .nil)) <| .seq (.rg (.o none (.mv 3 (.c (.int .u64 0))) .nil)) <| .seq (.seq (.rg (.o none (.mv 5 (.t 0)) <|
 .o none (.len 6 (.t 5)) <|
 .o none (.bin 7 .sub false (.t 6) (.c (.int .i64 1))) <|
 .o none (.mv 4 (.t 7)) .nil)) <| .block 0 (.loop (.seq (.seq (.rg (.o none (.mv 8 (.t 4)) <|
 .o none (.bin 9 .geq false (.t 8) (.c (.int .i64 0))) .nil)) <| .cond (.t 9) (.skip) (.exit 0)) <| .seq (.block 1 (.rg (.o none (.mv 12 (.t 3)) <|
 .o none (.bin 13 .mul false (.t 12) (.c (.int .u64 65536))) <|
 .o none (.mv 14 (.t 0)) <|
 .o none (.mv 15 (.t 4)) <|
 .o none (.idx 16 1 (.t 14) (.t 15)) <|
 .o none (.ld 17 1 false (.t 16)) <|
 .o none (.conv 18 .u64 (.t 17)) <|
 .o none (.bin 19 .add false (.t 13) (.t 18)) <|
 .o none (.mv 3 (.t 19)) .nil))) <| .rg (.o none (.mv 10 (.t 4)) <|
 .o none (.bin 11 .sub false (.t 10) (.c (.int .i64 1))) <|
 .o none (.mv 4 (.t 11)) .nil)))) <| .seq (.rg (.o none (.mv 20 (.t 3)) <|
 .o none (.mv 2 (.t 20)) .nil)) <| .ret⟩
theorem Q86 : Qf Tryz.prog Tryz.f209 = some Q41 := by kernel_rfl
def Q42 : SFn := ⟨14, [.t 4], .seq (.rg (.o none (.mv 4 (.c (.int .i64 0))) .nil)) <| .seq (.seq (.rg (.o none (.mv 5 (.t 1)) <|
 .o none (.mv 6 (.t 0)) <|
 .o none (.len 7 (.t 6)) <|
 .o none (.bin 8 .lss false (.t 5) (.t 7)) .nil)) <| .cond (.t 8) (.seq (.rg (.o none (.mv 9 (.t 0)) <|
 .o none (.mv 10 (.t 1)) <|
 .o none (.idx 11 1 (.t 9) (.t 10)) <|
 .o none (.ld 12 1 false (.t 11)) <|
 .o none (.conv 13 .i64 (.t 12)) <|
 .o none (.mv 4 (.t 13)) .nil)) <| .ret) (.skip)) <| .seq (.rg (.o none (.mv 4 (.c (.int .i64 0))) .nil)) <| .ret⟩
theorem Q87 : Qf Tryz.prog Tryz.f206 = some Q42 := by kernel_rfl
def Q43 : SFn := ⟨30, [.t 4], .seq (.rg (.o none (.mv 4 (.c (.int .i64 0))) .nil)) <| .seq (.seq (.rg (.o none (.mv 6 (.t 0)) <|
 .o none (.len 7 (.t 6)) <|
 .o none (.mv 8 (.t 1)) <|
 .o none (.len 9 (.t 8)) <|
 .o none (.mx 10 (.t 7) (.t 9)) <|
 .o none (.bin 11 .sub false (.t 10) (.c (.int .i64 1))) <|
 .o none (.mv 5 (.t 11)) .nil)) <| .block 0 (.loop (.seq (.seq (.rg (.o none (.mv 12 (.t 5)) <|
 .o none (.bin 13 .geq false (.t 12) (.c (.int .i64 0))) .nil)) <| .cond (.t 13) (.skip) (.exit 0)) <| .seq (.block 1 (.seq (.seq (.rg (.o none (.mv 16 (.t 0)) <|
 .o none (.mv 17 (.t 5)) <|
 .o none (.call (some 18) false (.c (.fn 206 [] [])) [(.t 16), (.t 17)]) <|
 .o none (.mv 19 (.t 1)) <|
 .o none (.mv 20 (.t 5)) <|
 .o none (.call (some 21) false (.c (.fn 206 [] [])) [(.t 19), (.t 20)]) <|
 .o none (.bin 22 .lss false (.t 18) (.t 21)) .nil)) <| .cond (.t 22) (.seq (.rg (.o none (.mv 4 (.c (.int .i64 (-1)))) .nil)) <| .ret) (.skip)) <| .seq (.rg (.o none (.mv 23 (.t 0)) <|
 .o none (.mv 24 (.t 5)) <|
 .o none (.call (some 25) false (.c (.fn 206 [] [])) [(.t 23), (.t 24)]) <|
 .o none (.mv 26 (.t 1)) <|
 .o none (.mv 27 (.t 5)) <|
 .o none (.call (some 28) false (.c (.fn 206 [] [])) [(.t 26), (.t 27)]) <|
 .o none (.bin 29 .gtr false (.t 25) (.t 28)) .nil)) <| .cond (.t 29) (.seq (.rg (.o none (.mv 4 (.c (.int .i64 1))) .nil)) <| .ret) (.skip))) <| .rg (.o none (.mv 14 (.t 5)) <|
 .o none (.bin 15 .sub false (.t 14) (.c (.int .i64 1))) <|
 .o none (.mv 5 (.t 15)) .nil)))) <| .seq (.rg (.o none (.mv 4 (.c (.int .i64 0))) .nil)) <| .ret⟩
theorem Q88 : Qf Tryz.prog Tryz.f224 = some Q43 := by kernel_rfl
def Q44 : SFn := ⟨44, [.t 4], .seq (.rg (.o none (.mv 4 (.c .nilS)) .nil)) <| .seq (.rg (.o none (.mv 5 (.c .nilS)) .nil)) <| .seq (.rg (.o none (.mv 6 (.c (.int .i64 0))) .nil)) <| .seq (.seq (.rg (.o none (.mv 7 (.c (.int .i64 0))) .nil)) <| .block 0 (.loop (.seq (.seq (.rg (.o none (.mv 9 (.t 7)) <|
 .o none (.mv 10 (.t 0)) <|
 .o none (.len 11 (.t 10)) <|
 .o none (.bin 12 .lss false (.t 9) (.t 11)) <|
 .o none (.mv 13 (.t 12)) <|
 .o (some (13, false)) (.mv 14 (.t 7)) <|
 .o (some (13, false)) (.mv 15 (.t 1)) <|
 .o (some (13, false)) (.len 16 (.t 15)) <|
 .o (some (13, false)) (.bin 17 .lss false (.t 14) (.t 16)) <|
 .o none (.pick 18 (.t 13) (.c (.bool true)) (.t 17)) <|
 .o none (.mv 19 (.t 18)) <|
 .o (some (19, false)) (.mv 20 (.t 6)) <|
 .o (some (19, false)) (.bin 21 .gtr false (.t 20) (.c (.int .i64 0))) <|
 .o none (.pick 22 (.t 19) (.c (.bool true)) (.t 21)) .nil)) <| .cond (.t 22) (.skip) (.exit 0)) <| .seq (.block 1 (.seq (.rg (.o none (.mv 25 (.t 0)) <|
 .o none (.mv 26 (.t 7)) <|
 .o none (.call (some 27) false (.c (.fn 206 [] [])) [(.t 25), (.t 26)]) <|
 .o none (.mv 28 (.t 1)) <|
 .o none (.mv 29 (.t 7)) <|
 .o none (.call (some 30) false (.c (.fn 206 [] [])) [(.t 28), (.t 29)]) <|
 .o none (.bin 31 .add false (.t 27) (.t 30)) <|
 .o none (.mv 32 (.t 6)) <|
 .o none (.bin 33 .add false (.t 31) (.t 32)) <|
 .o none (.mv 8 (.t 33)) .nil)) <| .seq (.rg (.o none (.mv 34 (.t 5)) <|
 .o none (.mv 35 (.t 8)) <|
 .o none (.bin 36 .rem false (.t 35) (.c (.int .i64 65536))) <|
 .o none (.conv 37 .u16 (.t 36)) <|
 .o none (.bs 38 1 156 [(.t 37)]) <|
 .o none (.app 39 1 2 156 (.t 34) (.t 38)) <|
 .o none (.mv 5 (.t 39)) .nil)) <| .rg (.o none (.mv 40 (.t 8)) <|
 .o none (.bin 41 .quo false (.t 40) (.c (.int .i64 65536))) <|
 .o none (.mv 6 (.t 41)) .nil))) <| .rg (.o none (.mv 23 (.t 7)) <|
 .o none (.bin 24 .add false (.t 23) (.c (.int .i64 1))) <|
 .o none (.mv 7 (.t 24)) .nil)))) <| .seq (.rg (.o none (.mv 42 (.t 5)) <|
 .o none (.call (some 43) false (.c (.fn 167 [] [])) [(.t 42)]) <|
 .o none (.mv 4 (.t 43)) .nil)) <| .ret⟩
theorem Q89 : Qf Tryz.prog Tryz.f171 = some Q44 := by kernel_rfl
def Q45 : SFn := ⟨40, [.t 4, .t 5], .seq (.rg (.o none (.mv 4 (.c .nilS)) <|
 .o none (.mv 5 (.c (.int .i64 0))) .nil)) <| .seq (.seq (.rg (.o none (.mv 10 (.t 0)) <|
 .o none (.mv 11 (.t 1)) <|
 .o none (.call (some 12) false (.c (.fn 224 [] [])) [(.t 10), (.t 11)]) <|
 .o none (.bin 13 .lss false (.t 12) (.c (.int .i64 0))) .nil)) <| .cond (.t 13) (.seq (.rg (.o none (.mv 4 (.c .nilS)) <|
 .o none (.mv 5 (.c (.int .i64 2))) .nil)) <| .ret) (.skip)) <| .seq (.rg (.o none (.mv 6 (.c .nilS)) .nil)) <| .seq (.rg (.o none (.mv 7 (.c (.int .i64 0))) .nil)) <| .seq (.seq (.rg (.o none (.mv 8 (.c (.int .i64 0))) .nil)) <| .block 0 (.loop (.seq (.seq (.rg (.o none (.mv 14 (.t 8)) <|
 .o none (.mv 15 (.t 0)) <|
 .o none (.len 16 (.t 15)) <|
 .o none (.bin 17 .lss false (.t 14) (.t 16)) .nil)) <| .cond (.t 17) (.skip) (.exit 0)) <| .seq (.block 1 (.seq (.rg (.o none (.mv 20 (.t 0)) <|
 .o none (.mv 21 (.t 8)) <|
 .o none (.call (some 22) false (.c (.fn 206 [] [])) [(.t 20), (.t 21)]) <|
 .o none (.mv 23 (.t 1)) <|
 .o none (.mv 24 (.t 8)) <|
 .o none (.call (some 25) false (.c (.fn 206 [] [])) [(.t 23), (.t 24)]) <|
 .o none (.bin 26 .sub false (.t 22) (.t 25)) <|
 .o none (.mv 27 (.t 7)) <|
 .o none (.bin 28 .sub false (.t 26) (.t 27)) <|
 .o none (.mv 9 (.t 28)) .nil)) <| .seq (.rg (.o none (.mv 7 (.c (.int .i64 0))) .nil)) <| .seq (.seq (.rg (.o none (.mv 29 (.t 9)) <|
 .o none (.bin 30 .lss false (.t 29) (.c (.int .i64 0))) .nil)) <| .cond (.t 30) (.seq (.rg (.o none (.mv 31 (.t 9)) <|
 .o none (.bin 32 .add false (.t 31) (.c (.int .i64 65536))) <|
 .o none (.mv 9 (.t 32)) .nil)) <| .rg (.o none (.mv 7 (.c (.int .i64 1))) .nil)) (.skip)) <| .rg (.o none (.mv 33 (.t 6)) <|
 .o none (.mv 34 (.t 9)) <|
 .o none (.conv 35 .u16 (.t 34)) <|
 .o none (.bs 36 1 156 [(.t 35)]) <|
 .o none (.app 37 1 2 156 (.t 33) (.t 36)) <|
 .o none (.mv 6 (.t 37)) .nil))) <| .rg (.o none (.mv 18 (.t 8)) <|
 .o none (.bin 19 .add false (.t 18) (.c (.int .i64 1))) <|
 .o none (.mv 8 (.t 19)) .nil)))) <| .seq (.rg (.o none (.mv 38 (.t 6)) <|
 .o none (.call (some 39) false (.c (.fn 167 [] [])) [(.t 38)]) <|
 .o none (.mv 4 (.t 39)) <|
 .o none (.mv 5 (.c (.int .i64 0))) .nil)) <| .ret⟩
theorem Q9a : Qf Tryz.prog Tryz.f208 = some Q45 := by kernel_rfl
def Q46 : SFn := ⟨65, [.t 4], .seq (.rg (.o none (.mv 4 (.c .nilS)) .nil)) <| .seq (.rg (.o none (.mv 10 (.t 0)) <|
 .o none (.len 11 (.t 10)) <|
 .o none (.mv 12 (.t 1)) <|
 .o none (.len 13 (.t 12)) <|
 .o none (.bin 14 .add false (.t 11) (.t 13)) <|
 .o none (.bin 15 .add false (.t 14) (.c (.int .i64 1))) <|
 .o none (.mk 16 1 2 156 (.int .u16 0) (.t 15) (.t 15)) <|
 .o none (.mv 5 (.t 16)) .nil)) <| .seq (.seq (.rg (.o none (.mv 6 (.c (.int .i64 0))) .nil)) <| .block 0 (.loop (.seq (.seq (.rg (.o none (.mv 17 (.t 6)) <|
 .o none (.mv 18 (.t 0)) <|
 .o none (.len 19 (.t 18)) <|
 .o none (.bin 20 .lss false (.t 17) (.t 19)) .nil)) <| .cond (.t 20) (.skip) (.exit 0)) <| .seq (.block 1 (.seq (.rg (.o none (.mv 7 (.c (.int .u64 0))) .nil)) <| .seq (.rg (.o none (.mv 8 (.c (.int .i64 0))) .nil)) <| .block 2 (.loop (.seq (.seq (.rg (.o none (.mv 23 (.t 8)) <|
 .o none (.mv 24 (.t 1)) <|
 .o none (.len 25 (.t 24)) <|
 .o none (.bin 26 .lss false (.t 23) (.t 25)) <|
 .o none (.mv 27 (.t 26)) <|
 .o (some (27, false)) (.mv 28 (.t 7)) <|
 .o (some (27, false)) (.bin 29 .gtr false (.t 28) (.c (.int .u64 0))) <|
 .o none (.pick 30 (.t 27) (.c (.bool true)) (.t 29)) .nil)) <| .cond (.t 30) (.skip) (.exit 2)) <| .seq (.block 3 (.seq (.rg (.o none (.mv 33 (.t 5)) <|
 .o none (.mv 34 (.t 6)) <|
 .o none (.mv 35 (.t 8)) <|
 .o none (.bin 36 .add false (.t 34) (.t 35)) <|
 .o none (.idx 37 1 (.t 33) (.t 36)) <|
 .o none (.ld 38 1 false (.t 37)) <|
 .o none (.conv 39 .u64 (.t 38)) <|
 .o none (.mv 40 (.t 0)) <|
 .o none (.mv 41 (.t 6)) <|
 .o none (.idx 42 1 (.t 40) (.t 41)) <|
 .o none (.ld 43 1 false (.t 42)) <|
 .o none (.conv 44 .u64 (.t 43)) <|
 .o none (.mv 45 (.t 1)) <|
 .o none (.mv 46 (.t 8)) <|
 .o none (.mv 51 (.t 7)) <|
 .o none (.call (some 47) true (.c (.fn 206 [] [])) [(.t 45), (.t 46)]) <|
 .o none (.conv 48 .u64 (.t 47)) <|
 .o none (.bin 49 .mul false (.t 44) (.t 48)) <|
 .o none (.bin 50 .add false (.t 39) (.t 49)) <|
 .o none (.bin 52 .add false (.t 50) (.t 51)) <|
 .o none (.mv 9 (.t 52)) .nil)) <| .seq (.rg (.o none (.mv 53 (.t 5)) <|
 .o none (.mv 54 (.t 6)) <|
 .o none (.mv 55 (.t 8)) <|
 .o none (.bin 56 .add false (.t 54) (.t 55)) <|
 .o none (.mv 57 (.t 9)) <|
 .o none (.bin 58 .rem false (.t 57) (.c (.int .u64 65536))) <|
 .o none (.conv 59 .u16 (.t 58)) <|
 .o none (.idx 60 1 (.t 53) (.t 56)) <|
 .o none (.st 1 (.t 60) (.t 59)) .nil)) <| .rg (.o none (.mv 61 (.t 9)) <|
 .o none (.bin 62 .quo false (.t 61) (.c (.int .u64 65536))) <|
 .o none (.mv 7 (.t 62)) .nil))) <| .rg (.o none (.mv 31 (.t 8)) <|
 .o none (.bin 32 .add false (.t 31) (.c (.int .i64 1))) <|
 .o none (.mv 8 (.t 32)) .nil))))) <| .rg (.o none (.mv 21 (.t 6)) <|
 .o none (.bin 22 .add false (.t 21) (.c (.int .i64 1))) <|
 .o none (.mv 6 (.t 22)) .nil)))) <| .seq (.rg (.o none (.mv 63 (.t 5)) <|
 .o none (.call (some 64) false (.c (.fn 167 [] [])) [(.t 63)]) <|
 .o none (.mv 4 (.t 64)) .nil)) <| .ret⟩
theorem Q9b : Qf Tryz.prog Tryz.f160 = some Q46 := by kernel_rfl
def Q47 : SFn := ⟨27, [.t 4], .seq (.rg (.o none (.mv 4 (.c (.int .u64 0))) .nil)) <| .seq (.rg (.o none (.mv 5 (.c (.int .u64 0))) <|
 .o none (.mv 6 (.c (.int .u64 65535))) .nil)) <| .seq (.block 0 (.loop (.seq (.seq (.rg (.o none (.mv 8 (.t 5)) <|
 .o none (.mv 9 (.t 6)) <|
 .o none (.bin 10 .lss false (.t 8) (.t 9)) .nil)) <| .cond (.t 10) (.skip) (.exit 0)) <| .block 1 (.seq (.rg (.o none (.mv 11 (.t 5)) <|
 .o none (.mv 12 (.t 6)) <|
 .o none (.bin 13 .add false (.t 11) (.t 12)) <|
 .o none (.bin 14 .add false (.t 13) (.c (.int .u64 1))) <|
 .o none (.bin 15 .quo false (.t 14) (.c (.int .u64 2))) <|
 .o none (.mv 7 (.t 15)) .nil)) <| .seq (.rg (.o none (.mv 16 (.t 1)) <|
 .o none (.mv 17 (.t 7)) <|
 .o none (.call (some 18) false (.c (.fn 106 [] [])) [(.t 17)]) <|
 .o none (.call (some 19) false (.c (.fn 160 [] [])) [(.t 16), (.t 18)]) <|
 .o none (.mv 20 (.t 0)) <|
 .o none (.call (some 21) false (.c (.fn 224 [] [])) [(.t 19), (.t 20)]) <|
 .o none (.bin 22 .leq false (.t 21) (.c (.int .i64 0))) .nil)) <| .cond (.t 22) (.rg (.o none (.mv 23 (.t 7)) <|
 .o none (.mv 5 (.t 23)) .nil)) (.rg (.o none (.mv 24 (.t 7)) <|
 .o none (.bin 25 .sub false (.t 24) (.c (.int .u64 1))) <|
 .o none (.mv 6 (.t 25)) .nil)))))) <| .seq (.rg (.o none (.mv 26 (.t 5)) <|
 .o none (.mv 4 (.t 26)) .nil)) <| .ret⟩
theorem Q9c : Qf Tryz.prog Tryz.f210 = some Q47 := by kernel_rfl
def Q48 : SFn := ⟨73, [.t 4, .t 5, .t 6], .seq (.rg (.o none (.mv 4 (.c .nilS)) <|
 .o none (.mv 5 (.c .nilS)) <|
 .o none (.mv 6 (.c (.int .i64 0))) .nil)) <| .seq (.rg (.o none (.mv 11 (.t 0)) <|
 .o none (.call (some 12) false (.c (.fn 167 [] [])) [(.t 11)]) <|
 .o none (.mv 13 (.t 1)) <|
 .o none (.call (some 14) false (.c (.fn 167 [] [])) [(.t 13)]) <|
 .o none (.mv 0 (.t 12)) <|
 .o none (.mv 1 (.t 14)) .nil)) <| .seq (.seq (.rg (.o none (.mv 15 (.t 1)) <|
 .o none (.len 16 (.t 15)) <|
 .o none (.bin 17 .eql false (.t 16) (.c (.int .i64 0))) .nil)) <| .cond (.t 17) (.seq (.rg (.o none (.mv 4 (.c .nilS)) <|
 .o none (.mv 5 (.c .nilS)) <|
 .o none (.mv 6 (.c (.int .i64 3))) .nil)) <| .ret) (.skip)) <| .seq (.seq (.rg (.o none (.mv 18 (.t 0)) <|
 .o none (.len 19 (.t 18)) <|
 .o none (.bin 20 .leq false (.t 19) (.c (.int .i64 4))) <|
 .o none (.mv 21 (.t 20)) <|
 .o (some (21, true)) (.mv 22 (.t 1)) <|
 .o (some (21, true)) (.len 23 (.t 22)) <|
 .o (some (21, true)) (.bin 24 .leq false (.t 23) (.c (.int .i64 4))) <|
 .o none (.pick 25 (.t 21) (.t 24) (.c (.bool false))) .nil)) <| .cond (.t 25) (.seq (.rg (.o none (.mv 26 (.t 0)) <|
 .o none (.call (some 27) false (.c (.fn 209 [] [])) [(.t 26)]) <|
 .o none (.mv 28 (.t 1)) <|
 .o none (.call (some 29) false (.c (.fn 209 [] [])) [(.t 28)]) <|
 .o none (.bin 30 .quo false (.t 27) (.t 29)) <|
 .o none (.call (some 31) false (.c (.fn 106 [] [])) [(.t 30)]) <|
 .o none (.mv 32 (.t 0)) <|
 .o none (.call (some 33) false (.c (.fn 209 [] [])) [(.t 32)]) <|
 .o none (.mv 34 (.t 1)) <|
 .o none (.call (some 35) false (.c (.fn 209 [] [])) [(.t 34)]) <|
 .o none (.bin 36 .rem false (.t 33) (.t 35)) <|
 .o none (.call (some 37) false (.c (.fn 106 [] [])) [(.t 36)]) <|
 .o none (.mv 4 (.t 31)) <|
 .o none (.mv 5 (.t 37)) <|
 .o none (.mv 6 (.c (.int .i64 0))) .nil)) <| .ret) (.skip)) <| .seq (.rg (.o none (.mv 7 (.c .nilS)) <|
 .o none (.mv 8 (.c .nilS)) .nil)) <| .seq (.seq (.rg (.o none (.mv 38 (.t 0)) <|
 .o none (.len 39 (.t 38)) <|
 .o none (.bin 40 .sub false (.t 39) (.c (.int .i64 1))) <|
 .o none (.mv 9 (.t 40)) .nil)) <| .block 0 (.loop (.seq (.seq (.rg (.o none (.mv 41 (.t 9)) <|
 .o none (.bin 42 .geq false (.t 41) (.c (.int .i64 0))) .nil)) <| .cond (.t 42) (.skip) (.exit 0)) <| .seq (.block 1 (.seq (.rg (.o none (.mv 45 (.t 0)) <|
 .o none (.mv 46 (.t 9)) <|
 .o none (.idx 47 1 (.t 45) (.t 46)) <|
 .o none (.ld 48 1 false (.t 47)) <|
 .o none (.bs 49 1 156 [(.t 48)]) <|
 .o none (.mv 50 (.t 8)) <|
 .o none (.app 51 1 2 156 (.t 49) (.t 50)) <|
 .o none (.call (some 52) false (.c (.fn 167 [] [])) [(.t 51)]) <|
 .o none (.mv 8 (.t 52)) .nil)) <| .seq (.rg (.o none (.mv 53 (.t 8)) <|
 .o none (.mv 54 (.t 1)) <|
 .o none (.call (some 55) false (.c (.fn 210 [] [])) [(.t 53), (.t 54)]) <|
 .o none (.mv 10 (.t 55)) .nil)) <| .seq (.rg (.o none (.mv 56 (.t 10)) <|
 .o none (.conv 57 .u16 (.t 56)) <|
 .o none (.bs 58 1 156 [(.t 57)]) <|
 .o none (.mv 59 (.t 7)) <|
 .o none (.app 60 1 2 156 (.t 58) (.t 59)) <|
 .o none (.mv 7 (.t 60)) .nil)) <| .rg (.o none (.mv 62 (.t 8)) <|
 .o none (.mv 63 (.t 1)) <|
 .o none (.mv 64 (.t 10)) <|
 .o none (.call (some 65) false (.c (.fn 106 [] [])) [(.t 64)]) <|
 .o none (.call (some 66) false (.c (.fn 160 [] [])) [(.t 63), (.t 65)]) <|
 .o none (.call (some 67) false (.c (.fn 208 [] [])) [(.t 62), (.t 66)]) <|
 .o none (.mv 61 (.t 67)) <|
 .o none (.ext 68 (.t 61) 0) <|
 .o none (.ext 69 (.t 61) 1) <|
 .o none (.mv 8 (.t 68)) .nil))) <| .rg (.o none (.mv 43 (.t 9)) <|
 .o none (.bin 44 .sub false (.t 43) (.c (.int .i64 1))) <|
 .o none (.mv 9 (.t 44)) .nil)))) <| .seq (.rg (.o none (.mv 70 (.t 7)) <|
 .o none (.call (some 71) false (.c (.fn 167 [] [])) [(.t 70)]) <|
 .o none (.mv 72 (.t 8)) <|
 .o none (.mv 4 (.t 71)) <|
 .o none (.mv 5 (.t 72)) <|
 .o none (.mv 6 (.c (.int .i64 0))) .nil)) <| .ret⟩
theorem Q9d : Qf Tryz.prog Tryz.f168 = some Q48 := by kernel_rfl
def Q49 : SFn := ⟨25, [.t 4], .seq (.rg (.o none (.mv 4 (.c .nilS)) .nil)) <| .seq (.rg (.o none (.mv 8 (.t 0)) <|
 .o none (.call (some 9) false (.c (.fn 167 [] [])) [(.t 8)]) <|
 .o none (.mv 10 (.t 1)) <|
 .o none (.call (some 11) false (.c (.fn 167 [] [])) [(.t 10)]) <|
 .o none (.mv 0 (.t 9)) <|
 .o none (.mv 1 (.t 11)) .nil)) <| .seq (.block 0 (.loop (.seq (.seq (.rg (.o none (.mv 12 (.t 1)) <|
 .o none (.len 13 (.t 12)) <|
 .o none (.bin 14 .gtr false (.t 13) (.c (.int .i64 0))) .nil)) <| .cond (.t 14) (.skip) (.exit 0)) <| .block 1 (.seq (.rg (.o none (.mv 16 (.t 0)) <|
 .o none (.mv 17 (.t 1)) <|
 .o none (.call (some 18) false (.c (.fn 168 [] [])) [(.t 16), (.t 17)]) <|
 .o none (.mv 15 (.t 18)) <|
 .o none (.ext 19 (.t 15) 0) <|
 .o none (.ext 20 (.t 15) 1) <|
 .o none (.ext 21 (.t 15) 2) <|
 .o none (.mv 5 (.t 19)) <|
 .o none (.mv 6 (.t 20)) <|
 .o none (.mv 7 (.t 21)) .nil)) <| .rg (.o none (.mv 22 (.t 1)) <|
 .o none (.mv 23 (.t 6)) <|
 .o none (.mv 0 (.t 22)) <|
 .o none (.mv 1 (.t 23)) .nil))))) <| .seq (.rg (.o none (.mv 24 (.t 0)) <|
 .o none (.mv 4 (.t 24)) .nil)) <| .ret⟩
theorem Q9e : Qf Tryz.prog Tryz.f120 = some Q49 := by kernel_rfl
def Q5a : SFn := ⟨15, [.t 2], .seq (.rg (.o none (.mv 2 (.c (.bool false))) .nil)) <| .seq (.rg (.o none (.mv 3 (.t 0)) <|
 .o none (.len 4 (.t 3)) <|
 .o none (.bin 5 .eql false (.t 4) (.c (.int .i64 0))) <|
 .o none (.mv 6 (.t 5)) <|
 .o (some (6, false)) (.mv 7 (.t 0)) <|
 .o (some (6, false)) (.mv 8 (.t 0)) <|
 .o (some (6, false)) (.len 9 (.t 8)) <|
 .o (some (6, false)) (.bin 10 .sub false (.t 9) (.c (.int .i64 1))) <|
 .o (some (6, false)) (.idx 11 1 (.t 7) (.t 10)) <|
 .o (some (6, false)) (.ld 12 1 false (.t 11)) <|
 .o (some (6, false)) (.bin 13 .neq false (.t 12) (.c (.int .u16 0))) <|
 .o none (.pick 14 (.t 6) (.c (.bool true)) (.t 13)) <|
 .o none (.mv 2 (.t 14)) .nil)) <| .ret⟩
theorem Q9f : Qf Tryz.prog Tryz.f119 = some Q5a := by kernel_rfl
def c88 : SFn := ⟨26, [.t 4], .seq (.rg (.o none (.mv 4 (.c (.bool false))) .nil)) <| .seq (.seq (.rg (.o none (.mv 6 (.t 0)) <|
 .o none (.len 7 (.t 6)) <|
 .o none (.mv 8 (.t 1)) <|
 .o none (.len 9 (.t 8)) <|
 .o none (.bin 10 .neq false (.t 7) (.t 9)) .nil)) <| .cond (.t 10) (.seq (.rg (.o none (.mv 4 (.c (.bool false))) .nil)) <| .ret) (.skip)) <| .seq (.seq (.rg (.o none (.mv 5 (.c (.int .i64 0))) .nil)) <| .block 0 (.loop (.seq (.seq (.rg (.o none (.mv 11 (.t 5)) <|
 .o none (.mv 12 (.t 0)) <|
 .o none (.len 13 (.t 12)) <|
 .o none (.bin 14 .lss false (.t 11) (.t 13)) .nil)) <| .cond (.t 14) (.skip) (.exit 0)) <| .seq (.block 1 (.seq (.rg (.o none (.mv 17 (.t 0)) <|
 .o none (.mv 18 (.t 5)) <|
 .o none (.idx 19 1 (.t 17) (.t 18)) <|
 .o none (.ld 20 1 false (.t 19)) <|
 .o none (.mv 21 (.t 1)) <|
 .o none (.mv 22 (.t 5)) <|
 .o none (.idx 23 1 (.t 21) (.t 22)) <|
 .o none (.ld 24 1 false (.t 23)) <|
 .o none (.bin 25 .neq false (.t 20) (.t 24)) .nil)) <| .cond (.t 25) (.seq (.rg (.o none (.mv 4 (.c (.bool false))) .nil)) <| .ret) (.skip))) <| .rg (.o none (.mv 15 (.t 5)) <|
 .o none (.bin 16 .add false (.t 15) (.c (.int .i64 1))) <|
 .o none (.mv 5 (.t 16)) .nil)))) <| .seq (.rg (.o none (.mv 4 (.c (.bool true))) .nil)) <| .ret⟩
theorem Qacc : Qf Tryz.prog Tryz.f88 = some c88 := by kernel_rfl
def Q5b : SFn := ⟨17, [.t 2], .seq (.rg (.o none (.box 1 2 30 (.t 0)) <|
 .o none (.mv 2 (.c (.bool false))) .nil)) <| .seq (.rg (.o none (.fld 3 1 (.t 1)) <|
 .o none (.ld 4 1 false (.t 3)) <|
 .o none (.call (some 5) false (.c (.fn 119 [] [])) [(.t 4)]) <|
 .o none (.mv 6 (.t 5)) <|
 .o (some (6, true)) (.fld 7 0 (.t 1)) <|
 .o (some (6, true)) (.ld 8 1 false (.t 7)) <|
 .o (some (6, true)) (.mv 9 (.t 8)) <|
 .o (some (9, true)) (.fld 10 1 (.t 1)) <|
 .o (some (9, true)) (.ld 11 1 false (.t 10)) <|
 .o (some (9, true)) (.len 12 (.t 11)) <|
 .o (some (9, true)) (.bin 13 .eql false (.t 12) (.c (.int .i64 0))) <|
 .o (some (6, true)) (.pick 14 (.t 9) (.t 13) (.c (.bool false))) <|
 .o (some (6, true)) (.un 15 .not (.t 14)) <|
 .o none (.pick 16 (.t 6) (.t 15) (.c (.bool false))) <|
 .o none (.mv 2 (.t 16)) .nil)) <| .ret⟩
theorem Q9g : Qf Tryz.prog Tryz.f118 = some Q5b := by kernel_rfl
def Q5c : SFn := ⟨15, [.cell 4 2 true], .seq (.rg (.o none (.alloc 4 2 30 (.agg [(.bool false), .nilS])) .nil)) <| .seq (.rg (.o none (.mv 5 (.t 1)) <|
 .o none (.call (some 6) false (.c (.fn 167 [] [])) [(.t 5)]) <|
 .o none (.mv 1 (.t 6)) .nil)) <| .seq (.rg (.o none (.mv 7 (.t 0)) <|
 .o none (.mv 8 (.t 7)) <|
 .o (some (8, true)) (.mv 9 (.t 1)) <|
 .o (some (8, true)) (.len 10 (.t 9)) <|
 .o (some (8, true)) (.bin 11 .gtr false (.t 10) (.c (.int .i64 0))) <|
 .o none (.pick 12 (.t 8) (.t 11) (.c (.bool false))) <|
 .o none (.mv 13 (.t 1)) <|
 .o none (.bld 14 [(.bool false), .nilS] [(0, 1, (.t 12)), (1, 1, (.t 13))]) <|
 .o none (.st 2 (.t 4) (.t 14)) .nil)) <| .ret⟩
theorem Q9h : Qf Tryz.prog Tryz.f170 = some Q5c := by kernel_rfl
def Q5d : SFn := ⟨8, [.cell 2 2 true], .seq (.rg (.o none (.box 1 2 30 (.t 0)) <|
 .o none (.alloc 2 2 30 (.agg [(.bool false), .nilS])) .nil)) <| .seq (.rg (.o none (.fld 3 0 (.t 1)) <|
 .o none (.ld 4 1 false (.t 3)) <|
 .o none (.fld 5 1 (.t 1)) <|
 .o none (.ld 6 1 false (.t 5)) <|
 .o none (.call (some 7) false (.c (.fn 170 [] [])) [(.t 4), (.t 6)]) <|
 .o none (.st 2 (.t 2) (.t 7)) .nil)) <| .ret⟩
theorem Q9i : Qf Tryz.prog Tryz.f169 = some Q5d := by kernel_rfl
def Q5e : SFn := ⟨17, [.cell 2 2 true], .seq (.rg (.o none (.alloc 2 2 30 (.agg [(.bool false), .nilS])) .nil)) <| .seq (.seq (.rg (.o none (.mv 3 (.t 0)) <|
 .o none (.bin 4 .lss false (.t 3) (.c (.int .i64 0))) .nil)) <| .cond (.t 4) (.seq (.rg (.o none (.mv 5 (.t 0)) <|
 .o none (.bin 6 .add false (.t 5) (.c (.int .i64 1))) <|
 .o none (.un 7 .neg (.t 6)) <|
 .o none (.conv 8 .u64 (.t 7)) <|
 .o none (.call (some 9) false (.c (.fn 106 [] [])) [(.t 8)]) <|
 .o none (.call (some 10) false (.c (.fn 106 [] [])) [(.c (.int .u64 1))]) <|
 .o none (.call (some 11) false (.c (.fn 171 [] [])) [(.t 9), (.t 10)]) <|
 .o none (.call (some 12) false (.c (.fn 170 [] [])) [(.c (.bool true)), (.t 11)]) <|
 .o none (.st 2 (.t 2) (.t 12)) .nil)) <| .ret) (.skip)) <| .seq (.rg (.o none (.mv 13 (.t 0)) <|
 .o none (.conv 14 .u64 (.t 13)) <|
 .o none (.call (some 15) false (.c (.fn 106 [] [])) [(.t 14)]) <|
 .o none (.call (some 16) false (.c (.fn 170 [] [])) [(.c (.bool false)), (.t 15)]) <|
 .o none (.st 2 (.t 2) (.t 16)) .nil)) <| .ret⟩
theorem Q9j : Qf Tryz.prog Tryz.f105 = some Q5e := by kernel_rfl
def Q5f : SFn := ⟨11, [.t 2], .seq (.rg (.o none (.box 1 2 30 (.t 0)) <|
 .o none (.mv 2 (.c (.int .i64 0))) .nil)) <| .seq (.rg (.o none (.ld 3 2 true (.t 1)) <|
 .o none (.call (some 4) false (.c (.fn 169 [] [])) [(.t 3)]) <|
 .o none (.st 2 (.t 1) (.t 4)) .nil)) <| .seq (.seq (.rg (.o none (.fld 5 1 (.t 1)) <|
 .o none (.ld 6 1 false (.t 5)) <|
 .o none (.len 7 (.t 6)) <|
 .o none (.bin 8 .eql false (.t 7) (.c (.int .i64 0))) .nil)) <| .cond (.t 8) (.seq (.rg (.o none (.mv 2 (.c (.int .i64 0))) .nil)) <| .ret) (.skip)) <| .seq (.seq (.rg (.o none (.fld 9 0 (.t 1)) <|
 .o none (.ld 10 1 false (.t 9)) .nil)) <| .cond (.t 10) (.seq (.rg (.o none (.mv 2 (.c (.int .i64 (-1)))) .nil)) <| .ret) (.skip)) <| .seq (.rg (.o none (.mv 2 (.c (.int .i64 1))) .nil)) <| .ret⟩
theorem Q9k : Qf Tryz.prog Tryz.f156 = some Q5f := by kernel_rfl
def Q5g : SFn := ⟨38, [.t 4], .seq (.rg (.o none (.box 2 2 30 (.t 0)) <|
 .o none (.box 3 2 30 (.t 1)) <|
 .o none (.mv 4 (.c (.int .i64 0))) .nil)) <| .seq (.rg (.o none (.ld 5 2 true (.t 2)) <|
 .o none (.ld 7 2 true (.t 3)) <|
 .o none (.call (some 6) true (.c (.fn 169 [] [])) [(.t 5)]) <|
 .o none (.call (some 8) true (.c (.fn 169 [] [])) [(.t 7)]) <|
 .o none (.st 2 (.t 2) (.t 6)) <|
 .o none (.st 2 (.t 3) (.t 8)) .nil)) <| .seq (.block 0 (.seq (.rg (.o none (.fld 10 0 (.t 2)) <|
 .o none (.ld 11 1 false (.t 10)) <|
 .o none (.mv 12 (.t 11)) <|
 .o (some (12, true)) (.fld 13 0 (.t 3)) <|
 .o (some (12, true)) (.ld 14 1 false (.t 13)) <|
 .o (some (12, true)) (.un 15 .not (.t 14)) <|
 .o none (.pick 16 (.t 12) (.t 15) (.c (.bool false))) <|
 .o none (.mv 9 (.t 16)) .nil)) <| .cond (.t 9) (.seq (.rg (.o none (.mv 4 (.c (.int .i64 (-1)))) .nil)) <| .ret) (.seq (.rg (.o none (.fld 18 0 (.t 3)) <|
 .o none (.ld 19 1 false (.t 18)) <|
 .o none (.mv 20 (.t 19)) <|
 .o (some (20, true)) (.fld 21 0 (.t 2)) <|
 .o (some (20, true)) (.ld 22 1 false (.t 21)) <|
 .o (some (20, true)) (.un 23 .not (.t 22)) <|
 .o none (.pick 24 (.t 20) (.t 23) (.c (.bool false))) <|
 .o none (.mv 17 (.t 24)) .nil)) <| .cond (.t 17) (.seq (.rg (.o none (.mv 4 (.c (.int .i64 1))) .nil)) <| .ret) (.seq (.rg (.o none (.fld 26 0 (.t 2)) <|
 .o none (.ld 27 1 false (.t 26)) <|
 .o none (.mv 25 (.t 27)) .nil)) <| .cond (.t 25) (.seq (.rg (.o none (.fld 28 1 (.t 3)) <|
 .o none (.ld 29 1 false (.t 28)) <|
 .o none (.fld 30 1 (.t 2)) <|
 .o none (.ld 31 1 false (.t 30)) <|
 .o none (.call (some 32) false (.c (.fn 224 [] [])) [(.t 29), (.t 31)]) <|
 .o none (.mv 4 (.t 32)) .nil)) <| .ret) (.skip))))) <| .seq (.rg (.o none (.fld 33 1 (.t 2)) <|
 .o none (.ld 34 1 false (.t 33)) <|
 .o none (.fld 35 1 (.t 3)) <|
 .o none (.ld 36 1 false (.t 35)) <|
 .o none (.call (some 37) false (.c (.fn 224 [] [])) [(.t 34), (.t 36)]) <|
 .o none (.mv 4 (.t 37)) .nil)) <| .ret⟩
theorem Q9l : Qf Tryz.prog Tryz.f201 = some Q5g := by kernel_rfl
def Q5h : SFn := ⟨9, [.cell 2 2 true], .seq (.rg (.o none (.box 1 2 30 (.t 0)) <|
 .o none (.alloc 2 2 30 (.agg [(.bool false), .nilS])) .nil)) <| .seq (.rg (.o none (.fld 3 0 (.t 1)) <|
 .o none (.ld 4 1 false (.t 3)) <|
 .o none (.un 5 .not (.t 4)) <|
 .o none (.fld 6 1 (.t 1)) <|
 .o none (.ld 7 1 false (.t 6)) <|
 .o none (.call (some 8) false (.c (.fn 170 [] [])) [(.t 5), (.t 7)]) <|
 .o none (.st 2 (.t 2) (.t 8)) .nil)) <| .ret⟩
theorem Q9m : Qf Tryz.prog Tryz.f158 = some Q5h := by kernel_rfl
def Q5i : SFn := ⟨48, [.cell 4 2 true], .seq (.rg (.o none (.box 2 2 30 (.t 0)) <|
 .o none (.box 3 2 30 (.t 1)) <|
 .o none (.alloc 4 2 30 (.agg [(.bool false), .nilS])) .nil)) <| .seq (.seq (.rg (.o none (.fld 9 0 (.t 2)) <|
 .o none (.ld 10 1 false (.t 9)) <|
 .o none (.fld 11 0 (.t 3)) <|
 .o none (.ld 12 1 false (.t 11)) <|
 .o none (.bin 13 .eql true (.t 10) (.t 12)) .nil)) <| .cond (.t 13) (.seq (.rg (.o none (.fld 14 0 (.t 2)) <|
 .o none (.ld 15 1 false (.t 14)) <|
 .o none (.fld 16 1 (.t 2)) <|
 .o none (.ld 17 1 false (.t 16)) <|
 .o none (.fld 18 1 (.t 3)) <|
 .o none (.ld 19 1 false (.t 18)) <|
 .o none (.call (some 20) true (.c (.fn 171 [] [])) [(.t 17), (.t 19)]) <|
 .o none (.call (some 21) true (.c (.fn 170 [] [])) [(.t 15), (.t 20)]) <|
 .o none (.st 2 (.t 4) (.t 21)) .nil)) <| .ret) (.skip)) <| .seq (.seq (.rg (.o none (.fld 23 1 (.t 2)) <|
 .o none (.ld 24 1 false (.t 23)) <|
 .o none (.fld 25 1 (.t 3)) <|
 .o none (.ld 26 1 false (.t 25)) <|
 .o none (.call (some 27) false (.c (.fn 208 [] [])) [(.t 24), (.t 26)]) <|
 .o none (.mv 22 (.t 27)) <|
 .o none (.ext 28 (.t 22) 0) <|
 .o none (.ext 29 (.t 22) 1) <|
 .o none (.mv 5 (.t 28)) <|
 .o none (.mv 6 (.t 29)) .nil)) <| .seq (.rg (.o none (.mv 30 (.t 6)) <|
 .o none (.bin 31 .eql false (.t 30) (.c (.int .i64 0))) .nil)) <| .cond (.t 31) (.seq (.rg (.o none (.fld 32 0 (.t 2)) <|
 .o none (.ld 33 1 false (.t 32)) <|
 .o none (.mv 34 (.t 5)) <|
 .o none (.call (some 35) false (.c (.fn 170 [] [])) [(.t 33), (.t 34)]) <|
 .o none (.st 2 (.t 4) (.t 35)) .nil)) <| .ret) (.skip)) <| .seq (.rg (.o none (.fld 37 1 (.t 3)) <|
 .o none (.ld 38 1 false (.t 37)) <|
 .o none (.fld 39 1 (.t 2)) <|
 .o none (.ld 40 1 false (.t 39)) <|
 .o none (.call (some 41) false (.c (.fn 208 [] [])) [(.t 38), (.t 40)]) <|
 .o none (.mv 36 (.t 41)) <|
 .o none (.ext 42 (.t 36) 0) <|
 .o none (.ext 43 (.t 36) 1) <|
 .o none (.mv 7 (.t 42)) <|
 .o none (.mv 8 (.t 43)) .nil)) <| .seq (.rg (.o none (.fld 44 0 (.t 3)) <|
 .o none (.ld 45 1 false (.t 44)) <|
 .o none (.mv 46 (.t 7)) <|
 .o none (.call (some 47) false (.c (.fn 170 [] [])) [(.t 45), (.t 46)]) <|
 .o none (.st 2 (.t 4) (.t 47)) .nil)) <| .ret⟩
theorem Q9n : Qf Tryz.prog Tryz.f166 = some Q5i := by kernel_rfl
def Q5j : SFn := ⟨16, [.cell 4 2 true], .seq (.rg (.o none (.box 2 2 30 (.t 0)) <|
 .o none (.box 3 2 30 (.t 1)) <|
 .o none (.alloc 4 2 30 (.agg [(.bool false), .nilS])) .nil)) <| .seq (.rg (.o none (.fld 5 0 (.t 2)) <|
 .o none (.ld 6 1 false (.t 5)) <|
 .o none (.fld 7 0 (.t 3)) <|
 .o none (.ld 8 1 false (.t 7)) <|
 .o none (.bin 9 .neq true (.t 6) (.t 8)) <|
 .o none (.fld 10 1 (.t 2)) <|
 .o none (.ld 11 1 false (.t 10)) <|
 .o none (.fld 12 1 (.t 3)) <|
 .o none (.ld 13 1 false (.t 12)) <|
 .o none (.call (some 14) true (.c (.fn 160 [] [])) [(.t 11), (.t 13)]) <|
 .o none (.call (some 15) true (.c (.fn 170 [] [])) [(.t 9), (.t 14)]) <|
 .o none (.st 2 (.t 4) (.t 15)) .nil)) <| .ret⟩
theorem Q9o : Qf Tryz.prog Tryz.f159 = some Q5j := by kernel_rfl
def c45 : SFn := ⟨27, [.t 2], .seq (.rg (.o none (.box 1 3 32 (.t 0)) <|
 .o none (.mv 2 (.c (.bool false))) .nil)) <| .seq (.rg (.o none (.fld 3 0 (.t 1)) <|
 .o none (.ld 4 2 true (.t 3)) <|
 .o none (.call (some 5) false (.c (.fn 118 [] [])) [(.t 4)]) <|
 .o none (.mv 6 (.t 5)) <|
 .o (some (6, true)) (.fld 7 2 (.t 1)) <|
 .o (some (6, true)) (.ld 8 1 false (.t 7)) <|
 .o (some (6, true)) (.call (some 9) false (.c (.fn 119 [] [])) [(.t 8)]) <|
 .o none (.pick 10 (.t 6) (.t 9) (.c (.bool false))) <|
 .o none (.mv 11 (.t 10)) <|
 .o (some (11, true)) (.fld 12 0 (.t 1)) <|
 .o (some (11, true)) (.fld 13 1 (.t 12)) <|
 .o (some (11, true)) (.ld 14 1 false (.t 13)) <|
 .o (some (11, true)) (.fld 15 2 (.t 1)) <|
 .o (some (11, true)) (.ld 16 1 false (.t 15)) <|
 .o (some (11, true)) (.call (some 17) false (.c (.fn 120 [] [])) [(.t 14), (.t 16)]) <|
 .o (some (11, true)) (.call (some 18) false (.c (.fn 106 [] [])) [(.c (.int .u64 1))]) <|
 .o (some (11, true)) (.call (some 19) false (.c (.fn 88 [] [])) [(.t 17), (.t 18)]) <|
 .o none (.pick 20 (.t 11) (.t 19) (.c (.bool false))) <|
 .o none (.mv 21 (.t 20)) <|
 .o (some (21, true)) (.fld 22 2 (.t 1)) <|
 .o (some (21, true)) (.ld 23 1 false (.t 22)) <|
 .o (some (21, true)) (.len 24 (.t 23)) <|
 .o (some (21, true)) (.bin 25 .gtr false (.t 24) (.c (.int .i64 0))) <|
 .o none (.pick 26 (.t 21) (.t 25) (.c (.bool false))) <|
 .o none (.mv 2 (.t 26)) .nil)) <| .ret⟩
theorem Qacd : Qf Tryz.prog Tryz.f45 = some c45 := by kernel_rfl
def Q5k : SFn := ⟨44, [.cell 4 3 true], .seq (.rg (.o none (.box 2 2 30 (.t 0)) <|
 .o none (.alloc 4 3 32 (.agg [(.bool false), .nilS, .nilS])) .nil)) <| .seq (.seq (.rg (.o none (.mv 12 (.t 1)) <|
 .o none (.call (some 13) false (.c (.fn 167 [] [])) [(.t 12)]) <|
 .o none (.len 14 (.t 13)) <|
 .o none (.bin 15 .eql false (.t 14) (.c (.int .i64 0))) .nil)) <| .cond (.t 15) (.seq (.rg (.o none (.call (some 16) false (.c (.fn 106 [] [])) [(.c (.int .u64 1))]) <|
 .o none (.bld 17 [(.bool false), .nilS, .nilS] [(2, 1, (.t 16))]) <|
 .o none (.st 3 (.t 4) (.t 17)) .nil)) <| .ret) (.skip)) <| .seq (.rg (.o none (.fld 18 1 (.t 2)) <|
 .o none (.ld 19 1 false (.t 18)) <|
 .o none (.mv 20 (.t 1)) <|
 .o none (.call (some 21) false (.c (.fn 120 [] [])) [(.t 19), (.t 20)]) <|
 .o none (.mv 5 (.t 21)) .nil)) <| .seq (.rg (.o none (.fld 23 1 (.t 2)) <|
 .o none (.ld 24 1 false (.t 23)) <|
 .o none (.mv 25 (.t 5)) <|
 .o none (.call (some 26) false (.c (.fn 168 [] [])) [(.t 24), (.t 25)]) <|
 .o none (.mv 22 (.t 26)) <|
 .o none (.ext 27 (.t 22) 0) <|
 .o none (.ext 28 (.t 22) 1) <|
 .o none (.ext 29 (.t 22) 2) <|
 .o none (.mv 6 (.t 27)) <|
 .o none (.mv 7 (.t 28)) <|
 .o none (.mv 8 (.t 29)) .nil)) <| .seq (.rg (.o none (.mv 31 (.t 1)) <|
 .o none (.mv 32 (.t 5)) <|
 .o none (.call (some 33) false (.c (.fn 168 [] [])) [(.t 31), (.t 32)]) <|
 .o none (.mv 30 (.t 33)) <|
 .o none (.ext 34 (.t 30) 0) <|
 .o none (.ext 35 (.t 30) 1) <|
 .o none (.ext 36 (.t 30) 2) <|
 .o none (.mv 9 (.t 34)) <|
 .o none (.mv 10 (.t 35)) <|
 .o none (.mv 11 (.t 36)) .nil)) <| .seq (.rg (.o none (.fld 37 0 (.t 2)) <|
 .o none (.ld 38 1 false (.t 37)) <|
 .o none (.mv 39 (.t 6)) <|
 .o none (.bld 40 [(.bool false), .nilS] [(0, 1, (.t 38)), (1, 1, (.t 39))]) <|
 .o none (.call (some 41) false (.c (.fn 169 [] [])) [(.t 40)]) <|
 .o none (.mv 42 (.t 9)) <|
 .o none (.bld 43 [(.bool false), .nilS, .nilS] [(0, 2, (.t 41)), (2, 1, (.t 42))]) <|
 .o none (.st 3 (.t 4) (.t 43)) .nil)) <| .ret⟩
theorem Q9p : Qf Tryz.prog Tryz.f104 = some Q5k := by kernel_rfl
def Q5l : SFn := ⟨8, [.cell 2 3 true], .seq (.rg (.o none (.box 1 3 32 (.t 0)) <|
 .o none (.alloc 2 3 32 (.agg [(.bool false), .nilS, .nilS])) .nil)) <| .seq (.rg (.o none (.fld 3 0 (.t 1)) <|
 .o none (.ld 4 2 true (.t 3)) <|
 .o none (.fld 5 2 (.t 1)) <|
 .o none (.ld 6 1 false (.t 5)) <|
 .o none (.call (some 7) false (.c (.fn 104 [] [])) [(.t 4), (.t 6)]) <|
 .o none (.st 3 (.t 2) (.t 7)) .nil)) <| .ret⟩
theorem Q9q : Qf Tryz.prog Tryz.f157 = some Q5l := by kernel_rfl
def Q5m : SFn := ⟨18, [.cell 4 3 true, .t 5], .seq (.rg (.o none (.box 2 2 30 (.t 0)) <|
 .o none (.box 3 2 30 (.t 1)) <|
 .o none (.alloc 4 3 32 (.agg [(.bool false), .nilS, .nilS])) <|
 .o none (.mv 5 (.c (.int .i64 0))) .nil)) <| .seq (.seq (.rg (.o none (.ld 6 2 true (.t 3)) <|
 .o none (.call (some 7) false (.c (.fn 156 [] [])) [(.t 6)]) <|
 .o none (.bin 8 .eql false (.t 7) (.c (.int .i64 0))) .nil)) <| .cond (.t 8) (.seq (.rg (.o none (.bld 9 [(.bool false), .nilS, .nilS] []) <|
 .o none (.st 3 (.t 4) (.t 9)) <|
 .o none (.mv 5 (.c (.int .i64 3))) .nil)) <| .ret) (.skip)) <| .seq (.seq (.rg (.o none (.fld 10 0 (.t 3)) <|
 .o none (.ld 11 1 false (.t 10)) .nil)) <| .cond (.t 11) (.rg (.o none (.ld 12 2 true (.t 2)) <|
 .o none (.call (some 13) false (.c (.fn 158 [] [])) [(.t 12)]) <|
 .o none (.st 2 (.t 2) (.t 13)) .nil)) (.skip)) <| .seq (.rg (.o none (.ld 14 2 true (.t 2)) <|
 .o none (.fld 15 1 (.t 3)) <|
 .o none (.ld 16 1 false (.t 15)) <|
 .o none (.call (some 17) false (.c (.fn 104 [] [])) [(.t 14), (.t 16)]) <|
 .o none (.st 3 (.t 4) (.t 17)) <|
 .o none (.mv 5 (.c (.int .i64 0))) .nil)) <| .ret⟩
theorem Q9r : Qf Tryz.prog Tryz.f147 = some Q5m := by kernel_rfl
def c34 : SFn := ⟨7, [.cell 2 3 true], .seq (.rg (.o none (.alloc 2 3 32 (.agg [(.bool false), .nilS, .nilS])) .nil)) <| .seq (.rg (.o none (.mv 3 (.t 0)) <|
 .o none (.call (some 4) false (.c (.fn 105 [] [])) [(.t 3)]) <|
 .o none (.call (some 5) false (.c (.fn 106 [] [])) [(.c (.int .u64 1))]) <|
 .o none (.call (some 6) false (.c (.fn 104 [] [])) [(.t 4), (.t 5)]) <|
 .o none (.st 3 (.t 2) (.t 6)) .nil)) <| .ret⟩
theorem Qace : Qf Tryz.prog Tryz.f34 = some c34 := by kernel_rfl
def Q5n : SFn := ⟨5, [.cell 2 2 true], .seq (.rg (.o none (.alloc 2 2 30 (.agg [(.bool false), .nilS])) .nil)) <| .seq (.rg (.o none (.mv 3 (.t 0)) <|
 .o none (.bld 4 [(.bool false), .nilS] [(1, 1, (.t 3))]) <|
 .o none (.st 2 (.t 2) (.t 4)) .nil)) <| .ret⟩
theorem Q9s : Qf Tryz.prog Tryz.f161 = some Q5n := by kernel_rfl
def Q5o : SFn := ⟨22, [.t 4], .seq (.rg (.o none (.box 2 3 32 (.t 0)) <|
 .o none (.box 3 3 32 (.t 1)) <|
 .o none (.mv 4 (.c (.int .i64 0))) .nil)) <| .seq (.rg (.o none (.ld 5 3 true (.t 2)) <|
 .o none (.ld 7 3 true (.t 3)) <|
 .o none (.call (some 6) true (.c (.fn 157 [] [])) [(.t 5)]) <|
 .o none (.call (some 8) true (.c (.fn 157 [] [])) [(.t 7)]) <|
 .o none (.st 3 (.t 2) (.t 6)) <|
 .o none (.st 3 (.t 3) (.t 8)) .nil)) <| .seq (.rg (.o none (.fld 9 0 (.t 2)) <|
 .o none (.ld 10 2 true (.t 9)) <|
 .o none (.fld 11 2 (.t 3)) <|
 .o none (.ld 12 1 false (.t 11)) <|
 .o none (.fld 15 0 (.t 3)) <|
 .o none (.ld 16 2 true (.t 15)) <|
 .o none (.fld 17 2 (.t 2)) <|
 .o none (.ld 18 1 false (.t 17)) <|
 .o none (.call (some 13) true (.c (.fn 161 [] [])) [(.t 12)]) <|
 .o none (.call (some 14) true (.c (.fn 159 [] [])) [(.t 10), (.t 13)]) <|
 .o none (.call (some 19) true (.c (.fn 161 [] [])) [(.t 18)]) <|
 .o none (.call (some 20) true (.c (.fn 159 [] [])) [(.t 16), (.t 19)]) <|
 .o none (.call (some 21) true (.c (.fn 201 [] [])) [(.t 14), (.t 20)]) <|
 .o none (.mv 4 (.t 21)) .nil)) <| .ret⟩
theorem Q9t : Qf Tryz.prog Tryz.f148 = some Q5o := by kernel_rfl
def c72 : SFn := ⟨9, [.t 4], .seq (.rg (.o none (.box 2 3 32 (.t 0)) <|
 .o none (.box 3 3 32 (.t 1)) <|
 .o none (.mv 4 (.c (.bool false))) .nil)) <| .seq (.rg (.o none (.ld 5 3 true (.t 2)) <|
 .o none (.ld 6 3 true (.t 3)) <|
 .o none (.call (some 7) false (.c (.fn 148 [] [])) [(.t 5), (.t 6)]) <|
 .o none (.bin 8 .eql false (.t 7) (.c (.int .i64 0))) <|
 .o none (.mv 4 (.t 8)) .nil)) <| .ret⟩
theorem Qacf : Qf Tryz.prog Tryz.f72 = some c72 := by kernel_rfl
def Q5p : SFn := ⟨28, [.cell 4 3 true], .seq (.rg (.o none (.box 2 3 32 (.t 0)) <|
 .o none (.box 3 3 32 (.t 1)) <|
 .o none (.alloc 4 3 32 (.agg [(.bool false), .nilS, .nilS])) .nil)) <| .seq (.rg (.o none (.ld 5 3 true (.t 2)) <|
 .o none (.ld 7 3 true (.t 3)) <|
 .o none (.call (some 6) true (.c (.fn 157 [] [])) [(.t 5)]) <|
 .o none (.call (some 8) true (.c (.fn 157 [] [])) [(.t 7)]) <|
 .o none (.st 3 (.t 2) (.t 6)) <|
 .o none (.st 3 (.t 3) (.t 8)) .nil)) <| .seq (.rg (.o none (.fld 9 0 (.t 2)) <|
 .o none (.ld 10 2 true (.t 9)) <|
 .o none (.fld 11 2 (.t 3)) <|
 .o none (.ld 12 1 false (.t 11)) <|
 .o none (.fld 15 0 (.t 3)) <|
 .o none (.ld 16 2 true (.t 15)) <|
 .o none (.fld 17 2 (.t 2)) <|
 .o none (.ld 18 1 false (.t 17)) <|
 .o none (.fld 22 2 (.t 2)) <|
 .o none (.ld 23 1 false (.t 22)) <|
 .o none (.fld 24 2 (.t 3)) <|
 .o none (.ld 25 1 false (.t 24)) <|
 .o none (.call (some 13) true (.c (.fn 161 [] [])) [(.t 12)]) <|
 .o none (.call (some 14) true (.c (.fn 159 [] [])) [(.t 10), (.t 13)]) <|
 .o none (.call (some 19) true (.c (.fn 161 [] [])) [(.t 18)]) <|
 .o none (.call (some 20) true (.c (.fn 159 [] [])) [(.t 16), (.t 19)]) <|
 .o none (.call (some 21) true (.c (.fn 166 [] [])) [(.t 14), (.t 20)]) <|
 .o none (.call (some 26) true (.c (.fn 160 [] [])) [(.t 23), (.t 25)]) <|
 .o none (.call (some 27) true (.c (.fn 104 [] [])) [(.t 21), (.t 26)]) <|
 .o none (.st 3 (.t 4) (.t 27)) .nil)) <| .ret⟩
theorem Q9u : Qf Tryz.prog Tryz.f101 = some Q5p := by kernel_rfl
def c83 : SFn := ⟨16, [.cell 4 3 true], .seq (.rg (.o none (.box 2 3 32 (.t 0)) <|
 .o none (.box 3 3 32 (.t 1)) <|
 .o none (.alloc 4 3 32 (.agg [(.bool false), .nilS, .nilS])) .nil)) <| .seq (.rg (.o none (.fld 5 0 (.t 2)) <|
 .o none (.ld 6 2 true (.t 5)) <|
 .o none (.fld 7 0 (.t 3)) <|
 .o none (.ld 8 2 true (.t 7)) <|
 .o none (.fld 10 2 (.t 2)) <|
 .o none (.ld 11 1 false (.t 10)) <|
 .o none (.fld 12 2 (.t 3)) <|
 .o none (.ld 13 1 false (.t 12)) <|
 .o none (.call (some 9) true (.c (.fn 159 [] [])) [(.t 6), (.t 8)]) <|
 .o none (.call (some 14) true (.c (.fn 160 [] [])) [(.t 11), (.t 13)]) <|
 .o none (.call (some 15) true (.c (.fn 104 [] [])) [(.t 9), (.t 14)]) <|
 .o none (.st 3 (.t 4) (.t 15)) .nil)) <| .ret⟩
theorem Qacg : Qf Tryz.prog Tryz.f83 = some c83 := by kernel_rfl
end Go.Proofs.YtmnkngmmfnncoaaGreat
namespace Go.Proofs.YtmnkngmmfnncoaaGreat
open Go Go.FW
set_option linter.unusedSimpArgs false
set_option linter.unusedVariables false
set_option maxRecDepth 100000
theorem Qbl {l : List Nat} (hv : Qh l) (hl : l.length < 2 ^ 42) : Qd Tryz.prog 167 [PV.nat l] (· = PV.num (val l)) := by
 have hcut := Qkd hv
 refine Qi Qm Tryz.func167 rfl Q84 (by simp [Q4z]) fun C hP => ?_; simp only [Q4z]
 simp +decide (disch := first | omega | rfl | (simp +decide only [go_sem, ↓reduceIte] <;> rfl) | fail) only [go_sem, ↓reduceIte]
 refine Qak (by repeat (first | exact Qx | exact Qp | exact Qq | exact Qr | exact Qt | apply Qo | apply Qw | apply Q3 | apply Q9 | apply Qaa | apply Qn | apply Qz)) [(3, 3), (7, 18)] [] (fun m J hp => m <= l.length /\ cut l m = dig (val l) /\ J 3 = .int .i64 m /\ hp = hp0) l.length ?_ ?_
 ·refine ⟨Nat.le_refl _, hcut, ?_⟩
  simp +decide (disch := first | omega | rfl | (simp +decide only [go_sem, ↓reduceIte] <;> rfl) | fail) only [go_sem, ↓reduceIte]
 rintro n J _ ⟨hn, hc, h3, rfl⟩
 simp +decide (disch := first | omega | rfl | (simp +decide only [go_sem, ↓reduceIte, h3] <;> rfl) | fail) only [go_sem, ↓reduceIte, h3]
 refine Qb3 (fun hg => ?_) (fun hg => ?_)
 ·obtain _ | n := n
  ·omega
  have e : ((n + 1 : Nat) : Int) - 1 = n := by omega
  simp only [cut] at hc
  simp +decide (disch := first | omega | rfl | (simp +decide only [go_sem, ↓reduceIte, h3, e] <;> rfl) | fail) only [go_sem, ↓reduceIte, h3, e]
  refine Qb (fun hz => ?_) (fun hz => ?_)
  ·rw [if_pos (by grind)] at hc
   simp +decide (disch := first | omega | rfl | (simp +decide only [go_sem, ↓reduceIte, h3, e] <;> rfl) | fail) only [go_sem, ↓reduceIte, h3, e]
   refine Qab n (by omega) ⟨by omega, hc, ?_⟩
   simp +decide (disch := first | omega | rfl | (simp +decide only [go_sem, ↓reduceIte] <;> rfl) | fail) only [go_sem, ↓reduceIte]
  ·rw [if_neg (by grind)] at hc
   have hlt : (l.take (n + 1)).length < 2 ^ 42 := by rw [List.length_take]; omega
   simp +decide (disch := first | omega | rfl | (simp +decide only [go_sem, ↓reduceIte, h3, e, Qe, List.contains_cons, List.contains_nil, List.flatMap_cons, List.flatMap_nil, List.append_nil] <;> rfl) | fail) only [go_sem, ↓reduceIte, h3, e, Qe, List.contains_cons, List.contains_nil, List.flatMap_cons, List.flatMap_nil, List.append_nil]
   exact Qc (by rw [List.take_of_length_le (by simp), hc]) rfl
 ·obtain rfl : n = 0 := by omega
  simp +decide (disch := first | omega | rfl | (simp +decide only [go_sem, ↓reduceIte, h3, List.take_zero, List.map_nil, List.length_nil] <;> rfl) | fail) only [go_sem, ↓reduceIte, h3, List.take_zero, List.map_nil, List.length_nil]
  rw [Qpa (ys := []) rfl (by omega) (by simp) (by simp)]
  simp +decide (disch := first | omega | rfl | (simp +decide only [go_sem, ↓reduceIte, Qe, List.contains_cons, List.contains_nil, List.flatMap_cons, List.flatMap_nil, List.append_nil] <;> rfl) | fail) only [go_sem, ↓reduceIte, Qe, List.contains_cons, List.contains_nil, List.flatMap_cons, List.flatMap_nil, List.append_nil]
  exact Qc (by show _ = PV.nat (dig (val l)); rw [<- hc]; rfl) rfl
theorem Qcu {n : Nat} (hn : n < 18446744073709551616) : Qd Tryz.prog 106 [.int .u64 n] (· = PV.num n) := by
 have hlen := Qdt hn
 unfold nl at hlen
 refine Qi Qm Tryz.func106 rfl Q85 (by simp [Q40]) fun C hP => ?_; simp only [Q40]
 simp +decide (disch := first | omega | rfl | (simp +decide only [go_sem, ↓reduceIte] <;> rfl) | fail) only [go_sem, ↓reduceIte]
 refine Qki 3 900 1 156 (by omega) (by simp +decide (disch := first | omega | rfl | (simp +decide only [go_sem, ↓reduceIte] <;> rfl) | fail) only [go_sem, ↓reduceIte]) ?_
 refine Qak (by repeat (first | exact Qx | exact Qp | exact Qq | exact Qr | exact Qt | apply Qo | apply Qw | apply Q3 | apply Q9 | apply Qaa | apply Qn | apply Qz)) [(0, 0), (3, 13)] [10, 11, 900] (fun m J hp => ∃ done : List Nat, dig n = done ++ dig m /\ m <= n /\ J 0 = .int .u64 m /\ J 3 = .ms 900 done.length /\ hp 900 = some ⟨1, 156, Qay done, false⟩) n ?_ ?_
 ·refine ⟨[], rfl, Nat.le_refl _, ?_⟩
  simp +decide (disch := first | omega | rfl | (simp +decide only [go_sem, ↓reduceIte] <;> rfl) | fail) only [go_sem, ↓reduceIte]
 rintro m J hp ⟨done, hd, hm, h0, h3, hh⟩
 rw [hd, List.length_append] at hlen
 simp +decide (disch := first | omega | rfl | (simp +decide only [go_sem, ↓reduceIte, h0, h3] <;> rfl) | fail) only [go_sem, ↓reduceIte, h0, h3]
 refine Qb (fun hz => ?_) (fun hz => ?_)
 ·have hne : m ≠ 0 := by omega
  have hd2 : dig n = (done ++ [m % 65536]) ++ dig (m / 65536) := by rw [hd, Qf3 hne]; simp
  simp +decide (disch := first | omega | rfl | (simp +decide only [go_sem, ↓reduceIte, h0, h3, Nat.mod_mod] <;> rfl) | fail) only [go_sem, ↓reduceIte, h0, h3, Nat.mod_mod]
  rw [Qc6 (f := fun (x : Nat) => .int .u16 x) (y := m % 65536) (xs := done) (ty' := 156) (fz := false) (by simp +decide (disch := first | omega | rfl | (simp +decide only [go_sem, ↓reduceIte, hh] <;> rfl) | fail) only [go_sem, ↓reduceIte, hh]) (by simp +decide (disch := first | omega | rfl | (simp +decide only [go_sem, ↓reduceIte] <;> rfl) | fail) only [go_sem, ↓reduceIte] <;> rfl) (by omega) rfl (by omega) (by omega)]
  simp +decide (disch := first | omega | rfl | (simp +decide only [go_sem, ↓reduceIte, h0, h3] <;> rfl) | fail) only [go_sem, ↓reduceIte, h0, h3]
  refine Qab (m / 65536) (by omega) ⟨done ++ [m % 65536], hd2, by omega, ?_⟩
  simp +decide (disch := first | omega | rfl | (simp +decide only [go_sem, ↓reduceIte, h0, h3] <;> rfl) | fail) only [go_sem, ↓reduceIte, h0, h3]
  simp
 ·obtain rfl : m = 0 := by omega
  rw [Qax, List.append_nil] at hd
  simp +decide (disch := first | omega | rfl | (simp +decide only [go_sem, ↓reduceIte, h3, hh, Qe, List.contains_cons, List.contains_nil, List.flatMap_cons, List.flatMap_nil, List.append_nil] <;> rfl) | fail) only [go_sem, ↓reduceIte, h3, hh, Qe, List.contains_cons, List.contains_nil, List.flatMap_cons, List.flatMap_nil, List.append_nil]
  exact Qc (by show _ = PV.nat (dig n); rw [hd, List.take_of_length_le (by simp)]) rfl
theorem Qbf {a : List Nat} {i : Nat} (ha : Qh a) (hl : a.length < 2 ^ 43) : Qd Tryz.prog 206 [PV.nat a, .int .i64 i] (· = .int .i64 (dg a i : Nat)) := by
 refine Qi Qm Tryz.func206 rfl Q87 (by simp [Q42]) fun C hP => ?_; simp only [Q42]
 simp +decide (disch := first | omega | rfl | (simp +decide only [go_sem, ↓reduceIte] <;> rfl) | fail) only [go_sem, ↓reduceIte]
 refine Qb (fun hi => ?_) (fun hi => ?_)
 ·have hi' : i < a.length := by omega
  have hai := Qag ha hi'
  have hg : dg a i = a[i] := Qa9 hi'
  simp +decide (disch := first | omega | rfl | (simp +decide only [go_sem, ↓reduceIte] <;> rfl) | fail) only [go_sem, ↓reduceIte]
  exact Qc (by rw [hg]) rfl
 ·simp +decide (disch := first | omega | rfl | (simp +decide only [go_sem, ↓reduceIte] <;> rfl) | fail) only [go_sem, ↓reduceIte]
  exact Qc (by rw [dg, Qba (by omega)]; rfl) rfl
theorem Qfs {a : List Nat} (ha : Qh a) (hl : a.length <= 4) : Qd Tryz.prog 209 [PV.nat a] (· = .int .u64 (val a : Nat)) := by
 have hlt : ∀ k, val (a.drop k) < 18446744073709551616 := fun k => by
  have h1 := Qeu (Qge ha k)
  have : 65536 ^ (a.drop k).length <= 65536 ^ 4 := Nat.pow_le_pow_right (by omega) (by rw [List.length_drop]; omega)
  omega
 refine Qi Qm Tryz.func209 rfl Q86 (by simp [Q41]) fun C hP => ?_; simp only [Q41]
 simp +decide (disch := first | omega | rfl | (simp +decide only [go_sem, ↓reduceIte] <;> rfl) | fail) only [go_sem, ↓reduceIte]
 refine Qak (by repeat (first | exact Qx | exact Qp | exact Qq | exact Qr | exact Qt | apply Qo | apply Qw | apply Q3 | apply Q9 | apply Qaa | apply Qn | apply Qz)) [(3, 4), (8, 19)] [] (fun k J hp => k <= a.length /\ J 3 = .int .u64 (val (a.drop k) : Nat) /\ J 4 = .int .i64 ((k : Int) - 1)) a.length ?_ ?_
 ·refine ⟨Nat.le_refl _, ?_⟩
  simp +decide (disch := first | omega | rfl | (simp +decide only [go_sem, ↓reduceIte] <;> rfl) | fail) only [go_sem, ↓reduceIte]
  simp [val]
 rintro k J h ⟨hk, h3, h4⟩
 simp +decide (disch := first | omega | rfl | (simp +decide only [go_sem, ↓reduceIte, h3, h4] <;> rfl) | fail) only [go_sem, ↓reduceIte, h3, h4]
 refine Qb (fun hg => ?_) (fun hg => ?_)
 ·obtain _ | n := k
  ·omega
  have hn : n < a.length := by omega
  have han := Qag ha hn
  have e : ((n + 1 : Nat) : Int) - 1 = n := by omega
  have hv := Qcf hn
  have h1 := hlt n
  generalize hxx : a[n] = x at *
  have e2 : val (a.drop (n + 1)) * 65536 + x = val (a.drop n) := by omega
  simp +decide (disch := first | omega | rfl | (simp +decide only [go_sem, ↓reduceIte, h3, h4, e, hxx, e2] <;> rfl) | fail) only [go_sem, ↓reduceIte, h3, h4, e, hxx, e2]
  refine Qab n (by omega) ⟨by omega, ?_⟩
  simp +decide (disch := first | omega | rfl | (simp +decide only [go_sem, ↓reduceIte] <;> rfl) | fail) only [go_sem, ↓reduceIte]
 ·obtain rfl : k = 0 := by omega
  simp +decide (disch := first | omega | rfl | (simp +decide only [go_sem, ↓reduceIte, h3, List.drop_zero] <;> rfl) | fail) only [go_sem, ↓reduceIte, h3, List.drop_zero]
  exact Qc rfl rfl
theorem Qhb {a b : List Nat} (ha : Qh a) (hb : Qh b) (hla : a.length < 2 ^ 42) (hlb : b.length < 2 ^ 42) : Qd Tryz.prog 224 [PV.nat a, PV.nat b] (· = .int .i64 (Qdg (val a) (val b))) := by
 refine Qi Qm Tryz.func224 rfl Q88 (by simp [Q43]) fun C hP => ?_; simp only [Q43]
 simp +decide (disch := first | omega | rfl | (simp +decide only [go_sem, ↓reduceIte, Qqr] <;> rfl) | fail) only [go_sem, ↓reduceIte, Qqr]
 refine Qak (by repeat (first | exact Qx | exact Qp | exact Qq | exact Qr | exact Qt | apply Qo | apply Qw | apply Q3 | apply Q9 | apply Qaa | apply Qn | apply Qz)) [(4, 5), (12, 29)] [] (fun k J hp => k <= max a.length b.length /\ val (a.drop k) = val (b.drop k) /\ J 5 = .int .i64 ((k : Int) - 1)) (max a.length b.length) ?_ ?_
 ·refine ⟨Nat.le_refl _, ?_, ?_⟩
  ·rw [List.drop_of_length_le (by omega), List.drop_of_length_le (by omega)]
  ·simp +decide (disch := first | omega | rfl | (simp +decide only [go_sem, ↓reduceIte] <;> rfl) | fail) only [go_sem, ↓reduceIte]
 rintro k J h ⟨hk, hv, h5⟩
 simp +decide (disch := first | omega | rfl | (simp +decide only [go_sem, ↓reduceIte, h5] <;> rfl) | fail) only [go_sem, ↓reduceIte, h5]
 refine Qb (fun hg => ?_) (fun hg => ?_)
 ·obtain _ | n := k
  ·omega
  have e : ((n + 1 : Nat) : Int) - 1 = n := by omega
  have e1 := Qf5 a n
  have e2 := Qf5 b n
  have d1 := Qlg ha n
  have d2 := Qlg hb n
  simp +decide (disch := first | omega | rfl | (simp +decide only [go_sem, ↓reduceIte, h5, e] <;> rfl) | fail) only [go_sem, ↓reduceIte, h5, e]
  refine Qa hP (Qbf ha (by omega)) rfl rfl rfl ?_
  simp +decide (disch := first | omega | rfl | (simp +decide only [go_sem, ↓reduceIte, h5, e] <;> rfl) | fail) only [go_sem, ↓reduceIte, h5, e]
  refine Qa hP (Qbf hb (by omega)) rfl rfl rfl ?_
  simp +decide (disch := first | omega | rfl | (simp +decide only [go_sem, ↓reduceIte, h5, e] <;> rfl) | fail) only [go_sem, ↓reduceIte, h5, e]
  refine Qb (fun hc => ?_) (fun hc => ?_)
  ·have hlt := Qny (a := a) (b := b) ha (i := n) (by omega)
   simp +decide (disch := first | omega | rfl | (simp +decide only [go_sem, ↓reduceIte] <;> rfl) | fail) only [go_sem, ↓reduceIte]
   exact Qc (by rw [Qqk hlt]) rfl
  simp +decide (disch := first | omega | rfl | (simp +decide only [go_sem, ↓reduceIte, h5, e] <;> rfl) | fail) only [go_sem, ↓reduceIte, h5, e]
  refine Qa hP (Qbf ha (by omega)) rfl rfl rfl ?_
  simp +decide (disch := first | omega | rfl | (simp +decide only [go_sem, ↓reduceIte, h5, e] <;> rfl) | fail) only [go_sem, ↓reduceIte, h5, e]
  refine Qa hP (Qbf hb (by omega)) rfl rfl rfl ?_
  simp +decide (disch := first | omega | rfl | (simp +decide only [go_sem, ↓reduceIte, h5, e] <;> rfl) | fail) only [go_sem, ↓reduceIte, h5, e]
  refine Qb (fun hc2 => ?_) (fun hc2 => ?_)
  ·have hlt := Qny (a := b) (b := a) hb (i := n) (by omega)
   simp +decide (disch := first | omega | rfl | (simp +decide only [go_sem, ↓reduceIte] <;> rfl) | fail) only [go_sem, ↓reduceIte]
   exact Qc (by rw [Qql hlt]) rfl
  ·simp +decide (disch := first | omega | rfl | (simp +decide only [go_sem, ↓reduceIte, h5, e] <;> rfl) | fail) only [go_sem, ↓reduceIte, h5, e]
   refine Qab n (by omega) ⟨by omega, by omega, ?_⟩
   simp +decide (disch := first | omega | rfl | (simp +decide only [go_sem, ↓reduceIte] <;> rfl) | fail) only [go_sem, ↓reduceIte]
 ·obtain rfl : k = 0 := by omega
  simp +decide (disch := first | omega | rfl | (simp +decide only [go_sem, ↓reduceIte] <;> rfl) | fail) only [go_sem, ↓reduceIte]
  exact Qc (by rw [Qvy (by simpa using hv)]) rfl
end Go.Proofs.YtmnkngmmfnncoaaGreat
namespace Go.Proofs.YtmnkngmmfnncoaaGreat
open Go Go.FW
set_option linter.unusedSimpArgs false
set_option linter.unusedVariables false
set_option maxRecDepth 100000
theorem Ql5 {a : List Nat} (ha : Qh a) (hl : a.length < 2 ^ 43) : Qd Tryz.prog 119 [PV.nat a] (· = .bool (decide (a.getLast? ≠ some 0))) := by
 refine Qi Qm Tryz.func119 rfl Q9f (by simp [Q5a]) fun C hP => ?_; simp only [Q5a]
 simp +decide (disch := first | omega | rfl | (simp +decide only [go_sem, ↓reduceIte] <;> rfl) | fail) only [go_sem, ↓reduceIte]
 refine Qa3 (fun h0 => ?_) (fun h0 => ?_)
 ·have : a = [] := List.length_eq_zero_iff.1 (by omega)
  subst this
  simp +decide (disch := first | omega | rfl | (simp +decide only [go_sem, ↓reduceIte] <;> rfl) | fail) only [go_sem, ↓reduceIte]
  exact Qc (by simp) rfl
 ·obtain ⟨k, hk⟩ : ∃ k, a.length = k + 1 := ⟨a.length - 1, by omega⟩
  have hlast := Q26 hk
  have e : ((k + 1 : Nat) : Int) - 1 = k := by omega
  generalize hy : a[k]'(by omega) = y at *
  simp +decide (disch := first | omega | rfl | (simp +decide only [go_sem, ↓reduceIte, hk, e, hy] <;> rfl) | fail) only [go_sem, ↓reduceIte, hk, e, hy]
  refine Qc (congrArg PV.bool ?_) rfl
  rw [hlast]
  exact decide_eq_decide.2 ⟨fun h h' => h (by injection h' with h'; rw [h']; rfl), fun h h' => h (by rw [show y = 0 by omega])⟩
theorem Quh {a b : List Nat} (hla : a.length < 2 ^ 43) (hlb : b.length < 2 ^ 43) : Qd Tryz.prog 88 [PV.nat a, PV.nat b] (· = .bool (decide (a = b))) := by
 refine Qi Qm Tryz.func88 rfl Qacc (by simp [c88]) fun C hP => ?_; simp only [c88]
 simp +decide (disch := first | omega | rfl | (simp +decide only [go_sem, ↓reduceIte] <;> rfl) | fail) only [go_sem, ↓reduceIte]
 refine Qb (fun h0 => ?_) (fun h0 => ?_)
 ·simp +decide (disch := first | omega | rfl | (simp +decide only [go_sem, ↓reduceIte] <;> rfl) | fail) only [go_sem, ↓reduceIte]
  exact Qc (congrArg PV.bool (by rw [decide_eq_false]; rintro rfl; exact h0 rfl)) rfl
 have hlen : a.length = b.length := by omega
 simp +decide (disch := first | omega | rfl | (simp +decide only [go_sem, ↓reduceIte] <;> rfl) | fail) only [go_sem, ↓reduceIte]
 refine Qak (by repeat (first | exact Qx | exact Qp | exact Qq | exact Qr | exact Qt | apply Qo | apply Qw | apply Q3 | apply Q9 | apply Qaa | apply Qn | apply Qz)) [(4, 5), (11, 25)] [] (fun n J hp => ∃ i, n = a.length - i /\ i <= a.length /\ a.take i = b.take i /\ J 5 = .int .i64 (i : Nat)) a.length ?_ ?_
 ·refine ⟨0, rfl, by omega, by simp, ?_⟩
  simp +decide (disch := first | omega | rfl | (simp +decide only [go_sem, ↓reduceIte] <;> rfl) | fail) only [go_sem, ↓reduceIte]
  rfl
 rintro _ J h ⟨i, rfl, hi, he, h5⟩
 simp +decide (disch := first | omega | rfl | (simp +decide only [go_sem, ↓reduceIte, h5] <;> rfl) | fail) only [go_sem, ↓reduceIte, h5]
 refine Qb (fun hg => ?_) (fun hg => ?_)
 ·have hi' : i < a.length := by omega
  have hib : i < b.length := by omega
  have ta := List.take_succ_eq_append_getElem hi'
  have tb := List.take_succ_eq_append_getElem hib
  have hne : a = b -> a[i] = b[i] := fun h => by subst h; rfl
  generalize hx : a[i] = x at *
  generalize hy : b[i] = y at *
  simp +decide (disch := first | omega | rfl | (simp +decide only [go_sem, ↓reduceIte, h5, hx, hy] <;> rfl) | fail) only [go_sem, ↓reduceIte, h5, hx, hy]
  refine Qb (fun hc => ?_) (fun hc => ?_)
  ·simp +decide (disch := first | omega | rfl | (simp +decide only [go_sem, ↓reduceIte] <;> rfl) | fail) only [go_sem, ↓reduceIte]
   exact Qc (congrArg PV.bool (by rw [decide_eq_false]; intro h; exact hc (by rw [hne h]))) rfl
  ·simp +decide (disch := first | omega | rfl | (simp +decide only [go_sem, ↓reduceIte, h5] <;> rfl) | fail) only [go_sem, ↓reduceIte, h5]
   refine Qab (a.length - (i + 1)) (by omega) ⟨i + 1, rfl, by omega, by rw [ta, tb, he, show x = y by omega], ?_⟩
   simp +decide (disch := first | omega | rfl | (simp +decide only [go_sem, ↓reduceIte] <;> rfl) | fail) only [go_sem, ↓reduceIte]
 ·obtain rfl : i = a.length := by omega
  rw [List.take_length, hlen, List.take_length] at he
  simp +decide (disch := first | omega | rfl | (simp +decide only [go_sem, ↓reduceIte] <;> rfl) | fail) only [go_sem, ↓reduceIte]
  exact Qc (congrArg PV.bool (by rw [he]; simp)) rfl
theorem Qn5 {a b : List Nat} (ha : Qh a) (hb : Qh b) (hla : a.length < 2 ^ 40) (hlb : b.length < 2 ^ 40) : Qd Tryz.prog 171 [PV.nat a, PV.nat b] (· = PV.num (val a + val b)) := by
 refine Qi Qm Tryz.func171 rfl Q89 (by simp [Q44]) fun C hP => ?_; simp only [Q44]
 simp +decide (disch := first | omega | rfl | (simp +decide only [go_sem, ↓reduceIte] <;> rfl) | fail) only [go_sem, ↓reduceIte]
 refine Qki 5 900 1 156 (by omega) (by simp +decide (disch := first | omega | rfl | (simp +decide only [go_sem, ↓reduceIte] <;> rfl) | fail) only [go_sem, ↓reduceIte]) ?_
 refine Qak (by repeat (first | exact Qx | exact Qp | exact Qq | exact Qr | exact Qt | apply Qo | apply Qw | apply Q3 | apply Q9 | apply Qaa | apply Qn | apply Qz)) [(5, 41)] [38, 39, 900] (fun m J hp => ∃ (i c : Nat) (out : List Nat), m = 2 * (max a.length b.length - i) + c /\ c <= 1 /\ i <= max a.length b.length + 1 /\ (i <= max a.length b.length ∨ c = 0) /\ out.length = i /\ Qh out /\ val out + 65536 ^ i * (c + val (a.drop i) + val (b.drop i)) = val a + val b /\ J 5 = .ms 900 out.length /\ J 6 = .int .i64 c /\ J 7 = .int .i64 i /\ hp 900 = some ⟨1, 156, Qay out, false⟩) (2 * max a.length b.length) ?_ ?_
 ·refine ⟨0, 0, [], rfl, by omega, by omega, by omega, rfl, Qch, by simp [val], ?_⟩
  simp +decide (disch := first | omega | rfl | (simp +decide only [go_sem, ↓reduceIte] <;> rfl) | fail) only [go_sem, ↓reduceIte]
  simp
 rintro _ J h ⟨i, c, out, rfl, hc, hi, hi2, hol, hout, hv, h5, h6, h7, hh⟩
 have e1 := Qf5 a i
 have e2 := Qf5 b i
 have d1 := Qlg ha i
 have d2 := Qlg hb i
 simp +decide (disch := first | omega | rfl | (simp +decide only [go_sem, ↓reduceIte, h5, h6, h7] <;> rfl) | fail) only [go_sem, ↓reduceIte, h5, h6, h7]
 refine Qa3 (fun hg => ?_) (fun hg => ?_)
 ·have hlt : i < max a.length b.length := by omega
  have hs1 : (dg a i + dg b i + c) / 65536 <= 1 := by omega
  have hstep : val (out ++ [(dg a i + dg b i + c) % 65536]) + 65536 ^ (i + 1) * ((dg a i + dg b i + c) / 65536 + val (a.drop (i + 1)) + val (b.drop (i + 1))) = val a + val b := by
   rw [Qli, hol, Nat.pow_succ, <- hv, e1, e2]
   have := Nat.div_add_mod (dg a i + dg b i + c) 65536
   generalize 65536 ^ i = P at *
   generalize (dg a i + dg b i + c) / 65536 = q at *
   generalize (dg a i + dg b i + c) % 65536 = r at *
   have e : c + (dg a i + 65536 * val (a.drop (i + 1))) + (dg b i + 65536 * val (b.drop (i + 1))) = r + 65536 * (q + val (a.drop (i + 1)) + val (b.drop (i + 1))) := by omega
   rw [e, Nat.mul_add P, Nat.mul_assoc]; omega
  simp +decide (disch := first | omega | rfl | (simp +decide only [go_sem, ↓reduceIte, h5, h6, h7] <;> rfl) | fail) only [go_sem, ↓reduceIte, h5, h6, h7]
  refine Qa hP (Qbf ha (by omega)) rfl rfl rfl ?_
  simp +decide (disch := first | omega | rfl | (simp +decide only [go_sem, ↓reduceIte, h5, h6, h7] <;> rfl) | fail) only [go_sem, ↓reduceIte, h5, h6, h7]
  refine Qa hP (Qbf hb (by omega)) rfl rfl rfl ?_
  simp +decide (disch := first | omega | rfl | (simp +decide only [go_sem, ↓reduceIte, h5, h6, h7, Nat.mod_mod] <;> rfl) | fail) only [go_sem, ↓reduceIte, h5, h6, h7, Nat.mod_mod]
  rw [Qc6 (f := fun (x : Nat) => .int .u16 x) (y := (dg a i + dg b i + c) % 65536) (xs := out) (ty' := 156) (fz := false) (by simp +decide (disch := first | omega | rfl | (simp +decide only [go_sem, ↓reduceIte, hh] <;> rfl) | fail) only [go_sem, ↓reduceIte, hh]) (by simp +decide (disch := first | omega | rfl | (simp +decide only [go_sem, ↓reduceIte] <;> rfl) | fail) only [go_sem, ↓reduceIte] <;> rfl) (by omega) rfl (by omega) (by omega)]
  simp +decide (disch := first | omega | rfl | (simp +decide only [go_sem, ↓reduceIte, h5, h6, h7] <;> rfl) | fail) only [go_sem, ↓reduceIte, h5, h6, h7]
  refine Qab (2 * (max a.length b.length - (i + 1)) + (dg a i + dg b i + c) / 65536) ?_ ⟨i + 1, (dg a i + dg b i + c) / 65536, out ++ [(dg a i + dg b i + c) % 65536], rfl, hs1, by omega, ?_, by simp [hol], ?_, hstep, ?_⟩
  ·by_cases hlt : i < max a.length b.length
   ·omega
   ·have z1 : dg a i = 0 := by rw [dg, Qba (by omega)]
    have z2 : dg b i = 0 := by rw [dg, Qba (by omega)]
    rw [z1, z2]; omega
  ·by_cases hlt : i < max a.length b.length
   ·omega
   ·have z1 : dg a i = 0 := by rw [dg, Qba (by omega)]
    have z2 : dg b i = 0 := by rw [dg, Qba (by omega)]
    rw [z1, z2]; omega
  ·rw [Qbk]; exact ⟨hout, by intro z hz; simp at hz; omega⟩
  ·simp +decide (disch := first | omega | rfl | (simp +decide only [go_sem, ↓reduceIte] <;> rfl) | fail) only [go_sem, ↓reduceIte]
   simp
 simp +decide (disch := first | omega | rfl | (simp +decide only [go_sem, ↓reduceIte, h5, h6, h7] <;> rfl) | fail) only [go_sem, ↓reduceIte, h5, h6, h7]
 refine Qa3 (fun hg2 => ?_) (fun hg2 => ?_)
 ·have hlt : i < max a.length b.length := by omega
  have hs1 : (dg a i + dg b i + c) / 65536 <= 1 := by omega
  have hstep : val (out ++ [(dg a i + dg b i + c) % 65536]) + 65536 ^ (i + 1) * ((dg a i + dg b i + c) / 65536 + val (a.drop (i + 1)) + val (b.drop (i + 1))) = val a + val b := by
   rw [Qli, hol, Nat.pow_succ, <- hv, e1, e2]
   have := Nat.div_add_mod (dg a i + dg b i + c) 65536
   generalize 65536 ^ i = P at *
   generalize (dg a i + dg b i + c) / 65536 = q at *
   generalize (dg a i + dg b i + c) % 65536 = r at *
   have e : c + (dg a i + 65536 * val (a.drop (i + 1))) + (dg b i + 65536 * val (b.drop (i + 1))) = r + 65536 * (q + val (a.drop (i + 1)) + val (b.drop (i + 1))) := by omega
   rw [e, Nat.mul_add P, Nat.mul_assoc]; omega
  simp +decide (disch := first | omega | rfl | (simp +decide only [go_sem, ↓reduceIte, h5, h6, h7] <;> rfl) | fail) only [go_sem, ↓reduceIte, h5, h6, h7]
  refine Qa hP (Qbf ha (by omega)) rfl rfl rfl ?_
  simp +decide (disch := first | omega | rfl | (simp +decide only [go_sem, ↓reduceIte, h5, h6, h7] <;> rfl) | fail) only [go_sem, ↓reduceIte, h5, h6, h7]
  refine Qa hP (Qbf hb (by omega)) rfl rfl rfl ?_
  simp +decide (disch := first | omega | rfl | (simp +decide only [go_sem, ↓reduceIte, h5, h6, h7, Nat.mod_mod] <;> rfl) | fail) only [go_sem, ↓reduceIte, h5, h6, h7, Nat.mod_mod]
  rw [Qc6 (f := fun (x : Nat) => .int .u16 x) (y := (dg a i + dg b i + c) % 65536) (xs := out) (ty' := 156) (fz := false) (by simp +decide (disch := first | omega | rfl | (simp +decide only [go_sem, ↓reduceIte, hh] <;> rfl) | fail) only [go_sem, ↓reduceIte, hh]) (by simp +decide (disch := first | omega | rfl | (simp +decide only [go_sem, ↓reduceIte] <;> rfl) | fail) only [go_sem, ↓reduceIte] <;> rfl) (by omega) rfl (by omega) (by omega)]
  simp +decide (disch := first | omega | rfl | (simp +decide only [go_sem, ↓reduceIte, h5, h6, h7] <;> rfl) | fail) only [go_sem, ↓reduceIte, h5, h6, h7]
  refine Qab (2 * (max a.length b.length - (i + 1)) + (dg a i + dg b i + c) / 65536) ?_ ⟨i + 1, (dg a i + dg b i + c) / 65536, out ++ [(dg a i + dg b i + c) % 65536], rfl, hs1, by omega, ?_, by simp [hol], ?_, hstep, ?_⟩
  ·by_cases hlt : i < max a.length b.length
   ·omega
   ·have z1 : dg a i = 0 := by rw [dg, Qba (by omega)]
    have z2 : dg b i = 0 := by rw [dg, Qba (by omega)]
    rw [z1, z2]; omega
  ·by_cases hlt : i < max a.length b.length
   ·omega
   ·have z1 : dg a i = 0 := by rw [dg, Qba (by omega)]
    have z2 : dg b i = 0 := by rw [dg, Qba (by omega)]
    rw [z1, z2]; omega
  ·rw [Qbk]; exact ⟨hout, by intro z hz; simp at hz; omega⟩
  ·simp +decide (disch := first | omega | rfl | (simp +decide only [go_sem, ↓reduceIte] <;> rfl) | fail) only [go_sem, ↓reduceIte]
   simp
 simp +decide (disch := first | omega | rfl | (simp +decide only [go_sem, ↓reduceIte, h5, h6, h7] <;> rfl) | fail) only [go_sem, ↓reduceIte, h5, h6, h7]
 refine Qb (fun hg3 => ?_) (fun hg3 => ?_)
 ·have hib : i <= max a.length b.length := by omega
  have hs1 : (dg a i + dg b i + c) / 65536 <= 1 := by omega
  have hstep : val (out ++ [(dg a i + dg b i + c) % 65536]) + 65536 ^ (i + 1) * ((dg a i + dg b i + c) / 65536 + val (a.drop (i + 1)) + val (b.drop (i + 1))) = val a + val b := by
   rw [Qli, hol, Nat.pow_succ, <- hv, e1, e2]
   have := Nat.div_add_mod (dg a i + dg b i + c) 65536
   generalize 65536 ^ i = P at *
   generalize (dg a i + dg b i + c) / 65536 = q at *
   generalize (dg a i + dg b i + c) % 65536 = r at *
   have e : c + (dg a i + 65536 * val (a.drop (i + 1))) + (dg b i + 65536 * val (b.drop (i + 1))) = r + 65536 * (q + val (a.drop (i + 1)) + val (b.drop (i + 1))) := by omega
   rw [e, Nat.mul_add P, Nat.mul_assoc]; omega
  simp +decide (disch := first | omega | rfl | (simp +decide only [go_sem, ↓reduceIte, h5, h6, h7] <;> rfl) | fail) only [go_sem, ↓reduceIte, h5, h6, h7]
  refine Qa hP (Qbf ha (by omega)) rfl rfl rfl ?_
  simp +decide (disch := first | omega | rfl | (simp +decide only [go_sem, ↓reduceIte, h5, h6, h7] <;> rfl) | fail) only [go_sem, ↓reduceIte, h5, h6, h7]
  refine Qa hP (Qbf hb (by omega)) rfl rfl rfl ?_
  simp +decide (disch := first | omega | rfl | (simp +decide only [go_sem, ↓reduceIte, h5, h6, h7, Nat.mod_mod] <;> rfl) | fail) only [go_sem, ↓reduceIte, h5, h6, h7, Nat.mod_mod]
  rw [Qc6 (f := fun (x : Nat) => .int .u16 x) (y := (dg a i + dg b i + c) % 65536) (xs := out) (ty' := 156) (fz := false) (by simp +decide (disch := first | omega | rfl | (simp +decide only [go_sem, ↓reduceIte, hh] <;> rfl) | fail) only [go_sem, ↓reduceIte, hh]) (by simp +decide (disch := first | omega | rfl | (simp +decide only [go_sem, ↓reduceIte] <;> rfl) | fail) only [go_sem, ↓reduceIte] <;> rfl) (by omega) rfl (by omega) (by omega)]
  simp +decide (disch := first | omega | rfl | (simp +decide only [go_sem, ↓reduceIte, h5, h6, h7] <;> rfl) | fail) only [go_sem, ↓reduceIte, h5, h6, h7]
  refine Qab (2 * (max a.length b.length - (i + 1)) + (dg a i + dg b i + c) / 65536) ?_ ⟨i + 1, (dg a i + dg b i + c) / 65536, out ++ [(dg a i + dg b i + c) % 65536], rfl, hs1, by omega, ?_, by simp [hol], ?_, hstep, ?_⟩
  ·by_cases hlt : i < max a.length b.length
   ·omega
   ·have z1 : dg a i = 0 := by rw [dg, Qba (by omega)]
    have z2 : dg b i = 0 := by rw [dg, Qba (by omega)]
    rw [z1, z2]; omega
  ·by_cases hlt : i < max a.length b.length
   ·omega
   ·have z1 : dg a i = 0 := by rw [dg, Qba (by omega)]
    have z2 : dg b i = 0 := by rw [dg, Qba (by omega)]
    rw [z1, z2]; omega
  ·rw [Qbk]; exact ⟨hout, by intro z hz; simp at hz; omega⟩
  ·simp +decide (disch := first | omega | rfl | (simp +decide only [go_sem, ↓reduceIte] <;> rfl) | fail) only [go_sem, ↓reduceIte]
   simp
 ·obtain rfl : c = 0 := by omega
  rw [List.drop_of_length_le (by omega), List.drop_of_length_le (by omega)] at hv
  simp only [val, Nat.add_zero, Nat.mul_zero] at hv
  simp +decide (disch := first | omega | rfl | (simp +decide only [go_sem, ↓reduceIte, h5, hh] <;> rfl) | fail) only [go_sem, ↓reduceIte, h5, hh]
  refine Qfa hP (Qbl hout (by omega)) (by simp +decide (disch := first | omega | rfl | (simp +decide only [go_sem, ↓reduceIte, hh, Qe, List.contains_cons, List.contains_nil, List.flatMap_cons, List.flatMap_nil, List.append_nil] <;> rfl) | fail) only [go_sem, ↓reduceIte, hh, Qe, List.contains_cons, List.contains_nil, List.flatMap_cons, List.flatMap_nil, List.append_nil]; simp [List.take_of_length_le]) rfl fun hp' => ?_
  simp +decide (disch := first | omega | rfl | (simp +decide only [go_sem, ↓reduceIte] <;> rfl) | fail) only [go_sem, ↓reduceIte]
  exact Qc (by rw [hv]) rfl
end Go.Proofs.YtmnkngmmfnncoaaGreat
namespace Go.Proofs.YtmnkngmmfnncoaaGreat
open Go Go.FW
set_option linter.unusedSimpArgs false
set_option linter.unusedVariables false
set_option maxRecDepth 100000
theorem Qjz {a b : List Nat} (ha : Qh a) (hb : Qh b) (hla : a.length < 2 ^ 40) (hlb : b.length < 2 ^ 40) : Qd Tryz.prog 208 [PV.nat a, PV.nat b] (· = if val a < val b then .tup [PV.num 0, .int .i64 2] else .tup [PV.num (val a - val b), .int .i64 0]) := by
 refine Qi Qm Tryz.func208 rfl Q9a (by simp [Q45]) fun C hP => ?_; simp only [Q45]
 simp +decide (disch := first | omega | rfl | (simp +decide only [go_sem, ↓reduceIte] <;> rfl) | fail) only [go_sem, ↓reduceIte]
 refine Qa hP (Qhb ha hb (by omega) (by omega)) rfl rfl rfl ?_
 simp +decide (disch := first | omega | rfl | (simp +decide only [go_sem, ↓reduceIte] <;> rfl) | fail) only [go_sem, ↓reduceIte]
 refine Qb (fun hc => ?_) (fun hc => ?_)
 ·rw [if_pos (Qld.1 hc)]
  simp +decide (disch := first | omega | rfl | (simp +decide only [go_sem, ↓reduceIte] <;> rfl) | fail) only [go_sem, ↓reduceIte]
  exact Qcc rfl rfl rfl Qgz (Qv _)
 have hge : ¬ val a < val b := fun h => hc (Qld.2 h)
 rw [if_neg hge]
 simp +decide (disch := first | omega | rfl | (simp +decide only [go_sem, ↓reduceIte] <;> rfl) | fail) only [go_sem, ↓reduceIte]
 refine Qki 6 900 1 156 (by omega) (by simp +decide (disch := first | omega | rfl | (simp +decide only [go_sem, ↓reduceIte] <;> rfl) | fail) only [go_sem, ↓reduceIte]) ?_
 refine Qak (by repeat (first | exact Qx | exact Qp | exact Qq | exact Qr | exact Qt | apply Qo | apply Qw | apply Q3 | apply Q9 | apply Qaa | apply Qn | apply Qz)) [(6, 9), (14, 37)] [36, 37, 900] (fun m J hp => ∃ (i c : Nat) (out : List Nat), m = a.length - i /\ c <= 1 /\ i <= a.length /\ out.length = i /\ Qh out /\ val (a.take i) + 65536 ^ i * c = val out + val (b.take i) /\ J 6 = .ms 900 out.length /\ J 7 = .int .i64 c /\ J 8 = .int .i64 i /\ hp 900 = some ⟨1, 156, Qay out, false⟩) a.length ?_ ?_
 ·refine ⟨0, 0, [], rfl, by omega, by omega, rfl, Qch, by simp [val], ?_⟩
  simp +decide (disch := first | omega | rfl | (simp +decide only [go_sem, ↓reduceIte] <;> rfl) | fail) only [go_sem, ↓reduceIte]
  simp
 rintro _ J h ⟨i, c, out, rfl, hc1, hi, hol, hout, hv, h6, h7, h8, hh⟩
 simp +decide (disch := first | omega | rfl | (simp +decide only [go_sem, ↓reduceIte, h6, h7, h8] <;> rfl) | fail) only [go_sem, ↓reduceIte, h6, h7, h8]
 refine Qb (fun hg => ?_) (fun hg => ?_)
 ·have hi' : i < a.length := by omega
  have e1 := Qkm a i
  have e2 := Qkm b i
  have d1 := Qlg ha i
  have d2 := Qlg hb i
  simp +decide (disch := first | omega | rfl | (simp +decide only [go_sem, ↓reduceIte, h6, h7, h8] <;> rfl) | fail) only [go_sem, ↓reduceIte, h6, h7, h8]
  refine Qa hP (Qbf ha (by omega)) rfl rfl rfl ?_
  simp +decide (disch := first | omega | rfl | (simp +decide only [go_sem, ↓reduceIte, h6, h7, h8] <;> rfl) | fail) only [go_sem, ↓reduceIte, h6, h7, h8]
  refine Qa hP (Qbf hb (by omega)) rfl rfl rfl ?_
  simp +decide (disch := first | omega | rfl | (simp +decide only [go_sem, ↓reduceIte, h6, h7, h8] <;> rfl) | fail) only [go_sem, ↓reduceIte, h6, h7, h8]
  have step : ∀ (d c' : Nat), d < 65536 -> c' <= 1 -> dg a i + 65536 * c' = d + dg b i + c -> val (a.take (i + 1)) + 65536 ^ (i + 1) * c' = val (out ++ [d]) + val (b.take (i + 1)) := fun d c' _ _ h3 => by
   rw [Qli, hol, e1, e2, Nat.pow_succ]
   generalize 65536 ^ i = P at *
   have : P * (dg a i + 65536 * c') = P * (d + dg b i + c) := by rw [h3]
   rw [Nat.mul_add, <- Nat.mul_assoc, Nat.mul_add, Nat.mul_add] at this
   omega
  refine Qb (fun hd => ?_) (fun hd => ?_)
  ·obtain ⟨d, hd1⟩ : ∃ d : Nat, (dg a i : Int) - (dg b i : Int) - (c : Int) + 65536 = d := ⟨((dg a i : Int) - (dg b i : Int) - (c : Int) + 65536).toNat, by omega⟩
   have hst := step d 1 (by omega) (by omega) (by omega)
   simp +decide (disch := first | omega | rfl | (simp +decide only [go_sem, ↓reduceIte, h6, h7, h8, hd1] <;> rfl) | fail) only [go_sem, ↓reduceIte, h6, h7, h8, hd1]
   rw [Qc6 (f := fun (x : Nat) => .int .u16 x) (y := d) (xs := out) (ty' := 156) (fz := false) (by simp +decide (disch := first | omega | rfl | (simp +decide only [go_sem, ↓reduceIte, hh] <;> rfl) | fail) only [go_sem, ↓reduceIte, hh]) (by simp +decide (disch := first | omega | rfl | (simp +decide only [go_sem, ↓reduceIte, Nat.mod_eq_of_lt (by omega : d < 65536)] <;> rfl) | fail) only [go_sem, ↓reduceIte, Nat.mod_eq_of_lt (by omega : d < 65536)]) (by omega) rfl (by omega) (by omega)]
   simp +decide (disch := first | omega | rfl | (simp +decide only [go_sem, ↓reduceIte, h6, h7, h8] <;> rfl) | fail) only [go_sem, ↓reduceIte, h6, h7, h8]
   refine Qab (a.length - (i + 1)) (by omega) ⟨i + 1, 1, out ++ [d], rfl, by omega, by omega, by simp [hol], ?_, hst, ?_⟩
   ·rw [Qbk]; exact ⟨hout, by intro z hz; simp at hz; omega⟩
   ·simp +decide (disch := first | omega | rfl | (simp +decide only [go_sem, ↓reduceIte] <;> rfl) | fail) only [go_sem, ↓reduceIte]
    simp
  ·obtain ⟨d, hd1⟩ : ∃ d : Nat, (dg a i : Int) - (dg b i : Int) - (c : Int) = d := ⟨((dg a i : Int) - (dg b i : Int) - (c : Int)).toNat, by omega⟩
   have hst := step d 0 (by omega) (by omega) (by omega)
   simp +decide (disch := first | omega | rfl | (simp +decide only [go_sem, ↓reduceIte, h6, h7, h8, hd1] <;> rfl) | fail) only [go_sem, ↓reduceIte, h6, h7, h8, hd1]
   rw [Qc6 (f := fun (x : Nat) => .int .u16 x) (y := d) (xs := out) (ty' := 156) (fz := false) (by simp +decide (disch := first | omega | rfl | (simp +decide only [go_sem, ↓reduceIte, hh] <;> rfl) | fail) only [go_sem, ↓reduceIte, hh]) (by simp +decide (disch := first | omega | rfl | (simp +decide only [go_sem, ↓reduceIte, Nat.mod_eq_of_lt (by omega : d < 65536)] <;> rfl) | fail) only [go_sem, ↓reduceIte, Nat.mod_eq_of_lt (by omega : d < 65536)]) (by omega) rfl (by omega) (by omega)]
   simp +decide (disch := first | omega | rfl | (simp +decide only [go_sem, ↓reduceIte, h6, h7, h8] <;> rfl) | fail) only [go_sem, ↓reduceIte, h6, h7, h8]
   refine Qab (a.length - (i + 1)) (by omega) ⟨i + 1, 0, out ++ [d], rfl, by omega, by omega, by simp [hol], ?_, hst, ?_⟩
   ·rw [Qbk]; exact ⟨hout, by intro z hz; simp at hz; omega⟩
   ·simp +decide (disch := first | omega | rfl | (simp +decide only [go_sem, ↓reduceIte] <;> rfl) | fail) only [go_sem, ↓reduceIte]
    simp
 ·obtain rfl : i = a.length := by omega
  have hbz : val (b.drop a.length) = 0 := Qg8 (by have := Qeu ha; omega)
  have hbs := Qlh b a.length
  rw [hbz, Nat.mul_zero, Nat.add_zero] at hbs
  rw [List.take_length, <- hbs] at hv
  have hvo := Qeu hout
  rw [hol] at hvo
  have hc0 : c = 0 := by
   match c, hc1 with
   | 0, _ => rfl
   | 1, _ => exfalso; have := Qeu ha; omega
  subst hc0
  simp +decide (disch := first | omega | rfl | (simp +decide only [go_sem, ↓reduceIte, h6, hh] <;> rfl) | fail) only [go_sem, ↓reduceIte, h6, hh]
  refine Qfa hP (Qbl hout (by omega)) (by simp +decide (disch := first | omega | rfl | (simp +decide only [go_sem, ↓reduceIte, hh, Qe, List.contains_cons, List.contains_nil, List.flatMap_cons, List.flatMap_nil, List.append_nil] <;> rfl) | fail) only [go_sem, ↓reduceIte, hh, Qe, List.contains_cons, List.contains_nil, List.flatMap_cons, List.flatMap_nil, List.append_nil]; simp [List.take_of_length_le]) rfl fun hp' => ?_
  simp +decide (disch := first | omega | rfl | (simp +decide only [go_sem, ↓reduceIte] <;> rfl) | fail) only [go_sem, ↓reduceIte]
  exact Qcc rfl rfl rfl (Qfz (congrArg PV.num (by omega))) (Qv _)
theorem Qj0 {a b : List Nat} (ha : Qh a) (hb : Qh b) (hla : a.length < 2 ^ 40) (hlb : b.length < 2 ^ 40) : Qd Tryz.prog 160 [PV.nat a, PV.nat b] (· = PV.num (val a * val b)) := by
 refine Qi Qm Tryz.func160 rfl Q9b (by simp [Q46]) fun C hP => ?_; simp only [Q46]
 simp +decide (disch := first | omega | rfl | (simp +decide only [go_sem, ↓reduceIte] <;> rfl) | fail) only [go_sem, ↓reduceIte]
 refine Qak (by repeat (first | exact Qx | exact Qp | exact Qq | exact Qr | exact Qt | apply Qo | apply Qw | apply Q3 | apply Q9 | apply Qaa | apply Qn | apply Qz)) [(6, 9), (17, 62)] [] (fun m J hp => ∃ (i : Nat) (L : List Nat), m = a.length - i /\ i <= a.length /\ L.length = a.length + b.length + 1 /\ Qh L /\ val L = val (a.take i) * val b /\ J 6 = .int .i64 i /\ hp = Qk hp0 16 ⟨1, 156, Qay L, false⟩) a.length ?_ ?_
 ·refine ⟨0, List.replicate (a.length + b.length + 1) 0, rfl, by omega, by simp, ?_, by simp [val, Qrb], ?_⟩
  ·intro z hz; rw [List.eq_of_mem_replicate hz]; omega
  ·simp +decide (disch := first | omega | rfl | (simp +decide only [go_sem, ↓reduceIte] <;> rfl) | fail) only [go_sem, ↓reduceIte]
   simp
 rintro _ J _ ⟨i, L, rfl, hi, hLl, hL, hv, h6, rfl⟩
 simp +decide (disch := first | omega | rfl | (simp +decide only [go_sem, ↓reduceIte, h6] <;> rfl) | fail) only [go_sem, ↓reduceIte, h6]
 refine Qb (fun hg => ?_) (fun hg => ?_)
 ·have hi' : i < a.length := by omega
  have hai := Qag ha hi'
  have hts := Qev hi'
  have hz0 : dg L (i + b.length) = 0 := by
   apply Qxb
   apply Qg8
   rw [hv, Nat.pow_add]
   have h1 := Qdl ha i (by omega)
   have h2 := Qeu hb
   exact Nat.mul_lt_mul'' h1 h2
  generalize hxx : a[i] = ai at *
  simp +decide (disch := first | omega | rfl | (simp +decide only [go_sem, ↓reduceIte, h6, hxx] <;> rfl) | fail) only [go_sem, ↓reduceIte, h6, hxx]
  refine Qak (by repeat (first | exact Qx | exact Qp | exact Qq | exact Qr | exact Qt | apply Qo | apply Qw | apply Q3 | apply Q9 | apply Qaa | apply Qn | apply Qz)) [(7, 9), (23, 62)] [] (fun m J hp => ∃ (k c : Nat) (M : List Nat), m = b.length + 1 - k /\ k <= b.length + 1 /\ (k <= b.length ∨ c = 0) /\ c < 65536 /\ M.length = L.length /\ Qh M /\ val M + 65536 ^ (i + k) * (c + ai * val (b.drop k)) = val L + 65536 ^ i * (ai * val b) /\ (∀ j, i + k <= j -> dg M j = dg L j) /\ J 7 = .int .u64 c /\ J 8 = .int .i64 k /\ hp = Qk hp0 16 ⟨1, 156, Qay M, false⟩) (b.length + 1) ?_ ?_
  ·refine ⟨0, 0, L, rfl, by omega, by omega, by omega, rfl, hL, by simp, fun _ _ => rfl, ?_⟩
   simp +decide (disch := first | omega | rfl | (simp +decide only [go_sem, ↓reduceIte, h6] <;> rfl) | fail) only [go_sem, ↓reduceIte, h6]
   simp
  rintro _ J2 _ ⟨k, c, M, rfl, hk, hk2, hc, hMl, hM, hw, hsame, h7, h8, rfl⟩
  have e2 := Qf5 b k
  have d2 := Qlg hb k
  simp +decide (disch := first | omega | rfl | (simp +decide only [go_sem, ↓reduceIte, h6, h7, h8] <;> rfl) | fail) only [go_sem, ↓reduceIte, h6, h7, h8]
  refine Qa3 (fun hkb => ?_) (fun hkb => ?_)
  ·have hkb' : k <= b.length := by omega
   have hj : i + k < M.length := by omega
   have hx := Qag hM hj
   have hset := fun v => Qv7 (v := v) hj
   have hmx := Qek hai d2
   have hdx : dg M (i + k) = M[i + k] := Qa9 hj
   generalize hxm : M[i + k] = x at *
   have hdm := Nat.div_add_mod (x + ai * dg b k + c) 65536
   have hnew := Qrj (T := val L + 65536 ^ i * (ai * val b)) (hset ((x + ai * dg b k + c) % 65536)) (by rw [<- e2]; exact hw) hdm
   have hr := Nat.mod_lt (x + ai * dg b k + c) (show 0 < 65536 by omega)
   have hq : (x + ai * dg b k + c) / 65536 < 65536 := by omega
   have hq0 : ¬ k < b.length -> (x + ai * dg b k + c) / 65536 = 0 := fun h => by
    have z1 : dg b k = 0 := by rw [dg, Qba (by omega)]
    have z2 : x = 0 := by rw [<- hdx, hsame _ (Nat.le_refl _), show i + k = i + b.length by omega, hz0]
    rw [z1, z2]; omega
   have hlims : Qh (M.set (i + k) ((x + ai * dg b k + c) % 65536)) := fun z hz => by
    rcases List.mem_or_eq_of_mem_set hz with h | h
    ·exact hM z h
    ·omega
   have e5 : IntKind.u64.wrap ((ai * dg b k : Nat) : Int) = ((ai * dg b k : Nat) : Int) := Qen (by omega) (by omega)
   simp +decide (disch := first | omega | rfl | (simp +decide only [go_sem, ↓reduceIte, h6, h7, h8, hxx, hxm] <;> rfl) | fail) only [go_sem, ↓reduceIte, h6, h7, h8, hxx, hxm]
   refine Qa hP (Qbf hb (by omega)) rfl rfl rfl ?_
   simp +decide (disch := first | omega | rfl | (simp +decide only [go_sem, ↓reduceIte, h6, h7, h8, hxx, hxm, e5, Nat.mod_mod] <;> rfl) | fail) only [go_sem, ↓reduceIte, h6, h7, h8, hxx, hxm, e5, Nat.mod_mod]
   refine Qab (b.length + 1 - (k + 1)) (by omega) ⟨k + 1, (x + ai * dg b k + c) / 65536, M.set (i + k) ((x + ai * dg b k + c) % 65536), rfl, by omega, ?_, hq, by rw [List.length_set]; exact hMl, hlims, ?_, ?_, ?_⟩
   ·by_cases h : k < b.length
    ·omega
    ·exact .inr (hq0 h)
   ·rw [<- Nat.add_assoc, Nat.pow_succ]; exact hnew
   ·intro j hj2
    rw [Qrk (by omega)]; exact hsame j (by omega)
   ·simp +decide (disch := first | omega | rfl | (simp +decide only [go_sem, ↓reduceIte, h6, h7, h8] <;> rfl) | fail) only [go_sem, ↓reduceIte, h6, h7, h8]
  simp +decide (disch := first | omega | rfl | (simp +decide only [go_sem, ↓reduceIte, h6, h7, h8] <;> rfl) | fail) only [go_sem, ↓reduceIte, h6, h7, h8]
  refine Qb (fun hc0 => ?_) (fun hc0 => ?_)
  ·have hkb' : k <= b.length := by omega
   have hj : i + k < M.length := by omega
   have hx := Qag hM hj
   have hset := fun v => Qv7 (v := v) hj
   have hmx := Qek hai d2
   have hdx : dg M (i + k) = M[i + k] := Qa9 hj
   generalize hxm : M[i + k] = x at *
   have hdm := Nat.div_add_mod (x + ai * dg b k + c) 65536
   have hnew := Qrj (T := val L + 65536 ^ i * (ai * val b)) (hset ((x + ai * dg b k + c) % 65536)) (by rw [<- e2]; exact hw) hdm
   have hr := Nat.mod_lt (x + ai * dg b k + c) (show 0 < 65536 by omega)
   have hq : (x + ai * dg b k + c) / 65536 < 65536 := by omega
   have hq0 : ¬ k < b.length -> (x + ai * dg b k + c) / 65536 = 0 := fun h => by
    have z1 : dg b k = 0 := by rw [dg, Qba (by omega)]
    have z2 : x = 0 := by rw [<- hdx, hsame _ (Nat.le_refl _), show i + k = i + b.length by omega, hz0]
    rw [z1, z2]; omega
   have hlims : Qh (M.set (i + k) ((x + ai * dg b k + c) % 65536)) := fun z hz => by
    rcases List.mem_or_eq_of_mem_set hz with h | h
    ·exact hM z h
    ·omega
   have e5 : IntKind.u64.wrap ((ai * dg b k : Nat) : Int) = ((ai * dg b k : Nat) : Int) := Qen (by omega) (by omega)
   simp +decide (disch := first | omega | rfl | (simp +decide only [go_sem, ↓reduceIte, h6, h7, h8, hxx, hxm] <;> rfl) | fail) only [go_sem, ↓reduceIte, h6, h7, h8, hxx, hxm]
   refine Qa hP (Qbf hb (by omega)) rfl rfl rfl ?_
   simp +decide (disch := first | omega | rfl | (simp +decide only [go_sem, ↓reduceIte, h6, h7, h8, hxx, hxm, e5, Nat.mod_mod] <;> rfl) | fail) only [go_sem, ↓reduceIte, h6, h7, h8, hxx, hxm, e5, Nat.mod_mod]
   refine Qab (b.length + 1 - (k + 1)) (by omega) ⟨k + 1, (x + ai * dg b k + c) / 65536, M.set (i + k) ((x + ai * dg b k + c) % 65536), rfl, by omega, ?_, hq, by rw [List.length_set]; exact hMl, hlims, ?_, ?_, ?_⟩
   ·by_cases h : k < b.length
    ·omega
    ·exact .inr (hq0 h)
   ·rw [<- Nat.add_assoc, Nat.pow_succ]; exact hnew
   ·intro j hj2
    rw [Qrk (by omega)]; exact hsame j (by omega)
   ·simp +decide (disch := first | omega | rfl | (simp +decide only [go_sem, ↓reduceIte, h6, h7, h8] <;> rfl) | fail) only [go_sem, ↓reduceIte, h6, h7, h8]
  ·obtain rfl : c = 0 := by omega
   rw [List.drop_of_length_le (by omega)] at hw
   simp only [val, Nat.mul_zero, Nat.add_zero] at hw
   simp +decide (disch := first | omega | rfl | (simp +decide only [go_sem, ↓reduceIte, h6, h7, h8] <;> rfl) | fail) only [go_sem, ↓reduceIte, h6, h7, h8]
   simp (disch := decide) only [Qbz, Qb9]
   refine Qab (a.length - (i + 1)) (by omega) ⟨i + 1, M, rfl, by omega, by omega, hM, ?_, ?_⟩
   ·rw [hw, hv, hts, Nat.add_mul, Nat.mul_assoc]
   ·simp +decide (disch := first | omega | rfl | (simp +decide only [go_sem, ↓reduceIte] <;> rfl) | fail) only [go_sem, ↓reduceIte]
 ·obtain rfl : i = a.length := by omega
  rw [List.take_length] at hv
  simp +decide (disch := first | omega | rfl | (simp +decide only [go_sem, ↓reduceIte] <;> rfl) | fail) only [go_sem, ↓reduceIte]
  refine Qfa hP (Qbl hL (by omega)) (by simp +decide (disch := first | omega | rfl | (simp +decide only [go_sem, ↓reduceIte, Qe, List.contains_cons, List.contains_nil, List.flatMap_cons, List.flatMap_nil, List.append_nil] <;> rfl) | fail) only [go_sem, ↓reduceIte, Qe, List.contains_cons, List.contains_nil, List.flatMap_cons, List.flatMap_nil, List.append_nil]; simp [List.take_of_length_le, hLl]) rfl fun hp' => ?_
  simp +decide (disch := first | omega | rfl | (simp +decide only [go_sem, ↓reduceIte] <;> rfl) | fail) only [go_sem, ↓reduceIte]
  exact Qc (by rw [hv]) rfl
end Go.Proofs.YtmnkngmmfnncoaaGreat
namespace Go.Proofs.YtmnkngmmfnncoaaGreat
open Go Go.FW
set_option linter.unusedSimpArgs false
set_option linter.unusedVariables false
set_option maxRecDepth 100000
theorem Qh7 {x y : Nat} (hx : nl x < 2 ^ 40) (hy : nl y < 2 ^ 40) : Qd Tryz.prog 160 [PV.num x, PV.num y] (· = PV.num (x * y)) := by
 have := Qj0 (Qj x) (Qj y) hx hy
 rwa [Qy, Qy] at this
theorem Qxr {x y : Nat} (hx : nl x < 2 ^ 42) (hy : nl y < 2 ^ 42) : Qd Tryz.prog 224 [PV.num x, PV.num y] (· = .int .i64 (Qdg x y)) := by
 have := Qhb (Qj x) (Qj y) hx hy
 rwa [Qy, Qy] at this
theorem Qpz {x y : Nat} (hx : nl x < 2 ^ 40) (hy : nl y < 2 ^ 40) (h : y <= x) : Qd Tryz.prog 208 [PV.num x, PV.num y] (· = .tup [PV.num (x - y), .int .i64 0]) := by
 have := Qjz (Qj x) (Qj y) hx hy
 rwa [Qy, Qy, if_neg (by omega)] at this
theorem Qwc {x y : Nat} : Qdg x y <= 0 ↔ x <= y := by unfold Qdg; split <;> (try split) <;> omega
theorem Ql6 {x y : Nat} (hx : nl x < 2 ^ 38) (hy : nl y < 2 ^ 38) (hy0 : 0 < y) : Qd Tryz.prog 210 [PV.num x, PV.num y] (· = .int .u64 (min 65535 (x / y) : Nat)) := by
 have hq2 : ∀ (n d : Nat) fr hp K, n < 18446744073709551616 -> Qaz .quo false (.int .u64 (n : Int)) (.int .u64 2) d fr hp K = K (upd fr d (.int .u64 ((n / 2 : Nat) : Int))) hp := fun n d fr hp K h => by
  rw [show (2 : Int) = ((2 : Nat) : Int) from rfl, Qib (by omega) h]
 refine Qi Qm Tryz.func210 rfl Q9c (by simp [Q47]) fun C hP => ?_; simp only [Q47]
 simp +decide (disch := first | omega | rfl | (simp +decide only [go_sem, ↓reduceIte] <;> rfl) | fail) only [go_sem, ↓reduceIte]
 refine Qak (by repeat (first | exact Qx | exact Qp | exact Qq | exact Qr | exact Qt | apply Qo | apply Qw | apply Q3 | apply Q9 | apply Qaa | apply Qn | apply Qz)) [(5, 25)] [] (fun m J hp => ∃ lo hi : Nat, m = hi - lo /\ lo <= hi /\ hi <= 65535 /\ y * lo <= x /\ (hi = 65535 ∨ x < y * (hi + 1)) /\ J 5 = .int .u64 lo /\ J 6 = .int .u64 hi) 65535 ?_ ?_
 ·refine ⟨0, 65535, rfl, by omega, by omega, by omega, .inl rfl, ?_⟩
  simp +decide (disch := first | omega | rfl | (simp +decide only [go_sem, ↓reduceIte] <;> rfl) | fail) only [go_sem, ↓reduceIte]
  simp
 rintro _ J h ⟨lo, hi, rfl, h1, h2, h3, h4, h5, h6⟩
 simp +decide (disch := first | omega | rfl | (simp +decide only [go_sem, ↓reduceIte, h5, h6] <;> rfl) | fail) only [go_sem, ↓reduceIte, h5, h6]
 refine Qb (fun hg => ?_) (fun hg => ?_)
 ·have hsz : nl ((lo + hi + 1) / 2) <= 4 := Qdt (by omega)
  have hm := Qe9 y ((lo + hi + 1) / 2)
  generalize hmid : (lo + hi + 1) / 2 = mid at *
  simp +decide (disch := first | omega | rfl | (simp +decide only [go_sem, ↓reduceIte, h5, h6, hq2, hmid] <;> rfl) | fail) only [go_sem, ↓reduceIte, h5, h6, hq2, hmid]
  refine Qa hP (Qcu (n := mid) (by omega)) rfl rfl rfl ?_
  simp +decide (disch := first | omega | rfl | (simp +decide only [go_sem, ↓reduceIte, h5, h6] <;> rfl) | fail) only [go_sem, ↓reduceIte, h5, h6]
  refine Qa hP (Qh7 (x := y) (y := mid) (by omega) (by omega)) rfl rfl rfl ?_
  simp +decide (disch := first | omega | rfl | (simp +decide only [go_sem, ↓reduceIte, h5, h6] <;> rfl) | fail) only [go_sem, ↓reduceIte, h5, h6]
  refine Qa hP (Qxr (x := y * mid) (y := x) (by omega) (by omega)) rfl rfl rfl ?_
  simp +decide (disch := first | omega | rfl | (simp +decide only [go_sem, ↓reduceIte, h5, h6] <;> rfl) | fail) only [go_sem, ↓reduceIte, h5, h6]
  refine Qb (fun hc => ?_) (fun hc => ?_)
  ·rw [Qwc] at hc
   simp +decide (disch := first | omega | rfl | (simp +decide only [go_sem, ↓reduceIte, h5, h6] <;> rfl) | fail) only [go_sem, ↓reduceIte, h5, h6]
   refine Qab (hi - mid) (by omega) ⟨mid, hi, rfl, by omega, h2, hc, h4, ?_⟩
   simp +decide (disch := first | omega | rfl | (simp +decide only [go_sem, ↓reduceIte, h6] <;> rfl) | fail) only [go_sem, ↓reduceIte, h6]
  ·rw [Qwc] at hc
   obtain ⟨n, rfl⟩ : ∃ n, mid = n + 1 := ⟨mid - 1, by omega⟩
   have e : ((n + 1 : Nat) : Int) - 1 = n := by omega
   simp +decide (disch := first | omega | rfl | (simp +decide only [go_sem, ↓reduceIte, h5, h6, e] <;> rfl) | fail) only [go_sem, ↓reduceIte, h5, h6, e]
   refine Qab (n - lo) (by omega) ⟨lo, n, rfl, by omega, by omega, h3, .inr (by omega), ?_⟩
   simp +decide (disch := first | omega | rfl | (simp +decide only [go_sem, ↓reduceIte, h5] <;> rfl) | fail) only [go_sem, ↓reduceIte, h5]
 ·obtain rfl : lo = hi := by omega
  simp +decide (disch := first | omega | rfl | (simp +decide only [go_sem, ↓reduceIte, h5] <;> rfl) | fail) only [go_sem, ↓reduceIte, h5]
  refine Qc ?_ rfl
  have hle : lo <= x / y := (Nat.le_div_iff_mul_le hy0).2 (by rw [Nat.mul_comm]; exact h3)
  rcases h4 with rfl | h4
  ·rw [Nat.min_eq_left hle]
  ·have : x / y < lo + 1 := (Nat.div_lt_iff_lt_mul hy0).2 (by rw [Nat.mul_comm]; exact h4)
   congr 2; omega
theorem Qkr {a b : List Nat} (ha : Qh a) (hb : Qh b) (hla : a.length < 2 ^ 36) (hlb : b.length < 2 ^ 36) : Qd Tryz.prog 168 [PV.nat a, PV.nat b]
  (· = if val b = 0 then .tup [PV.num 0, PV.num 0, .int .i64 3] else .tup [PV.num (val a / val b), PV.num (val a % val b), .int .i64 0]) := by
 have hda := Qai ha
 have hdb := Qai hb
 refine Qi Qm Tryz.func168 rfl Q9d (by simp [Q48]) fun C hP => ?_; simp only [Q48]
 simp +decide (disch := first | omega | rfl | (simp +decide only [go_sem, ↓reduceIte] <;> rfl) | fail) only [go_sem, ↓reduceIte]
 refine Qa hP (Qbl ha (by omega)) rfl rfl rfl ?_
 simp +decide (disch := first | omega | rfl | (simp +decide only [go_sem, ↓reduceIte] <;> rfl) | fail) only [go_sem, ↓reduceIte]
 refine Qa hP (Qbl hb (by omega)) rfl rfl rfl ?_
 simp +decide (disch := first | omega | rfl | (simp +decide only [go_sem, ↓reduceIte] <;> rfl) | fail) only [go_sem, ↓reduceIte]
 generalize val a = x at *
 generalize val b = y at *
 unfold nl at hda hdb
 refine Qb (fun hz => ?_) (fun hz => ?_)
 ·have hy0 : y = 0 := Qbe.1 (Qcr (by omega))
  simp +decide (disch := first | omega | rfl | (simp +decide only [go_sem, ↓reduceIte] <;> rfl) | fail) only [go_sem, ↓reduceIte]
  rw [if_pos hy0]
  exact Qk6 rfl rfl rfl rfl Qgz Qgz (Qv _)
 have hy0 : y ≠ 0 := fun h => by rw [h, Qax] at hz; simp at hz
 rw [if_neg hy0]
 have hyp : 0 < y := Nat.pos_of_ne_zero hy0
 have hxl := Qj x
 have hyl := Qj y
 have hxv := Qy x
 have hyv := Qy y
 simp +decide (disch := first | omega | rfl | (simp +decide only [go_sem, ↓reduceIte] <;> rfl) | fail) only [go_sem, ↓reduceIte]
 refine Qb3 (fun h1 => ?_) (fun h1 => ?_)
 ·simp +decide (disch := first | omega | rfl | (simp +decide only [go_sem, ↓reduceIte] <;> rfl) | fail) only [go_sem, ↓reduceIte]
  refine Qb (fun h2 => ?_) (fun h2 => ?_)
  ·have hx64 := Qi9.1 (show nl x <= 4 by unfold nl; omega)
   have hy64 := Qi9.1 (show nl y <= 4 by unfold nl; omega)
   have hq := Nat.div_le_self x y
   have hr := Nat.mod_lt x hyp
   simp +decide (disch := first | omega | rfl | (simp +decide only [go_sem, ↓reduceIte] <;> rfl) | fail) only [go_sem, ↓reduceIte]
   refine Qa hP (Qfs hxl (by omega)) rfl rfl rfl ?_
   simp +decide (disch := first | omega | rfl | (simp +decide only [go_sem, ↓reduceIte, hxv] <;> rfl) | fail) only [go_sem, ↓reduceIte, hxv]
   refine Qa hP (Qfs hyl (by omega)) rfl rfl rfl ?_
   simp +decide (disch := first | omega | rfl | (simp +decide only [go_sem, ↓reduceIte, hxv, hyv, Qib] <;> rfl) | fail) only [go_sem, ↓reduceIte, hxv, hyv, Qib]
   refine Qa hP (Qcu (n := x / y) (by omega)) rfl rfl rfl ?_
   simp +decide (disch := first | omega | rfl | (simp +decide only [go_sem, ↓reduceIte] <;> rfl) | fail) only [go_sem, ↓reduceIte]
   refine Qa hP (Qfs hxl (by omega)) rfl rfl rfl ?_
   simp +decide (disch := first | omega | rfl | (simp +decide only [go_sem, ↓reduceIte, hxv] <;> rfl) | fail) only [go_sem, ↓reduceIte, hxv]
   refine Qa hP (Qfs hyl (by omega)) rfl rfl rfl ?_
   simp +decide (disch := first | omega | rfl | (simp +decide only [go_sem, ↓reduceIte, hxv, hyv, Qdq] <;> rfl) | fail) only [go_sem, ↓reduceIte, hxv, hyv, Qdq]
   refine Qa hP (Qcu (n := x % y) (by omega)) rfl rfl rfl ?_
   simp +decide (disch := first | omega | rfl | (simp +decide only [go_sem, ↓reduceIte] <;> rfl) | fail) only [go_sem, ↓reduceIte]
   exact Qk6 rfl rfl rfl rfl (Qv _) (Qv _) (Qv _)
  ·have hsep := trivial
   simp +decide (disch := first | omega | rfl | (simp +decide only [go_sem, ↓reduceIte] <;> rfl) | fail) only [go_sem, ↓reduceIte]
   refine Qng 7 1 (by simp +decide (disch := first | omega | rfl | (simp +decide only [go_sem, ↓reduceIte] <;> rfl) | fail) only [go_sem, ↓reduceIte]) ?_
   refine Qng 8 1 (by simp +decide (disch := first | omega | rfl | (simp +decide only [go_sem, ↓reduceIte] <;> rfl) | fail) only [go_sem, ↓reduceIte]) ?_
   refine Qtx (by repeat (first | exact Qx | exact Qp | exact Qq | exact Qr | exact Qt | apply Qo | apply Qw | apply Q3 | apply Q9 | apply Qaa | apply Qn | apply Qz)) [(7, 10), (41, 69)] [49, 51, 58, 60] (fun k J hp => ∃ qs, k <= (dig x).length /\ qs.length = (dig x).length - k /\ Qh qs /\ val qs = val ((dig x).drop k) / y /\ J 7 = .sl 1 (Qay qs) /\ J 8 = PV.num (val ((dig x).drop k) % y) /\ J 9 = .int .i64 ((k : Int) - 1)) (dig x).length ?_ ?_
   ·refine ⟨[], Nat.le_refl _, by simp, Qch, by simp [val], ?_⟩
    simp +decide (disch := first | omega | rfl | (simp +decide only [go_sem, ↓reduceIte] <;> rfl) | fail) only [go_sem, ↓reduceIte]
    simp [val, Qax]
   rintro k J h ⟨qs, hk, hql, hqs, hqv, h7, h8, h9⟩
   simp +decide (disch := first | omega | rfl | (simp +decide only [go_sem, ↓reduceIte, h7, h8, h9] <;> rfl) | fail) only [go_sem, ↓reduceIte, h7, h8, h9]
   have hr := Nat.mod_lt (val ((dig x).drop k)) hyp
   refine Qb (fun hg => ?_) (fun hg => ?_)
   ·obtain _ | n := k
    ·omega
    have hn : n < (dig x).length := by omega
    have han := Qag hxl hn
    have e : ((n + 1 : Nat) : Int) - 1 = n := by omega
    have hst := Qpp (x := (dig x)[n]) hyp hqv
    rw [<- Qcf hn] at hst
    generalize hV : val ((dig x).drop (n + 1)) % y = r at *
    generalize hxx : (dig x)[n] = xi at *
    have hrl : (dig r).length <= (dig y).length := Qbs (Nat.le_of_lt hr)
    have hlim : Qh ([xi] ++ dig r) := by rw [Qbk]; exact ⟨by intro z hz; simp at hz; omega, Qj r⟩
    have hvl : val ([xi] ++ dig r) = r * 65536 + xi := by rw [Qby, Qy]; simp [val]; omega
    have hlt : (r * 65536 + xi) / y < 65536 := by
     rw [Nat.div_lt_iff_lt_mul hyp]
     have : (r + 1) * 65536 <= y * 65536 := Nat.mul_le_mul_right _ hr
     omega
    have hnR : nl (r * 65536 + xi) <= (dig y).length + 1 := by
     have := Qai hlim
     rw [hvl, List.length_append] at this
     simp at this; omega
    have hdm := Nat.div_add_mod (r * 65536 + xi) y
    have hnm : nl (y * ((r * 65536 + xi) / y)) <= (dig y).length + 1 := Nat.le_trans (Qbs (by omega)) hnR
    have hn4 : nl ((r * 65536 + xi) / y) <= 4 := Qdt (by omega)
    have hsub : r * 65536 + xi - y * ((r * 65536 + xi) / y) = (r * 65536 + xi) % y := by omega
    simp +decide (disch := first | omega | rfl | (simp +decide only [go_sem, ↓reduceIte, h7, h8, h9, e, hxx] <;> rfl) | fail) only [go_sem, ↓reduceIte, h7, h8, h9, e, hxx]
    rw [Qnf (f := fun (x : Nat) => .int .u16 x) (xs := [xi]) (ys := dig r) (n := 1) (by simp +decide (disch := first | omega | rfl | (simp +decide only [go_sem, ↓reduceIte] <;> rfl) | fail) only [go_sem, ↓reduceIte] <;> rfl) rfl (by omega) (by omega) (by omega)]
    simp +decide (disch := first | omega | rfl | (simp +decide only [go_sem, ↓reduceIte, h7, h8, h9, e, hxx] <;> rfl) | fail) only [go_sem, ↓reduceIte, h7, h8, h9, e, hxx]
    refine Qcv hP (Qbl (l := [xi] ++ dig r) hlim (by simp; omega)) (by simp +decide (disch := first | omega | rfl | (simp +decide only [go_sem, ↓reduceIte, Qe, List.contains_cons, List.contains_nil, List.flatMap_cons, List.flatMap_nil, List.append_nil] <;> rfl) | fail) only [go_sem, ↓reduceIte, Qe, List.contains_cons, List.contains_nil, List.flatMap_cons, List.flatMap_nil, List.append_nil]; simp [Nat.add_comm 1, List.take_of_length_le]) rfl ?_
    rw [hvl]
    simp +decide (disch := first | omega | rfl | (simp +decide only [go_sem, ↓reduceIte, h7, h8, h9, e, hxx] <;> rfl) | fail) only [go_sem, ↓reduceIte, h7, h8, h9, e, hxx]
    refine Qa hP (Ql6 (x := r * 65536 + xi) (y := y) (by omega) (by unfold nl; omega) hyp) rfl rfl rfl ?_
    rw [Nat.min_eq_right (by omega : (r * 65536 + xi) / y <= 65535)]
    generalize hD : (r * 65536 + xi) / y = D at *
    simp +decide (disch := first | omega | rfl | (simp +decide only [go_sem, ↓reduceIte, h7, h8, h9, e, hxx, Nat.mod_eq_of_lt hlt] <;> rfl) | fail) only [go_sem, ↓reduceIte, h7, h8, h9, e, hxx, Nat.mod_eq_of_lt hlt]
    rw [Qnf (f := fun (x : Nat) => .int .u16 x) (xs := [D]) (ys := qs) (n := 1) (by simp +decide (disch := first | omega | rfl | (simp +decide only [go_sem, ↓reduceIte] <;> rfl) | fail) only [go_sem, ↓reduceIte] <;> rfl) rfl (by omega) (by omega) (by omega)]
    simp +decide (disch := first | omega | rfl | (simp +decide only [go_sem, ↓reduceIte, h7, h8, h9, e, hxx] <;> rfl) | fail) only [go_sem, ↓reduceIte, h7, h8, h9, e, hxx]
    refine Qa hP (Qcu (n := D) (by omega)) rfl rfl rfl ?_
    simp +decide (disch := first | omega | rfl | (simp +decide only [go_sem, ↓reduceIte, h7, h8, h9, e] <;> rfl) | fail) only [go_sem, ↓reduceIte, h7, h8, h9, e]
    refine Qa hP (Qh7 (x := y) (y := D) (by unfold nl; omega) (by omega)) rfl rfl rfl ?_
    simp +decide (disch := first | omega | rfl | (simp +decide only [go_sem, ↓reduceIte, h7, h8, h9, e] <;> rfl) | fail) only [go_sem, ↓reduceIte, h7, h8, h9, e]
    refine Qa hP (Qpz (x := r * 65536 + xi) (y := y * D) (by omega) (by omega) (by omega)) rfl rfl rfl ?_
    rw [hsub]
    simp +decide (disch := first | omega | rfl | (simp +decide only [go_sem, ↓reduceIte, h7, h8, h9, e] <;> rfl) | fail) only [go_sem, ↓reduceIte, h7, h8, h9, e]
    refine Qpo 7 n rfl ?_ (by omega) ⟨D :: qs, by omega, by simp; omega, ?_, ?_, ?_⟩
    ·simp +decide (disch := first | omega | rfl | (simp +decide only [go_sem, ↓reduceIte, Qe, List.contains_cons, List.contains_nil, List.flatMap_cons, List.flatMap_nil, List.append_nil] <;> rfl) | fail) only [go_sem, ↓reduceIte, Qe, List.contains_cons, List.contains_nil, List.flatMap_cons, List.flatMap_nil, List.append_nil]
    ·rw [Qar]; exact ⟨hlt, hqs⟩
    ·rw [val, hst.1]
    ·simp +decide (disch := first | omega | rfl | (simp +decide only [go_sem, ↓reduceIte, Qe, List.contains_cons, List.contains_nil, List.flatMap_cons, List.flatMap_nil, List.append_nil, hst.2] <;> rfl) | fail) only [go_sem, ↓reduceIte, Qe, List.contains_cons, List.contains_nil, List.flatMap_cons, List.flatMap_nil, List.append_nil, hst.2]
     simp [Nat.add_comm 1, List.take_of_length_le]
   ·obtain rfl : k = 0 := by omega
    rw [List.drop_zero, hxv] at hqv h8
    simp +decide (disch := first | omega | rfl | (simp +decide only [go_sem, ↓reduceIte, h7, h8] <;> rfl) | fail) only [go_sem, ↓reduceIte, h7, h8]
    refine Qa hP (Qbl hqs (by omega)) rfl rfl rfl ?_
    simp +decide (disch := first | omega | rfl | (simp +decide only [go_sem, ↓reduceIte, h7, h8] <;> rfl) | fail) only [go_sem, ↓reduceIte, h7, h8]
    exact Qk6 rfl rfl rfl rfl (Qfz (by rw [hqv])) (Qv _) (Qv _)
 ·have hsep := trivial
  simp +decide (disch := first | omega | rfl | (simp +decide only [go_sem, ↓reduceIte] <;> rfl) | fail) only [go_sem, ↓reduceIte]
  refine Qng 7 1 (by simp +decide (disch := first | omega | rfl | (simp +decide only [go_sem, ↓reduceIte] <;> rfl) | fail) only [go_sem, ↓reduceIte]) ?_
  refine Qng 8 1 (by simp +decide (disch := first | omega | rfl | (simp +decide only [go_sem, ↓reduceIte] <;> rfl) | fail) only [go_sem, ↓reduceIte]) ?_
  refine Qtx (by repeat (first | exact Qx | exact Qp | exact Qq | exact Qr | exact Qt | apply Qo | apply Qw | apply Q3 | apply Q9 | apply Qaa | apply Qn | apply Qz)) [(7, 10), (41, 69)] [49, 51, 58, 60] (fun k J hp => ∃ qs, k <= (dig x).length /\ qs.length = (dig x).length - k /\ Qh qs /\ val qs = val ((dig x).drop k) / y /\ J 7 = .sl 1 (Qay qs) /\ J 8 = PV.num (val ((dig x).drop k) % y) /\ J 9 = .int .i64 ((k : Int) - 1)) (dig x).length ?_ ?_
  ·refine ⟨[], Nat.le_refl _, by simp, Qch, by simp [val], ?_⟩
   simp +decide (disch := first | omega | rfl | (simp +decide only [go_sem, ↓reduceIte] <;> rfl) | fail) only [go_sem, ↓reduceIte]
   simp [val, Qax]
  rintro k J h ⟨qs, hk, hql, hqs, hqv, h7, h8, h9⟩
  simp +decide (disch := first | omega | rfl | (simp +decide only [go_sem, ↓reduceIte, h7, h8, h9] <;> rfl) | fail) only [go_sem, ↓reduceIte, h7, h8, h9]
  have hr := Nat.mod_lt (val ((dig x).drop k)) hyp
  refine Qb (fun hg => ?_) (fun hg => ?_)
  ·obtain _ | n := k
   ·omega
   have hn : n < (dig x).length := by omega
   have han := Qag hxl hn
   have e : ((n + 1 : Nat) : Int) - 1 = n := by omega
   have hst := Qpp (x := (dig x)[n]) hyp hqv
   rw [<- Qcf hn] at hst
   generalize hV : val ((dig x).drop (n + 1)) % y = r at *
   generalize hxx : (dig x)[n] = xi at *
   have hrl : (dig r).length <= (dig y).length := Qbs (Nat.le_of_lt hr)
   have hlim : Qh ([xi] ++ dig r) := by rw [Qbk]; exact ⟨by intro z hz; simp at hz; omega, Qj r⟩
   have hvl : val ([xi] ++ dig r) = r * 65536 + xi := by rw [Qby, Qy]; simp [val]; omega
   have hlt : (r * 65536 + xi) / y < 65536 := by
    rw [Nat.div_lt_iff_lt_mul hyp]
    have : (r + 1) * 65536 <= y * 65536 := Nat.mul_le_mul_right _ hr
    omega
   have hnR : nl (r * 65536 + xi) <= (dig y).length + 1 := by
    have := Qai hlim
    rw [hvl, List.length_append] at this
    simp at this; omega
   have hdm := Nat.div_add_mod (r * 65536 + xi) y
   have hnm : nl (y * ((r * 65536 + xi) / y)) <= (dig y).length + 1 := Nat.le_trans (Qbs (by omega)) hnR
   have hn4 : nl ((r * 65536 + xi) / y) <= 4 := Qdt (by omega)
   have hsub : r * 65536 + xi - y * ((r * 65536 + xi) / y) = (r * 65536 + xi) % y := by omega
   simp +decide (disch := first | omega | rfl | (simp +decide only [go_sem, ↓reduceIte, h7, h8, h9, e, hxx] <;> rfl) | fail) only [go_sem, ↓reduceIte, h7, h8, h9, e, hxx]
   rw [Qnf (f := fun (x : Nat) => .int .u16 x) (xs := [xi]) (ys := dig r) (n := 1) (by simp +decide (disch := first | omega | rfl | (simp +decide only [go_sem, ↓reduceIte] <;> rfl) | fail) only [go_sem, ↓reduceIte] <;> rfl) rfl (by omega) (by omega) (by omega)]
   simp +decide (disch := first | omega | rfl | (simp +decide only [go_sem, ↓reduceIte, h7, h8, h9, e, hxx] <;> rfl) | fail) only [go_sem, ↓reduceIte, h7, h8, h9, e, hxx]
   refine Qcv hP (Qbl (l := [xi] ++ dig r) hlim (by simp; omega)) (by simp +decide (disch := first | omega | rfl | (simp +decide only [go_sem, ↓reduceIte, Qe, List.contains_cons, List.contains_nil, List.flatMap_cons, List.flatMap_nil, List.append_nil] <;> rfl) | fail) only [go_sem, ↓reduceIte, Qe, List.contains_cons, List.contains_nil, List.flatMap_cons, List.flatMap_nil, List.append_nil]; simp [Nat.add_comm 1, List.take_of_length_le]) rfl ?_
   rw [hvl]
   simp +decide (disch := first | omega | rfl | (simp +decide only [go_sem, ↓reduceIte, h7, h8, h9, e, hxx] <;> rfl) | fail) only [go_sem, ↓reduceIte, h7, h8, h9, e, hxx]
   refine Qa hP (Ql6 (x := r * 65536 + xi) (y := y) (by omega) (by unfold nl; omega) hyp) rfl rfl rfl ?_
   rw [Nat.min_eq_right (by omega : (r * 65536 + xi) / y <= 65535)]
   generalize hD : (r * 65536 + xi) / y = D at *
   simp +decide (disch := first | omega | rfl | (simp +decide only [go_sem, ↓reduceIte, h7, h8, h9, e, hxx, Nat.mod_eq_of_lt hlt] <;> rfl) | fail) only [go_sem, ↓reduceIte, h7, h8, h9, e, hxx, Nat.mod_eq_of_lt hlt]
   rw [Qnf (f := fun (x : Nat) => .int .u16 x) (xs := [D]) (ys := qs) (n := 1) (by simp +decide (disch := first | omega | rfl | (simp +decide only [go_sem, ↓reduceIte] <;> rfl) | fail) only [go_sem, ↓reduceIte] <;> rfl) rfl (by omega) (by omega) (by omega)]
   simp +decide (disch := first | omega | rfl | (simp +decide only [go_sem, ↓reduceIte, h7, h8, h9, e, hxx] <;> rfl) | fail) only [go_sem, ↓reduceIte, h7, h8, h9, e, hxx]
   refine Qa hP (Qcu (n := D) (by omega)) rfl rfl rfl ?_
   simp +decide (disch := first | omega | rfl | (simp +decide only [go_sem, ↓reduceIte, h7, h8, h9, e] <;> rfl) | fail) only [go_sem, ↓reduceIte, h7, h8, h9, e]
   refine Qa hP (Qh7 (x := y) (y := D) (by unfold nl; omega) (by omega)) rfl rfl rfl ?_
   simp +decide (disch := first | omega | rfl | (simp +decide only [go_sem, ↓reduceIte, h7, h8, h9, e] <;> rfl) | fail) only [go_sem, ↓reduceIte, h7, h8, h9, e]
   refine Qa hP (Qpz (x := r * 65536 + xi) (y := y * D) (by omega) (by omega) (by omega)) rfl rfl rfl ?_
   rw [hsub]
   simp +decide (disch := first | omega | rfl | (simp +decide only [go_sem, ↓reduceIte, h7, h8, h9, e] <;> rfl) | fail) only [go_sem, ↓reduceIte, h7, h8, h9, e]
   refine Qpo 7 n rfl ?_ (by omega) ⟨D :: qs, by omega, by simp; omega, ?_, ?_, ?_⟩
   ·simp +decide (disch := first | omega | rfl | (simp +decide only [go_sem, ↓reduceIte, Qe, List.contains_cons, List.contains_nil, List.flatMap_cons, List.flatMap_nil, List.append_nil] <;> rfl) | fail) only [go_sem, ↓reduceIte, Qe, List.contains_cons, List.contains_nil, List.flatMap_cons, List.flatMap_nil, List.append_nil]
   ·rw [Qar]; exact ⟨hlt, hqs⟩
   ·rw [val, hst.1]
   ·simp +decide (disch := first | omega | rfl | (simp +decide only [go_sem, ↓reduceIte, Qe, List.contains_cons, List.contains_nil, List.flatMap_cons, List.flatMap_nil, List.append_nil, hst.2] <;> rfl) | fail) only [go_sem, ↓reduceIte, Qe, List.contains_cons, List.contains_nil, List.flatMap_cons, List.flatMap_nil, List.append_nil, hst.2]
    simp [Nat.add_comm 1, List.take_of_length_le]
  ·obtain rfl : k = 0 := by omega
   rw [List.drop_zero, hxv] at hqv h8
   simp +decide (disch := first | omega | rfl | (simp +decide only [go_sem, ↓reduceIte, h7, h8] <;> rfl) | fail) only [go_sem, ↓reduceIte, h7, h8]
   refine Qa hP (Qbl hqs (by omega)) rfl rfl rfl ?_
   simp +decide (disch := first | omega | rfl | (simp +decide only [go_sem, ↓reduceIte, h7, h8] <;> rfl) | fail) only [go_sem, ↓reduceIte, h7, h8]
   exact Qk6 rfl rfl rfl rfl (Qfz (by rw [hqv])) (Qv _) (Qv _)
end Go.Proofs.YtmnkngmmfnncoaaGreat
namespace Go.Proofs.YtmnkngmmfnncoaaGreat
open Go Go.FW
set_option linter.unusedSimpArgs false
set_option linter.unusedVariables false
set_option maxRecDepth 100000
theorem Qsb {x y : Nat} (hx : nl x < 2 ^ 36) (hy : nl y < 2 ^ 36) (h0 : y ≠ 0) : Qd Tryz.prog 168 [PV.num x, PV.num y] (· = .tup [PV.num (x / y), PV.num (x % y), .int .i64 0]) := by
 have := Qkr (Qj x) (Qj y) hx hy
 rwa [Qy, Qy, if_neg h0] at this
theorem Qn6 {a b : List Nat} (ha : Qh a) (hb : Qh b) (hla : a.length < 2 ^ 36) (hlb : b.length < 2 ^ 36) : Qd Tryz.prog 120 [PV.nat a, PV.nat b] (· = PV.num (Nat.gcd (val a) (val b))) := by
 have hda := Qai ha
 have hdb := Qai hb
 refine Qi Qm Tryz.func120 rfl Q9e (by simp [Q49]) fun C hP => ?_; simp only [Q49]
 simp +decide (disch := first | omega | rfl | (simp +decide only [go_sem, ↓reduceIte] <;> rfl) | fail) only [go_sem, ↓reduceIte]
 refine Qa hP (Qbl ha (by omega)) rfl rfl rfl ?_
 simp +decide (disch := first | omega | rfl | (simp +decide only [go_sem, ↓reduceIte] <;> rfl) | fail) only [go_sem, ↓reduceIte]
 refine Qa hP (Qbl hb (by omega)) rfl rfl rfl ?_
 simp +decide (disch := first | omega | rfl | (simp +decide only [go_sem, ↓reduceIte] <;> rfl) | fail) only [go_sem, ↓reduceIte]
 refine Qak (by repeat (first | exact Qx | exact Qp | exact Qq | exact Qr | exact Qt | apply Qo | apply Qw | apply Q3 | apply Q9 | apply Qaa | apply Qn | apply Qz)) [(0, 1), (5, 7), (12, 23)] [] (fun m J hp => ∃ x y, m = y /\ Nat.gcd x y = Nat.gcd (val a) (val b) /\ nl x < 2 ^ 36 /\ nl y < 2 ^ 36 /\ J 0 = PV.num x /\ J 1 = PV.num y /\ hp = hp0) (val b) ?_ ?_
 ·refine ⟨val a, val b, rfl, rfl, by omega, by omega, ?_⟩
  simp +decide (disch := first | omega | rfl | (simp +decide only [go_sem, ↓reduceIte] <;> rfl) | fail) only [go_sem, ↓reduceIte]
 rintro y J _ ⟨x, _, rfl, hg, hx, hy, h0, h1, rfl⟩
 generalize Nat.gcd (val a) (val b) = g at *
 simp +decide (disch := first | omega | rfl | (simp +decide only [go_sem, ↓reduceIte, h0, h1] <;> rfl) | fail) only [go_sem, ↓reduceIte, h0, h1]
 refine Qb (fun hc => ?_) (fun hc => ?_)
 ·have hy0 : y ≠ 0 := fun h => by rw [h, Qax] at hc; simp at hc
  have hmod := Qbs (Nat.le_of_lt (Nat.mod_lt x (Nat.pos_of_ne_zero hy0)))
  simp +decide (disch := first | omega | rfl | (simp +decide only [go_sem, ↓reduceIte, h0, h1] <;> rfl) | fail) only [go_sem, ↓reduceIte, h0, h1]
  refine Qa hP (Qsb (x := x) (y := y) hx hy hy0) rfl rfl rfl ?_
  simp +decide (disch := first | omega | rfl | (simp +decide only [go_sem, ↓reduceIte, h0, h1] <;> rfl) | fail) only [go_sem, ↓reduceIte, h0, h1]
  refine Qab (x % y) (Nat.mod_lt _ (Nat.pos_of_ne_zero hy0)) ⟨y, x % y, rfl, ?_, hy, by omega, ?_⟩
  ·rw [<- hg, Nat.gcd_comm x y, Nat.gcd_rec y x, Nat.gcd_comm]
  ·simp +decide (disch := first | omega | rfl | (simp +decide only [go_sem, ↓reduceIte] <;> rfl) | fail) only [go_sem, ↓reduceIte]
 ·have hy0 : y = 0 := Qbe.1 (Qcr (by omega))
  subst hy0
  simp +decide (disch := first | omega | rfl | (simp +decide only [go_sem, ↓reduceIte, h0] <;> rfl) | fail) only [go_sem, ↓reduceIte, h0]
  exact Qc (by rw [<- hg, Nat.gcd_zero_right]) rfl
end Go.Proofs.YtmnkngmmfnncoaaGreat
namespace Go.Proofs.YtmnkngmmfnncoaaGreat
open Go Go.FW
set_option linter.unusedSimpArgs false
set_option linter.unusedVariables false
set_option maxRecDepth 100000
theorem Qd2 {n : Bool} {a : List Nat} (ha : Qh a) (hla : a.length < 2 ^ 42) : Qd Tryz.prog 170 [.bool n, PV.nat a] (· = PV.zz (zv n a)) := by
 refine Qi Qm Tryz.func170 rfl Q9h (by simp [Q5c]) fun C hP => ?_; simp only [Q5c]
 simp +decide (disch := first | omega | rfl | (simp +decide only [go_sem, ↓reduceIte] <;> rfl) | fail) only [go_sem, ↓reduceIte]
 refine Qa hP (Qbl ha hla) rfl rfl rfl ?_
 simp +decide (disch := first | omega | rfl | (simp +decide only [go_sem, ↓reduceIte] <;> rfl) | fail) only [go_sem, ↓reduceIte]
 refine Qfh (fun hn => ?_) (fun hn => ?_)
 all_goals
  simp +decide (disch := first | omega | rfl | (simp +decide only [go_sem, ↓reduceIte] <;> rfl) | fail) only [go_sem, ↓reduceIte]
  refine Qaw ?_
  simp +decide (disch := first | omega | rfl | (simp +decide only [go_sem, ↓reduceIte] <;> rfl) | fail) only [go_sem, ↓reduceIte]
  exact Qc (by have := Qqq n (val a); rw [hn] at this; subst hn; simpa [zv] using this) rfl
theorem Qgo {n : Bool} {a : List Nat} (ha : Qh a) (hla : a.length < 2 ^ 42) : Qd Tryz.prog 169 [PV.zi n a] (· = PV.zz (zv n a)) := by
 refine Qi Qm Tryz.func169 rfl Q9i (by simp [Q5d]) fun C hP => ?_; simp only [Q5d]
 simp +decide (disch := first | omega | rfl | (simp +decide only [go_sem, ↓reduceIte] <;> rfl) | fail) only [go_sem, ↓reduceIte]
 refine Qa hP (Qd2 ha hla) rfl rfl rfl ?_
 simp +decide (disch := first | omega | rfl | (simp +decide only [go_sem, ↓reduceIte] <;> rfl) | fail) only [go_sem, ↓reduceIte]
 refine Qaw ?_
 simp +decide (disch := first | omega | rfl | (simp +decide only [go_sem, ↓reduceIte] <;> rfl) | fail) only [go_sem, ↓reduceIte]
 exact Qc rfl rfl
theorem Qn7 {n m : Bool} {a b : List Nat} (ha : Qh a) (hb : Qh b) (hla : a.length < 2 ^ 40) (hlb : b.length < 2 ^ 40) : Qd Tryz.prog 159 [PV.zi n a, PV.zi m b] (· = PV.zz (zv n a * zv m b)) := by
 have hr : nl (val a * val b) < 2 ^ 42 := by have := Qe9 (val a) (val b); have := Qai ha; have := Qai hb; omega
 refine Qi Qm Tryz.func159 rfl Q9o (by simp [Q5j]) fun C hP => ?_; simp only [Q5j]
 simp +decide (disch := first | omega | rfl | (simp +decide only [go_sem, ↓reduceIte] <;> rfl) | fail) only [go_sem, ↓reduceIte]
 refine Qa hP (Qj0 ha hb hla hlb) rfl rfl rfl ?_
 simp +decide (disch := first | omega | rfl | (simp +decide only [go_sem, ↓reduceIte] <;> rfl) | fail) only [go_sem, ↓reduceIte]
 refine Qa hP (Qd2 (n := !(n == m)) (Qj (val a * val b)) hr) rfl rfl rfl ?_
 simp +decide (disch := first | omega | rfl | (simp +decide only [go_sem, ↓reduceIte] <;> rfl) | fail) only [go_sem, ↓reduceIte]
 refine Qaw ?_
 simp +decide (disch := first | omega | rfl | (simp +decide only [go_sem, ↓reduceIte] <;> rfl) | fail) only [go_sem, ↓reduceIte]
 exact Qc (congrArg PV.zz (by rw [Qgk]; unfold zv; cases n <;> cases m <;> simp [Int.neg_mul, Int.mul_neg])) rfl
theorem Qlt {x : Int} (h1 : -9223372036854775808 <= x) (h2 : x <= 9223372036854775807) : Qd Tryz.prog 105 [.int .i64 x] (· = PV.zz x) := by
 refine Qi Qm Tryz.func105 rfl Q9j (by simp [Q5e]) fun C hP => ?_; simp only [Q5e]
 simp +decide (disch := first | omega | rfl | (simp +decide only [go_sem, ↓reduceIte] <;> rfl) | fail) only [go_sem, ↓reduceIte]
 refine Qb (fun hc => ?_) (fun hc => ?_)
 ·obtain ⟨y, hy⟩ : ∃ y : Nat, x = -((y : Int) + 1) := ⟨(-(x + 1)).toNat, by omega⟩
  have e1 : IntKind.i64.wrap (x + 1) = -(y : Int) := by rw [Qfx (by omega) (by omega)]; omega
  have e2 : IntKind.i64.wrap (0 - -(y : Int)) = (y : Int) := by rw [Qfx (by omega) (by omega)]; omega
  have e3 : IntKind.u64.wrap (y : Int) = (y : Int) := Qen (by omega) (by omega)
  have hl1 : nl y <= 4 := Qdt (by omega)
  have hl2 : nl (y + 1) <= 4 := Qdt (by omega)
  simp +decide (disch := first | omega | rfl | (simp +decide only [go_sem, ↓reduceIte, e1, e2, e3] <;> rfl) | fail) only [go_sem, ↓reduceIte, e1, e2, e3]
  refine Qa hP (Qcu (n := y) (by omega)) rfl rfl rfl ?_
  simp +decide (disch := first | omega | rfl | (simp +decide only [go_sem, ↓reduceIte] <;> rfl) | fail) only [go_sem, ↓reduceIte]
  refine Qa hP (Qcu (n := 1) (by omega)) rfl rfl rfl ?_
  simp +decide (disch := first | omega | rfl | (simp +decide only [go_sem, ↓reduceIte] <;> rfl) | fail) only [go_sem, ↓reduceIte]
  refine Qa hP (Qn5 (Qj y) (Qj 1) (show nl y < _ by omega) (show nl 1 < _ by rw [Qkl]; omega)) rfl rfl rfl ?_
  simp +decide (disch := first | omega | rfl | (simp +decide only [go_sem, ↓reduceIte] <;> rfl) | fail) only [go_sem, ↓reduceIte]
  refine Qa hP (Qd2 (n := true) (Qj (val (dig y) + val (dig 1))) (show nl _ < _ by rw [Qy, Qy]; omega)) rfl rfl rfl ?_
  simp +decide (disch := first | omega | rfl | (simp +decide only [go_sem, ↓reduceIte] <;> rfl) | fail) only [go_sem, ↓reduceIte]
  refine Qaw ?_
  simp +decide (disch := first | omega | rfl | (simp +decide only [go_sem, ↓reduceIte] <;> rfl) | fail) only [go_sem, ↓reduceIte]
  exact Qc (congrArg PV.zz (by rw [Qgk, Qy, Qy]; simp; omega)) rfl
 ·obtain ⟨y, rfl⟩ : ∃ y : Nat, x = y := ⟨x.toNat, by omega⟩
  have hl1 : nl y <= 4 := Qdt (by omega)
  simp +decide (disch := first | omega | rfl | (simp +decide only [go_sem, ↓reduceIte] <;> rfl) | fail) only [go_sem, ↓reduceIte]
  refine Qa hP (Qcu (by omega)) rfl rfl rfl ?_
  simp +decide (disch := first | omega | rfl | (simp +decide only [go_sem, ↓reduceIte] <;> rfl) | fail) only [go_sem, ↓reduceIte]
  refine Qa hP (Qd2 (n := false) (Qj y) (show nl _ < _ by omega)) rfl rfl rfl ?_
  simp +decide (disch := first | omega | rfl | (simp +decide only [go_sem, ↓reduceIte] <;> rfl) | fail) only [go_sem, ↓reduceIte]
  refine Qaw ?_
  simp +decide (disch := first | omega | rfl | (simp +decide only [go_sem, ↓reduceIte] <;> rfl) | fail) only [go_sem, ↓reduceIte]
  exact Qc (congrArg PV.zz (by rw [Qgk]; simp)) rfl
theorem Qui {n : Bool} {a : List Nat} (ha : Qh a) (hla : a.length < 2 ^ 42) : Qd Tryz.prog 156 [PV.zi n a] (· = .int .i64 (sgn (zv n a))) := by
 refine Qi Qm Tryz.func156 rfl Q9k (by simp [Q5f]) fun C hP => ?_; simp only [Q5f]
 simp +decide (disch := first | omega | rfl | (simp +decide only [go_sem, ↓reduceIte] <;> rfl) | fail) only [go_sem, ↓reduceIte]
 refine Qa hP (Qgo ha hla) rfl rfl rfl ?_
 generalize zv n a = z
 simp +decide (disch := first | omega | rfl | (simp +decide only [go_sem, ↓reduceIte] <;> rfl) | fail) only [go_sem, ↓reduceIte]
 refine Qb (fun hz => ?_) (fun hz => ?_)
 ·have : z = 0 := by have := Qbe.1 (Qcr (n := z.natAbs) (by omega)); omega
  subst this
  simp +decide (disch := first | omega | rfl | (simp +decide only [go_sem, ↓reduceIte] <;> rfl) | fail) only [go_sem, ↓reduceIte]
  exact Qc rfl rfl
 ·have h0 : z ≠ 0 := fun h => by subst h; exact hz (by simp [Qax])
  simp +decide (disch := first | omega | rfl | (simp +decide only [go_sem, ↓reduceIte] <;> rfl) | fail) only [go_sem, ↓reduceIte]
  refine Qhj (fun hn => ?_) (fun hn => ?_)
  ·have hn : z < 0 := by simpa using hn
   simp +decide (disch := first | omega | rfl | (simp +decide only [go_sem, ↓reduceIte] <;> rfl) | fail) only [go_sem, ↓reduceIte]
   exact Qc (by rw [sgn, if_pos hn]) rfl
  ·have hn : ¬ z < 0 := by simpa using hn
   simp +decide (disch := first | omega | rfl | (simp +decide only [go_sem, ↓reduceIte] <;> rfl) | fail) only [go_sem, ↓reduceIte]
   exact Qc (by rw [sgn, if_neg hn, if_pos (by omega)]) rfl
theorem Qsc {n : Bool} {a : List Nat} (ha : Qh a) (hla : a.length < 2 ^ 42) : Qd Tryz.prog 118 [PV.zi n a] (· = .bool (Qfl n a)) := by
 refine Qi Qm Tryz.func118 rfl Q9g (by simp [Q5b]) fun C hP => ?_; simp only [Q5b]
 simp +decide (disch := first | omega | rfl | (simp +decide only [go_sem, ↓reduceIte] <;> rfl) | fail) only [go_sem, ↓reduceIte]
 refine Qa hP (Ql5 ha (by omega)) rfl rfl rfl ?_
 simp +decide (disch := first | omega | rfl | (simp +decide only [go_sem, ↓reduceIte] <;> rfl) | fail) only [go_sem, ↓reduceIte]
 refine Qfh (fun hv => ?_) (fun hv => ?_)
 ·simp +decide (disch := first | omega | rfl | (simp +decide only [go_sem, ↓reduceIte] <;> rfl) | fail) only [go_sem, ↓reduceIte]
  refine Qfh (fun hn => ?_) (fun hn => ?_)
  ·simp +decide (disch := first | omega | rfl | (simp +decide only [go_sem, ↓reduceIte] <;> rfl) | fail) only [go_sem, ↓reduceIte]
   exact Qc (congrArg PV.bool (by unfold Qfl; subst hn; cases a <;> simp_all <;> omega)) rfl
  ·simp +decide (disch := first | omega | rfl | (simp +decide only [go_sem, ↓reduceIte] <;> rfl) | fail) only [go_sem, ↓reduceIte]
   exact Qc (congrArg PV.bool (by unfold Qfl; subst hn; cases a <;> simp_all)) rfl
 ·simp +decide (disch := first | omega | rfl | (simp +decide only [go_sem, ↓reduceIte] <;> rfl) | fail) only [go_sem, ↓reduceIte]
  exact Qc (congrArg PV.bool (by unfold Qfl; cases a <;> simp_all)) rfl
theorem Qvg {n m : Bool} {a b : List Nat} (ha : Qh a) (hb : Qh b) (hla : a.length < 2 ^ 41) (hlb : b.length < 2 ^ 41) : Qd Tryz.prog 201 [PV.zi n a, PV.zi m b] (· = .int .i64 (Qep (zv n a) (zv m b))) := by
 have hx : nl (zv n a).natAbs < 2 ^ 41 := by rw [Qa5]; have := Qai ha; omega
 have hy : nl (zv m b).natAbs < 2 ^ 41 := by rw [Qa5]; have := Qai hb; omega
 refine Qi Qm Tryz.func201 rfl Q9l (by simp [Q5g]) fun C hP => ?_; simp only [Q5g]
 simp +decide (disch := first | omega | rfl | (simp +decide only [go_sem, ↓reduceIte] <;> rfl) | fail) only [go_sem, ↓reduceIte]
 refine Qa hP (Qgo ha (by omega)) rfl rfl rfl ?_
 simp +decide (disch := first | omega | rfl | (simp +decide only [go_sem, ↓reduceIte] <;> rfl) | fail) only [go_sem, ↓reduceIte]
 refine Qa hP (Qgo hb (by omega)) rfl rfl rfl ?_
 generalize zv n a = x at *
 generalize zv m b = y at *
 have lx : (dig x.natAbs).length < 2 ^ 41 := hx
 have ly : (dig y.natAbs).length < 2 ^ 41 := hy
 by_cases hx0 : x < 0 <;> by_cases hy0 : y < 0
 ·simp +decide (disch := first | omega | rfl | (simp +decide only [go_sem, ↓reduceIte, hx0, hy0] <;> rfl) | fail) only [go_sem, ↓reduceIte, hx0, hy0]
  refine Qa hP (Qhb (Qj y.natAbs) (Qj x.natAbs) (by omega) (by omega)) rfl rfl rfl ?_
  simp +decide (disch := first | omega | rfl | (simp +decide only [go_sem, ↓reduceIte] <;> rfl) | fail) only [go_sem, ↓reduceIte]
  exact Qc (congrArg (PV.int .i64) (by rw [Qy, Qy]; unfold Qdg Qep; split <;> split <;> (try split) <;> (try split) <;> omega)) rfl
 ·simp +decide (disch := first | omega | rfl | (simp +decide only [go_sem, ↓reduceIte, hx0, hy0] <;> rfl) | fail) only [go_sem, ↓reduceIte, hx0, hy0]
  exact Qc (congrArg (PV.int .i64) (by unfold Qep; rw [if_pos (by omega)])) rfl
 ·simp +decide (disch := first | omega | rfl | (simp +decide only [go_sem, ↓reduceIte, hx0, hy0] <;> rfl) | fail) only [go_sem, ↓reduceIte, hx0, hy0]
  exact Qc (congrArg (PV.int .i64) (by unfold Qep; rw [if_neg (by omega), if_pos (by omega)])) rfl
 ·simp +decide (disch := first | omega | rfl | (simp +decide only [go_sem, ↓reduceIte, hx0, hy0] <;> rfl) | fail) only [go_sem, ↓reduceIte, hx0, hy0]
  refine Qa hP (Qhb (Qj x.natAbs) (Qj y.natAbs) (by omega) (by omega)) rfl rfl rfl ?_
  simp +decide (disch := first | omega | rfl | (simp +decide only [go_sem, ↓reduceIte] <;> rfl) | fail) only [go_sem, ↓reduceIte]
  exact Qc (congrArg (PV.int .i64) (by rw [Qy, Qy]; unfold Qdg Qep; split <;> split <;> (try split) <;> (try split) <;> omega)) rfl
theorem Qvh {n m : Bool} {a b : List Nat} (ha : Qh a) (hb : Qh b) (hla : a.length < 2 ^ 40) (hlb : b.length < 2 ^ 40) : Qd Tryz.prog 166 [PV.zi n a, PV.zi m b] (· = PV.zz (zv n a + zv m b)) := by
 have hda := Qai ha
 have hdb := Qai hb
 refine Qi Qm Tryz.func166 rfl Q9n (by simp [Q5i]) fun C hP => ?_; simp only [Q5i]
 simp +decide (disch := first | omega | rfl | (simp +decide only [go_sem, ↓reduceIte] <;> rfl) | fail) only [go_sem, ↓reduceIte]
 refine Qhj (fun hnm => ?_) (fun hnm => ?_)
 ·have hnm : n = m := by simpa using hnm
  subst hnm
  have hr := Qy6 (val a) (val b)
  simp +decide (disch := first | omega | rfl | (simp +decide only [go_sem, ↓reduceIte] <;> rfl) | fail) only [go_sem, ↓reduceIte]
  refine Qa hP (Qn5 ha hb hla hlb) rfl rfl rfl ?_
  simp +decide (disch := first | omega | rfl | (simp +decide only [go_sem, ↓reduceIte] <;> rfl) | fail) only [go_sem, ↓reduceIte]
  refine Qa hP (Qd2 (n := n) (Qj (val a + val b)) (show nl _ < _ by omega)) rfl rfl rfl ?_
  simp +decide (disch := first | omega | rfl | (simp +decide only [go_sem, ↓reduceIte] <;> rfl) | fail) only [go_sem, ↓reduceIte]
  refine Qaw ?_
  simp +decide (disch := first | omega | rfl | (simp +decide only [go_sem, ↓reduceIte] <;> rfl) | fail) only [go_sem, ↓reduceIte]
  exact Qc (congrArg PV.zz (by rw [Qgk]; unfold zv; split <;> simp <;> omega)) rfl
 have hnm : n = !m := by cases n <;> cases m <;> simp_all
 subst hnm
 simp +decide (disch := first | omega | rfl | (simp +decide only [go_sem, ↓reduceIte] <;> rfl) | fail) only [go_sem, ↓reduceIte]
 refine Qa hP (Qjz ha hb hla hlb) rfl rfl rfl ?_
 by_cases hc : val a < val b
 ·rw [if_pos hc]
  have hr := Qbs (Nat.sub_le (val b) (val a))
  simp +decide (disch := first | omega | rfl | (simp +decide only [go_sem, ↓reduceIte] <;> rfl) | fail) only [go_sem, ↓reduceIte]
  refine Qa hP (Qjz hb ha hlb hla) rfl rfl rfl ?_
  rw [if_neg (by omega)]
  simp +decide (disch := first | omega | rfl | (simp +decide only [go_sem, ↓reduceIte] <;> rfl) | fail) only [go_sem, ↓reduceIte]
  refine Qa hP (Qd2 (n := m) (Qj (val b - val a)) (show nl _ < _ by omega)) rfl rfl rfl ?_
  simp +decide (disch := first | omega | rfl | (simp +decide only [go_sem, ↓reduceIte] <;> rfl) | fail) only [go_sem, ↓reduceIte]
  refine Qaw ?_
  simp +decide (disch := first | omega | rfl | (simp +decide only [go_sem, ↓reduceIte] <;> rfl) | fail) only [go_sem, ↓reduceIte]
  exact Qc (congrArg PV.zz (by rw [Qgk]; unfold zv; cases m <;> simp <;> omega)) rfl
 ·rw [if_neg hc]
  have hr := Qbs (Nat.sub_le (val a) (val b))
  simp +decide (disch := first | omega | rfl | (simp +decide only [go_sem, ↓reduceIte] <;> rfl) | fail) only [go_sem, ↓reduceIte]
  refine Qa hP (Qd2 (n := !m) (Qj (val a - val b)) (show nl _ < _ by omega)) rfl rfl rfl ?_
  simp +decide (disch := first | omega | rfl | (simp +decide only [go_sem, ↓reduceIte] <;> rfl) | fail) only [go_sem, ↓reduceIte]
  refine Qaw ?_
  simp +decide (disch := first | omega | rfl | (simp +decide only [go_sem, ↓reduceIte] <;> rfl) | fail) only [go_sem, ↓reduceIte]
  exact Qc (congrArg PV.zz (by rw [Qgk]; unfold zv; cases m <;> simp <;> omega)) rfl
end Go.Proofs.YtmnkngmmfnncoaaGreat
namespace Go.Proofs.YtmnkngmmfnncoaaGreat
open Go Go.FW
set_option linter.unusedSimpArgs false
set_option linter.unusedVariables false
set_option maxRecDepth 100000
theorem Qmt {a : List Nat} {g : Nat} (ha : Qh a) (hx : a.length < 2 ^ 36) (hy : nl g < 2 ^ 36) (h0 : g ≠ 0) : Qd Tryz.prog 168 [PV.nat a, PV.num g] (· = .tup [PV.num (val a / g), PV.num (val a % g), .int .i64 0]) := by
 have := Qkr ha (Qj g) hx hy
 rwa [Qy, if_neg h0] at this
theorem Qach (n : Bool) (a : List Nat) (D : Nat) : zv n (dig (val a / Nat.gcd (val a) D)) = zv n a / (Nat.gcd (zv n a).natAbs D : Int) := by
 rw [Qa5, Qgk]
 unfold zv
 cases n
 ·simp
 ·have hd : ((Nat.gcd (val a) D : Nat) : Int) ∣ (val a : Int) := Int.natCast_dvd_natCast.2 (Nat.gcd_dvd_left _ _)
  simp only [if_true]
  rw [Int.neg_ediv_of_dvd hd, Int.natCast_ediv]
theorem Qmu {n : Bool} {a d : List Nat} (ha : Qh a) (hd : Qh d) (hla : a.length < 2 ^ 36) (hld : d.length < 2 ^ 36) : Qd Tryz.prog 104 [PV.zi n a, PV.nat d] (· = PV.rat (rv n a d)) := by
 have hna := Qai ha
 have hnd := Qai hd
 refine Qi Qm Tryz.func104 rfl Q9p (by simp [Q5k]) fun C hP => ?_; simp only [Q5k]
 simp +decide (disch := first | omega | rfl | (simp +decide only [go_sem, ↓reduceIte] <;> rfl) | fail) only [go_sem, ↓reduceIte]
 refine Qa hP (Qbl hd (by omega)) rfl rfl rfl ?_
 simp +decide (disch := first | omega | rfl | (simp +decide only [go_sem, ↓reduceIte] <;> rfl) | fail) only [go_sem, ↓reduceIte]
 refine Qb (fun hz => ?_) (fun hz => ?_)
 ·have h0 : val d = 0 := Qbe.1 (Qcr (n := val d) (by omega))
  simp +decide (disch := first | omega | rfl | (simp +decide only [go_sem, ↓reduceIte] <;> rfl) | fail) only [go_sem, ↓reduceIte]
  refine Qa hP (Qcu (n := 1) (by omega)) rfl rfl rfl ?_
  simp +decide (disch := first | omega | rfl | (simp +decide only [go_sem, ↓reduceIte] <;> rfl) | fail) only [go_sem, ↓reduceIte]
  refine Qaw ?_
  simp +decide (disch := first | omega | rfl | (simp +decide only [go_sem, ↓reduceIte] <;> rfl) | fail) only [go_sem, ↓reduceIte]
  exact (by unfold rv; rw [Qnw (.inl h0), Qfj]; exact Qgy Qv5 rfl)
 ·have h0 : val d ≠ 0 := fun h => by rw [h, Qax] at hz; exact hz rfl
  have hg0 : Nat.gcd (val a) (val d) ≠ 0 := fun h => h0 (Nat.gcd_eq_zero_iff.1 h).2
  have hg := Qbs (Nat.gcd_le_right (val a) (Nat.pos_of_ne_zero h0))
  have hq := Qzy (val a) (Nat.gcd (val a) (val d))
  simp +decide (disch := first | omega | rfl | (simp +decide only [go_sem, ↓reduceIte] <;> rfl) | fail) only [go_sem, ↓reduceIte]
  refine Qa hP (Qn6 ha hd hla hld) rfl rfl rfl ?_
  simp +decide (disch := first | omega | rfl | (simp +decide only [go_sem, ↓reduceIte] <;> rfl) | fail) only [go_sem, ↓reduceIte]
  refine Qa hP (Qmt ha hla (by omega) hg0) rfl rfl rfl ?_
  simp +decide (disch := first | omega | rfl | (simp +decide only [go_sem, ↓reduceIte] <;> rfl) | fail) only [go_sem, ↓reduceIte]
  refine Qa hP (Qmt hd hld (by omega) hg0) rfl rfl rfl ?_
  simp +decide (disch := first | omega | rfl | (simp +decide only [go_sem, ↓reduceIte] <;> rfl) | fail) only [go_sem, ↓reduceIte]
  refine Qa hP (Qgo (n := n) (Qj (val a / Nat.gcd (val a) (val d))) (show nl _ < _ by omega)) rfl rfl rfl ?_
  rw [Qach]
  have hm := Qhn (z := zv n a) h0
  simp +decide (disch := first | omega | rfl | (simp +decide only [go_sem, ↓reduceIte] <;> rfl) | fail) only [go_sem, ↓reduceIte]
  refine Qaw ?_
  simp +decide (disch := first | omega | rfl | (simp +decide only [go_sem, ↓reduceIte] <;> rfl) | fail) only [go_sem, ↓reduceIte]
  exact Qc (by unfold rv; rw [PV.rat, hm.1, hm.2, Qa5]) rfl
theorem Qgp {n : Bool} {a d : List Nat} {k : Nat} (hp : Raw k n a d) (hk : k < 2 ^ 36) : Qd Tryz.prog 157 [PV.rr n a d] (· = PV.rat (rv n a d)) := by
 obtain ⟨ha, hd, sa, sd, k1⟩ := hp
 refine Qi Qm Tryz.func157 rfl Q9q (by simp [Q5l]) fun C hP => ?_; simp only [Q5l]
 simp +decide (disch := first | omega | rfl | (simp +decide only [go_sem, ↓reduceIte] <;> rfl) | fail) only [go_sem, ↓reduceIte]
 refine Qa hP (Qmu (n := n) ha hd (by omega) (by omega)) rfl rfl rfl ?_
 simp +decide (disch := first | omega | rfl | (simp +decide only [go_sem, ↓reduceIte] <;> rfl) | fail) only [go_sem, ↓reduceIte]
 refine Qaw ?_
 simp +decide (disch := first | omega | rfl | (simp +decide only [go_sem, ↓reduceIte] <;> rfl) | fail) only [go_sem, ↓reduceIte]
 exact Qc rfl rfl
theorem Qgq {z : Int} {D : Nat} (hz : nl z.natAbs < 2 ^ 36) (hD : nl D < 2 ^ 36) : Qd Tryz.prog 104 [PV.zz z, PV.num D] (· = PV.rat (mkRat z D)) := by
 have := Qmu (n := decide (z < 0)) (Qj z.natAbs) (Qj D) hz hD
 rwa [rv, Qeo, Qy] at this
theorem Qlu {x : Int} (h1 : -9223372036854775808 <= x) (h2 : x <= 9223372036854775807) : Qd Tryz.prog 34 [.int .i64 x] (· = PV.rat (x : Rat)) := by
 have hl1 : nl x.natAbs <= 4 := Qdt (by omega)
 refine Qi Qm Tryz.func34 rfl Qace (by simp [c34]) fun C hP => ?_; simp only [c34]
 simp +decide (disch := first | omega | rfl | (simp +decide only [go_sem, ↓reduceIte] <;> rfl) | fail) only [go_sem, ↓reduceIte]
 refine Qa hP (Qlt h1 h2) rfl rfl rfl ?_
 simp +decide (disch := first | omega | rfl | (simp +decide only [go_sem, ↓reduceIte] <;> rfl) | fail) only [go_sem, ↓reduceIte]
 refine Qa hP (Qcu (n := 1) (by omega)) rfl rfl rfl ?_
 simp +decide (disch := first | omega | rfl | (simp +decide only [go_sem, ↓reduceIte] <;> rfl) | fail) only [go_sem, ↓reduceIte]
 refine Qa hP (Qgq (z := x) (D := 1) (by omega) (by rw [Qkl]; omega)) rfl rfl rfl ?_
 simp +decide (disch := first | omega | rfl | (simp +decide only [go_sem, ↓reduceIte] <;> rfl) | fail) only [go_sem, ↓reduceIte]
 refine Qaw ?_
 simp +decide (disch := first | omega | rfl | (simp +decide only [go_sem, ↓reduceIte] <;> rfl) | fail) only [go_sem, ↓reduceIte]
 exact Qc (congrArg PV.rat (Rat.mkRat_one x)) rfl
theorem Qft (d : List Nat) : Qd Tryz.prog 161 [PV.nat d] (· = PV.zi false d) := by
 refine Qi Qm Tryz.func161 rfl Q9s (by simp [Q5n]) fun C hP => ?_; simp only [Q5n]
 simp +decide (disch := first | omega | rfl | (simp +decide only [go_sem, ↓reduceIte] <;> rfl) | fail) only [go_sem, ↓reduceIte]
 refine Qaw ?_
 simp +decide (disch := first | omega | rfl | (simp +decide only [go_sem, ↓reduceIte] <;> rfl) | fail) only [go_sem, ↓reduceIte]
 exact Qc rfl rfl
theorem Qxs {x : Int} (hx : nl x.natAbs < 2 ^ 42) : Qd Tryz.prog 156 [PV.zz x] (· = .int .i64 (sgn x)) := by
 have := Qui (n := decide (x < 0)) (Qj x.natAbs) hx
 rwa [Qeo] at this
end Go.Proofs.YtmnkngmmfnncoaaGreat
namespace Go.Proofs.YtmnkngmmfnncoaaGreat
open Go Go.FW
set_option linter.unusedSimpArgs false
set_option linter.unusedVariables false
set_option maxRecDepth 100000
theorem Qjj {x : Int} {d : Nat} (hx : nl x.natAbs < 2 ^ 40) (hy : nl d < 2 ^ 40) : Qd Tryz.prog 159 [PV.zz x, PV.zi false (dig d)] (· = PV.zz (x * (d : Int))) := by
 have := Qn7 (n := decide (x < 0)) (m := false) (Qj x.natAbs) (Qj d) hx hy
 rwa [Qeo, Qfc, Qy] at this
theorem Q0w {x y : Int} (hx : nl x.natAbs < 2 ^ 40) (hy : nl y.natAbs < 2 ^ 40) : Qd Tryz.prog 166 [PV.zz x, PV.zz y] (· = PV.zz (x + y)) := by
 have := Qvh (n := decide (x < 0)) (m := decide (y < 0)) (Qj x.natAbs) (Qj y.natAbs) hx hy
 rwa [Qeo, Qeo] at this
theorem Q0x {x y : Int} (hx : nl x.natAbs < 2 ^ 41) (hy : nl y.natAbs < 2 ^ 41) : Qd Tryz.prog 201 [PV.zz x, PV.zz y] (· = .int .i64 (Qep x y)) := by
 have := Qvg (n := decide (x < 0)) (m := decide (y < 0)) (Qj x.natAbs) (Qj y.natAbs) hx hy
 rwa [Qeo, Qeo] at this
theorem Qvi {n m : Bool} {a d b c : List Nat} {k : Nat} (hp : Raw k n a d) (hq : Raw k m b c) (hk : k < 2 ^ 34) : Qd Tryz.prog 83 [PV.rr n a d, PV.rr m b c] (· = PV.rat (rv n a d * rv m b c)) := by
 obtain ⟨ha, hd, sa, sd, k1⟩ := hp
 obtain ⟨hb, hc, sb, sc, k2⟩ := hq
 have h1 := Qat (zv n a) (zv m b)
 have h2 := Qe9 (val d) (val c)
 rw [Qa5, Qa5] at h1
 have e1 := Qai ha
 have e2 := Qai hd
 have e3 := Qai hb
 have e4 := Qai hc
 refine Qi Qm Tryz.func83 rfl Qacg (by simp [c83]) fun C hP => ?_; simp only [c83]
 simp +decide (disch := first | omega | rfl | (simp +decide only [go_sem, ↓reduceIte] <;> rfl) | fail) only [go_sem, ↓reduceIte]
 refine Qa hP (Qn7 (n := n) (m := m) ha hb (by omega) (by omega)) rfl rfl rfl ?_
 simp +decide (disch := first | omega | rfl | (simp +decide only [go_sem, ↓reduceIte] <;> rfl) | fail) only [go_sem, ↓reduceIte]
 refine Qa hP (Qj0 hd hc (by omega) (by omega)) rfl rfl rfl ?_
 simp +decide (disch := first | omega | rfl | (simp +decide only [go_sem, ↓reduceIte] <;> rfl) | fail) only [go_sem, ↓reduceIte]
 refine Qa hP (Qgq (z := zv n a * zv m b) (D := val d * val c) (by omega) (by omega)) rfl rfl rfl ?_
 simp +decide (disch := first | omega | rfl | (simp +decide only [go_sem, ↓reduceIte] <;> rfl) | fail) only [go_sem, ↓reduceIte]
 refine Qaw ?_
 simp +decide (disch := first | omega | rfl | (simp +decide only [go_sem, ↓reduceIte] <;> rfl) | fail) only [go_sem, ↓reduceIte]
 exact Qc (congrArg PV.rat (Rat.mkRat_mul_mkRat _ _ _ _).symm) rfl
theorem Qvj {n m : Bool} {a d b c : List Nat} {k : Nat} (hp : Raw k n a d) (hq : Raw k m b c) (hk : k < 2 ^ 34) : Qd Tryz.prog 148 [PV.rr n a d, PV.rr m b c] (· = .int .i64 (Qjt (rv n a d) (rv m b c))) := by
 have hx := hp.rs
 have hy := hq.rs
 unfold FW.rs at hx hy
 refine Qi Qm Tryz.func148 rfl Q9t (by simp [Q5o]) fun C hP => ?_; simp only [Q5o]
 simp +decide (disch := first | omega | rfl | (simp +decide only [go_sem, ↓reduceIte] <;> rfl) | fail) only [go_sem, ↓reduceIte]
 refine Qa hP (Qgp hp (by omega)) rfl rfl rfl ?_
 simp +decide (disch := first | omega | rfl | (simp +decide only [go_sem, ↓reduceIte] <;> rfl) | fail) only [go_sem, ↓reduceIte]
 refine Qa hP (Qgp hq (by omega)) rfl rfl rfl ?_
 generalize rv n a d = p at *
 generalize rv m b c = q at *
 have h1 := Qat p.num (q.den : Int)
 have h2 := Qat q.num (p.den : Int)
 rw [Int.natAbs_natCast] at h1 h2
 simp +decide (disch := first | omega | rfl | (simp +decide only [go_sem, ↓reduceIte] <;> rfl) | fail) only [go_sem, ↓reduceIte]
 refine Qa hP (Qft (dig q.den)) rfl rfl rfl ?_
 simp +decide (disch := first | omega | rfl | (simp +decide only [go_sem, ↓reduceIte] <;> rfl) | fail) only [go_sem, ↓reduceIte]
 refine Qa hP (Qjj (x := p.num) (d := q.den) (by omega) (by omega)) rfl rfl rfl ?_
 simp +decide (disch := first | omega | rfl | (simp +decide only [go_sem, ↓reduceIte] <;> rfl) | fail) only [go_sem, ↓reduceIte]
 refine Qa hP (Qft (dig p.den)) rfl rfl rfl ?_
 simp +decide (disch := first | omega | rfl | (simp +decide only [go_sem, ↓reduceIte] <;> rfl) | fail) only [go_sem, ↓reduceIte]
 refine Qa hP (Qjj (x := q.num) (d := p.den) (by omega) (by omega)) rfl rfl rfl ?_
 simp +decide (disch := first | omega | rfl | (simp +decide only [go_sem, ↓reduceIte] <;> rfl) | fail) only [go_sem, ↓reduceIte]
 refine Qa hP (Q0x (x := p.num * (q.den : Int)) (y := q.num * (p.den : Int)) (by omega) (by omega)) rfl rfl rfl ?_
 simp +decide (disch := first | omega | rfl | (simp +decide only [go_sem, ↓reduceIte] <;> rfl) | fail) only [go_sem, ↓reduceIte]
 exact Qc (congrArg (PV.int .i64) (by rw [<- Qv6 p.den_nz q.den_nz, Rat.mkRat_self, Rat.mkRat_self])) rfl
theorem Ql7 {n m : Bool} {a d b c : List Nat} {k : Nat} (hp : Raw k n a d) (hq : Raw k m b c) (hk : k < 2 ^ 34) : Qd Tryz.prog 72 [PV.rr n a d, PV.rr m b c] (· = .bool (decide (rv n a d = rv m b c))) := by
 refine Qi Qm Tryz.func72 rfl Qacf (by simp [c72]) fun C hP => ?_; simp only [c72]
 simp +decide (disch := first | omega | rfl | (simp +decide only [go_sem, ↓reduceIte] <;> rfl) | fail) only [go_sem, ↓reduceIte]
 refine Qa hP (Qvj hp hq hk) rfl rfl rfl ?_
 simp +decide (disch := first | omega | rfl | (simp +decide only [go_sem, ↓reduceIte] <;> rfl) | fail) only [go_sem, ↓reduceIte]
 exact Qc (congrArg PV.bool (decide_eq_decide.2 Qri)) rfl
theorem Qvk {n m : Bool} {a d b c : List Nat} {k : Nat} (hp : Raw k n a d) (hq : Raw k m b c) (hk : k < 2 ^ 34) : Qd Tryz.prog 101 [PV.rr n a d, PV.rr m b c] (· = PV.rat (rv n a d + rv m b c)) := by
 have hx := hp.rs
 have hy := hq.rs
 unfold FW.rs at hx hy
 refine Qi Qm Tryz.func101 rfl Q9u (by simp [Q5p]) fun C hP => ?_; simp only [Q5p]
 simp +decide (disch := first | omega | rfl | (simp +decide only [go_sem, ↓reduceIte] <;> rfl) | fail) only [go_sem, ↓reduceIte]
 refine Qa hP (Qgp hp (by omega)) rfl rfl rfl ?_
 simp +decide (disch := first | omega | rfl | (simp +decide only [go_sem, ↓reduceIte] <;> rfl) | fail) only [go_sem, ↓reduceIte]
 refine Qa hP (Qgp hq (by omega)) rfl rfl rfl ?_
 generalize rv n a d = p at *
 generalize rv m b c = q at *
 have h1 := Qat p.num (q.den : Int)
 have h2 := Qat q.num (p.den : Int)
 have h3 := Qew (p.num * (q.den : Int)) (q.num * (p.den : Int))
 have h4 := Qe9 p.den q.den
 rw [Int.natAbs_natCast] at h1 h2
 simp +decide (disch := first | omega | rfl | (simp +decide only [go_sem, ↓reduceIte] <;> rfl) | fail) only [go_sem, ↓reduceIte]
 refine Qa hP (Qft (dig q.den)) rfl rfl rfl ?_
 simp +decide (disch := first | omega | rfl | (simp +decide only [go_sem, ↓reduceIte] <;> rfl) | fail) only [go_sem, ↓reduceIte]
 refine Qa hP (Qjj (x := p.num) (d := q.den) (by omega) (by omega)) rfl rfl rfl ?_
 simp +decide (disch := first | omega | rfl | (simp +decide only [go_sem, ↓reduceIte] <;> rfl) | fail) only [go_sem, ↓reduceIte]
 refine Qa hP (Qft (dig p.den)) rfl rfl rfl ?_
 simp +decide (disch := first | omega | rfl | (simp +decide only [go_sem, ↓reduceIte] <;> rfl) | fail) only [go_sem, ↓reduceIte]
 refine Qa hP (Qjj (x := q.num) (d := p.den) (by omega) (by omega)) rfl rfl rfl ?_
 simp +decide (disch := first | omega | rfl | (simp +decide only [go_sem, ↓reduceIte] <;> rfl) | fail) only [go_sem, ↓reduceIte]
 refine Qa hP (Q0w (x := p.num * (q.den : Int)) (y := q.num * (p.den : Int)) (by omega) (by omega)) rfl rfl rfl ?_
 simp +decide (disch := first | omega | rfl | (simp +decide only [go_sem, ↓reduceIte] <;> rfl) | fail) only [go_sem, ↓reduceIte]
 refine Qa hP (Qh7 (x := p.den) (y := q.den) (by omega) (by omega)) rfl rfl rfl ?_
 simp +decide (disch := first | omega | rfl | (simp +decide only [go_sem, ↓reduceIte] <;> rfl) | fail) only [go_sem, ↓reduceIte]
 refine Qa hP (Qgq (z := p.num * (q.den : Int) + q.num * (p.den : Int)) (D := p.den * q.den) (by omega) (by omega)) rfl rfl rfl ?_
 simp +decide (disch := first | omega | rfl | (simp +decide only [go_sem, ↓reduceIte] <;> rfl) | fail) only [go_sem, ↓reduceIte]
 refine Qaw ?_
 simp +decide (disch := first | omega | rfl | (simp +decide only [go_sem, ↓reduceIte] <;> rfl) | fail) only [go_sem, ↓reduceIte]
 exact Qc (congrArg PV.rat (by rw [<- Rat.mkRat_add_mkRat _ _ p.den_nz q.den_nz, Rat.mkRat_self, Rat.mkRat_self])) rfl
end Go.Proofs.YtmnkngmmfnncoaaGreat
namespace Go.Proofs.YtmnkngmmfnncoaaGreat
open Go Go.FW
set_option linter.unusedSimpArgs false
set_option linter.unusedVariables false
set_option maxRecDepth 100000
theorem Qsd {n : Bool} {a d : List Nat} {k : Nat} (hp : Raw k n a d) (hk : k < 2 ^ 36) : Qd Tryz.prog 45 [PV.rr n a d] (· = .bool (Qfr n a d)) := by
 obtain ⟨ha, hd, sa, sd, k1⟩ := hp
 have hgl : (dig (Nat.gcd (val a) (val d))).length < 2 ^ 43 := by
  by_cases h0 : val d = 0
  ·rw [h0, Nat.gcd_zero_right]
   have h4 := Qai ha
   unfold nl at h4; omega
  ·have h3 := Qbs (Nat.gcd_le_right (val a) (Nat.pos_of_ne_zero h0))
   have h4 := Qai hd
   unfold nl at h3 h4; omega
 refine Qi Qm Tryz.func45 rfl Qacd (by simp [c45]) fun C hP => ?_; simp only [c45]
 simp +decide (disch := first | omega | rfl | (simp +decide only [go_sem, ↓reduceIte] <;> rfl) | fail) only [go_sem, ↓reduceIte]
 refine Qa hP (Qsc ha (by omega)) rfl rfl rfl ?_
 unfold Qfr
 simp +decide (disch := first | omega | rfl | (simp +decide only [go_sem, ↓reduceIte] <;> rfl) | fail) only [go_sem, ↓reduceIte]
 cases hio : Qfl n a
 ·simp +decide (disch := first | omega | rfl | (simp +decide only [go_sem, ↓reduceIte] <;> rfl) | fail) only [go_sem, ↓reduceIte]
  exact Qc (by simp) rfl
 rw [Bool.true_and]
 simp +decide (disch := first | omega | rfl | (simp +decide only [go_sem, ↓reduceIte] <;> rfl) | fail) only [go_sem, ↓reduceIte]
 refine Qa hP (Ql5 hd (by omega)) rfl rfl rfl ?_
 simp +decide (disch := first | omega | rfl | (simp +decide only [go_sem, ↓reduceIte] <;> rfl) | fail) only [go_sem, ↓reduceIte]
 refine Qfh (fun hv => ?_) (fun hv => ?_)
 ·simp +decide (disch := first | omega | rfl | (simp +decide only [go_sem, ↓reduceIte] <;> rfl) | fail) only [go_sem, ↓reduceIte]
  refine Qa hP (Qn6 ha hd (by omega) (by omega)) rfl rfl rfl ?_
  simp +decide (disch := first | omega | rfl | (simp +decide only [go_sem, ↓reduceIte] <;> rfl) | fail) only [go_sem, ↓reduceIte]
  refine Qa hP (Qcu (n := 1) (by omega)) rfl rfl rfl ?_
  simp +decide (disch := first | omega | rfl | (simp +decide only [go_sem, ↓reduceIte] <;> rfl) | fail) only [go_sem, ↓reduceIte]
  refine Qa hP (Quh hgl (by rw [Qfj]; decide)) rfl rfl rfl ?_
  rw [Qfj, decide_eq_decide.2 (Qn1 (Nat.gcd (val a) (val d)))]
  simp +decide (disch := first | omega | rfl | (simp +decide only [go_sem, ↓reduceIte] <;> rfl) | fail) only [go_sem, ↓reduceIte]
  refine Qb3 (fun hg => ?_) (fun hg => ?_)
  ·simp +decide (disch := first | omega | rfl | (simp +decide only [go_sem, ↓reduceIte] <;> rfl) | fail) only [go_sem, ↓reduceIte]
   exact Qc (congrArg PV.bool (by cases d <;> simp_all)) rfl
  ·simp +decide (disch := first | omega | rfl | (simp +decide only [go_sem, ↓reduceIte] <;> rfl) | fail) only [go_sem, ↓reduceIte]
   exact Qc (congrArg PV.bool (by simp [hg])) rfl
 ·simp +decide (disch := first | omega | rfl | (simp +decide only [go_sem, ↓reduceIte] <;> rfl) | fail) only [go_sem, ↓reduceIte]
  exact Qc (congrArg PV.bool (by simp_all)) rfl
end Go.Proofs.YtmnkngmmfnncoaaGreat
namespace Go.Proofs.YtmnkngmmfnncoaaGreat
open Go Go.FW
set_option linter.unusedSimpArgs false
set_option linter.unusedVariables false
set_option maxRecDepth 100000
end Go.Proofs.YtmnkngmmfnncoaaGreat
namespace Go.Proofs.YtmnkngmmfnncoaaGreat
open Go Go.FW
set_option linter.unusedSimpArgs false
set_option linter.unusedVariables false
set_option maxRecDepth 100000
end Go.Proofs.YtmnkngmmfnncoaaGreat
namespace Go.Proofs.YtmnkngmmfnncoaaGreat
open Go Go.FW
set_option linter.unusedSimpArgs false
set_option linter.unusedVariables false
set_option maxRecDepth 100000
end Go.Proofs.YtmnkngmmfnncoaaGreat
namespace Go.Proofs.YtmnkngmmfnncoaaGreat
open Go Go.FW
set_option linter.unusedSimpArgs false
set_option linter.unusedVariables false
set_option maxRecDepth 100000
end Go.Proofs.YtmnkngmmfnncoaaGreat
namespace Go.Proofs.YtmnkngmmfnncoaaGreat
open Go Go.FW
set_option linter.unusedSimpArgs false
set_option linter.unusedVariables false
set_option maxRecDepth 100000
theorem Q5q {a b : Rat} {k : Nat} (ha : rs a <= k) (hb : rs b <= k) (hk : k < 2 ^ 34) : Qd Tryz.prog 101 [PV.rat a, PV.rat b] (· = PV.rat (a + b)) := by
 have := Qvk (Qct ha) (Qct hb) hk
 rwa [Qdh, Qdh] at this
theorem Q5r {a b : Rat} {k : Nat} (ha : rs a <= k) (hb : rs b <= k) (hk : k < 2 ^ 34) : Qd Tryz.prog 83 [PV.rat a, PV.rat b] (· = PV.rat (a * b)) := by
 have := Qvi (Qct ha) (Qct hb) hk
 rwa [Qdh, Qdh] at this
end Go.Proofs.YtmnkngmmfnncoaaGreat
namespace Go.Proofs.YtmnkngmmfnncoaaGreat
open Go Go.FW
set_option linter.unusedSimpArgs false
set_option linter.unusedVariables false
set_option maxRecDepth 100000
end Go.Proofs.YtmnkngmmfnncoaaGreat
namespace Go.Proofs.YtmnkngmmfnncoaaGreat
open Go Go.FW
set_option linter.unusedSimpArgs false
set_option linter.unusedVariables false
set_option maxRecDepth 100000
end Go.Proofs.YtmnkngmmfnncoaaGreat
namespace Go.Proofs.YtmnkngmmfnncoaaGreat
open Go Go.FW
set_option linter.unusedSimpArgs false
set_option linter.unusedVariables false
set_option maxRecDepth 100000
end Go.Proofs.YtmnkngmmfnncoaaGreat
namespace Go.Proofs.YtmnkngmmfnncoaaGreat
open Go Go.FW
set_option maxRecDepth 100000
end Go.Proofs.YtmnkngmmfnncoaaGreat
namespace Go.Proofs.YtmnkngmmfnncoaaGreat
open Go Go.FW
set_option linter.unusedSimpArgs false
set_option linter.unusedVariables false
set_option maxRecDepth 100000
theorem Qxt {a b : Rat} {k : Nat} (ha : rs a <= k) (hb : rs b <= k) (hk : k < 2 ^ 34) : Qd Tryz.prog 72 [PV.rat a, PV.rat b] (· = .bool (decide (a = b))) := by
 have := Ql7 (Qct ha) (Qct hb) hk
 rwa [Qdh, Qdh] at this
end Go.Proofs.YtmnkngmmfnncoaaGreat
namespace Go.Proofs.YtmnkngmmfnncoaaGreat
open Go Go.FW
set_option linter.unusedSimpArgs false
set_option linter.unusedVariables false
set_option maxRecDepth 100000
end Go.Proofs.YtmnkngmmfnncoaaGreat
namespace Go.Proofs.YtmnkngmmfnncoaaGreat
open Go Go.FW
set_option linter.unusedSimpArgs false
set_option linter.unusedVariables false
set_option maxRecDepth 100000
end Go.Proofs.YtmnkngmmfnncoaaGreat
namespace Go.Proofs.YtmnkngmmfnncoaaGreat
open Go Go.FW
set_option linter.unusedSimpArgs false
set_option linter.unusedVariables false
set_option maxRecDepth 100000
end Go.Proofs.YtmnkngmmfnncoaaGreat
namespace Go.Proofs.YtmnkngmmfnncoaaGreat
open Go Go.FW
set_option linter.unusedSimpArgs false
set_option linter.unusedVariables false
set_option maxRecDepth 100000
end Go.Proofs.YtmnkngmmfnncoaaGreat
namespace Go.Proofs.YtmnkngmmfnncoaaGreat
open Go Go.FW
set_option linter.unusedSimpArgs false
set_option linter.unusedVariables false
set_option maxRecDepth 100000
end Go.Proofs.YtmnkngmmfnncoaaGreat
namespace Go.FW
open Go
theorem Qp0 (x y : Int) (hy : y ≠ 0) : mkRat (zv (decide (x < 0) != decide (y < 0)) (dig x.natAbs)) y.natAbs = (x : Rat) / (y : Rat) := by
 rw [Rat.mkRat_eq_div, Qgk, <- Rat.intCast_natCast]
 have h3 : (y : Rat) ≠ 0 := by rw [Ne, Rat.intCast_eq_zero_iff]; exact hy
 by_cases hy0 : y < 0
 ·have e2 : (((y.natAbs : Nat) : Int) : Rat) = - (y : Rat) := by rw [<- Rat.intCast_neg]; congr 1; omega
  have e1 : (if (decide (x < 0) != decide (y < 0)) = true then -(x.natAbs : Int) else x.natAbs) = -x := by
   by_cases hx : x < 0 <;> simp [hx, hy0] <;> omega
  rw [e1, e2, Rat.intCast_neg]
  grind
 ·have e2 : (((y.natAbs : Nat) : Int) : Rat) = (y : Rat) := by congr 1; omega
  have e1 : (if (decide (x < 0) != decide (y < 0)) = true then -(x.natAbs : Int) else x.natAbs) = x := by
   by_cases hx : x < 0 <;> simp [hx, hy0] <;> omega
  rw [e1, e2]
theorem Qaci {n m : Bool} {a d b c : List Nat} (hd : val d ≠ 0) (hc : val c ≠ 0) (hb : zv m b ≠ 0) : ((zv n a * (val c : Int) : Int) : Rat) / ((zv m b * (val d : Int) : Int) : Rat) = rv n a d / rv m b c := by
 have h1 : ((val d : Int) : Rat) ≠ 0 := by rw [Ne, Rat.intCast_eq_zero_iff]; omega
 have h2 : ((val c : Int) : Rat) ≠ 0 := by rw [Ne, Rat.intCast_eq_zero_iff]; omega
 have h3 : ((zv m b : Int) : Rat) ≠ 0 := by rw [Ne, Rat.intCast_eq_zero_iff]; exact hb
 unfold rv
 rw [Rat.mkRat_eq_div, Rat.mkRat_eq_div, Rat.intCast_mul, Rat.intCast_mul]
 rw [<- Rat.intCast_natCast, <- Rat.intCast_natCast]
 grind
end Go.FW
