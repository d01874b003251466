/- Part 6 of the proof of MatrixDets: L1, CM, CP, R3, R4, M1, M2, P1, P2, P3, P8, CS2, CS3, CU, W1, W2, W3, CS, S1, S2, S3, S4, S5, S6, S7, S8, S9, T1, T1b, T1c, T1d, U1, U2, P4, U3, CL, U4, U7, U8, U10, W4, W5, FwUD. Own lemmas; no conditions. -/
import Derived.Test.YtmnkngmmfnncoaaGreatMatrixDetsPart5
set_option linter.unusedSimpArgs false
set_option linter.unnecessarySimpa false
set_option linter.unusedVariables false
namespace Go.Proofs.YtmnkngmmfnncoaaGreat
open Go Go.FW Go.ChangeShapes Go.WideShapes Go.ChangeAt Go.RowKit
set_option linter.unusedSimpArgs false
set_option linter.unusedVariables false
set_option maxRecDepth 100000
variable {H : Type} {enc : TypeId × Value -> H}
def I64 (x : Int) : Prop := -9223372036854775808 <= x /\ x <= 9223372036854775807
theorem Q2j : Rd enc 24 fun ps => ∃ (r c : Int) (l : List RQ), ps = (PV.rmat r c l).cells /\ I64 r /\ I64 c /\ Qcs l := by
 refine (Qvj (Qs := [fun ps => ∃ n : Int, ps = [.int .i64 n] /\ -9223372036854775808 <= n /\ n <= 9223372036854775807, fun ps => ∃ n : Int, ps = [.int .i64 n] /\ -9223372036854775808 <= n /\ n <= 9223372036854775807, fun ps => ∃ l : List RQ, ps = [PV.rqs l] /\ Qcs l]) Qb0 Tryz.underlying24 (by kernel_rfl) ⟨rfl, Qsq Tryz.underlying3, by kernel_rfl, Qsq Tryz.underlying3, by kernel_rfl, Qaa3, trivial⟩).mono ?_
 rintro ps ⟨p, q, rfl, ⟨r, rfl, h1⟩, p2, q2, rfl, ⟨c, rfl, h2⟩, p3, q3, rfl, ⟨l, rfl, h3⟩, rfl⟩
 exact ⟨r, c, l, rfl, h1, h2, h3⟩
variable {w : World} {base : Nat} {spare : Nat -> Bool} {held : Bool} {r : Reach} {b0 : Nat} {v : Value} {d : DataW H} {ps : List MemPlace}
theorem Qqx (Qdl : Value.okWide Tryz.prog w r b0 24 v) (hd : DataW.Trod enc Tryz.prog w base spare held 24 v d ps) (hn : Rows.uptoBulk d <= 1048576) : ∃ r c l, Qai w Qbh (PV.rmat r c l) v /\ I64 r /\ I64 c /\ Qcs l := by
 obtain ⟨p, ⟨r, c, l, rfl, h1, h2, h3⟩, h4⟩ := Qy3 Tryz.underlying24 Qdl Q2j hd hn
 exact ⟨r, c, l, h4, h1, h2, h3⟩
end Go.Proofs.YtmnkngmmfnncoaaGreat
namespace Go.Proofs.YtmnkngmmfnncoaaGreat
open Go Go.FW
set_option maxRecDepth 100000
end Go.Proofs.YtmnkngmmfnncoaaGreat
namespace Go.Proofs.YtmnkngmmfnncoaaGreat
open Go Go.FW
set_option maxRecDepth 100000
end Go.Proofs.YtmnkngmmfnncoaaGreat
namespace Go.Proofs.YtmnkngmmfnncoaaGreat
open Go Go.FW
set_option linter.unusedSimpArgs false
set_option linter.unusedVariables false
set_option maxRecDepth 100000
theorem Q2k {n m : Bool} {a d b c : List Nat} {k : Nat} (hp : Raw k n a d) (hq : Raw k m b c) (hk : k < 2 ^ 36) : Qd Tryz.prog 38 [PV.rr n a d, PV.rr m b c] (· = PV.rat (rv n a d * rv m b c)) := by
 refine Qh Qm Tryz.func38 rfl Qads (by simp [c38]) fun C hP => ?_; simp only [c38, Zo, Zg, Zm, Zc, Zf, Zl, Zh, Zs, Zi, Zb, Zk, Zn, Zu, Zq, Zr, Zz]
 simp +decide (disch := first | exact D0 | fail) only [go_sem, ↓reduceIte]
 refine Qck hP (Qde hp.la hp.ld hp.k1 hp.sa hp.sd (by omega)) rfl rfl rfl ?_
 rintro _ ⟨n', a', d', rfl, g1, g2, g3, g4, g5, g6⟩
 simp +decide (disch := first | exact D0 | fail) only [go_sem, ↓reduceIte]
 refine Qck hP (Qde hq.la hq.ld hq.k1 hq.sa hq.sd (by omega)) rfl rfl rfl ?_
 rintro _ ⟨m', b', c', rfl, e1, e2, e3, e4, e5, e6⟩
 simp +decide (disch := first | exact D0 | fail) only [go_sem, ↓reduceIte]
 have hza : nl (zv n' a').natAbs <= k := by rw [Qbb]; exact Nat.le_trans (Qal g1) g3
 have hzb : nl (zv m' b').natAbs <= k := by rw [Qbb]; exact Nat.le_trans (Qal e1) e3
 have hvd : nl (val d') <= k := Nat.le_trans (Qal g2) g4
 have hvc : nl (val c') <= k := Nat.le_trans (Qal e2) e4
 have h3 := Qay (zv n' a') (zv m' b')
 have h6 := Qfr (val d') (val c')
 refine Qa hP (Qdt (n := n') (m := m') g1 e1 (by omega) (by omega)) rfl rfl rfl ?_
 simp +decide (disch := first | exact D0 | fail) only [go_sem, ↓reduceIte]
 refine Qa hP (Qmi g2 e2 (by omega) (by omega)) rfl rfl rfl ?_
 simp +decide (disch := first | exact D0 | fail) only [go_sem, ↓reduceIte]
 refine Qa hP (Qis (z := zv n' a' * zv m' b') (Qi _) (by omega) (by show nl _ < _; omega)) rfl rfl rfl ?_
 simp +decide (disch := first | exact D0 | fail) only [go_sem, ↓reduceIte]
 refine Qa0 ?_
 simp +decide (disch := first | exact D0 | fail) only [go_sem, ↓reduceIte]
 refine Qc ?_ rfl
 rw [Qy, <- g6, <- e6]
 unfold rv
 rw [Rat.mkRat_mul_mkRat]
theorem Qmm {n : Bool} {a d : List Nat} {k : Nat} (hp : Raw k n a d) (hk : k < 2 ^ 36) : Qd Tryz.prog 36 [PV.rr n a d] (· = .int .i64 (Qd4 (rv n a d))) := by
 refine Qh Qm Tryz.func36 rfl Qadp (by simp [c36]) fun C hP => ?_; simp only [c36, Zo, Zg, Zm, Zc, Zf, Zl, Zh, Zs, Zi, Zb, Zk, Zn, Zu, Zq, Zr, Zz]
 simp +decide (disch := first | exact D0 | fail) only [go_sem, ↓reduceIte]
 refine Qck hP (Qde hp.la hp.ld hp.k1 hp.sa hp.sd (by omega)) rfl rfl rfl ?_
 rintro _ ⟨n', a', d', rfl, g1, g2, g3, g4, g5, g6⟩
 simp +decide (disch := first | exact D0 | fail) only [go_sem, ↓reduceIte]
 refine Qa hP (Qhy g1 (by omega)) rfl rfl rfl ?_
 simp +decide (disch := first | exact D0 | fail) only [go_sem, ↓reduceIte]
 exact Qc (by rw [<- g6]; unfold rv; rw [Q1t g5]) rfl
theorem Q2l {n m : Bool} {a d b c : List Nat} {k : Nat} (hp : Raw k n a d) (hq : Raw k m b c) (hk : k < 2 ^ 36) : Qd Tryz.prog 115 [PV.rr n a d, PV.rr m b c] (· = .int .i64 (Qkp (rv n a d) (rv m b c))) := by
 refine Qh Qm Tryz.func115 rfl Qaaa (by simp [Q51]) fun C hP => ?_; simp only [Q51, Zo, Zg, Zm, Zc, Zf, Zl, Zh, Zs, Zi, Zb, Zk, Zn, Zu, Zq, Zr, Zz]
 simp +decide (disch := first | exact D0 | fail) only [go_sem, ↓reduceIte]
 refine Qa hP (Qmm hp hk) rfl rfl rfl ?_
 simp +decide (disch := first | exact D0 | fail) only [go_sem, ↓reduceIte]
 refine Qa hP (Qmm hq hk) rfl rfl rfl ?_
 simp +decide (disch := first | exact D0 | fail) only [go_sem, ↓reduceIte]
 refine Qb (fun h1 => ?_) (fun h1 => ?_)
 ·simp +decide (disch := first | exact D0 | fail) only [go_sem, ↓reduceIte]
  refine Qb (fun h2 => ?_) (fun h2 => ?_)
  ·simp +decide (disch := first | exact D0 | fail) only [go_sem, ↓reduceIte]
   exact Qc (by rw [Qu0 h2]) rfl
  ·simp +decide (disch := first | exact D0 | fail) only [go_sem, ↓reduceIte]
   exact Qc (by rw [Q4z (by omega)]) rfl
 simp +decide (disch := first | exact D0 | fail) only [go_sem, ↓reduceIte]
 refine Qck hP (Qde hp.la hp.ld hp.k1 hp.sa hp.sd (by omega)) rfl rfl rfl ?_
 rintro _ ⟨n', a', d', rfl, g1, g2, g3, g4, g5, g6⟩
 simp +decide (disch := first | exact D0 | fail) only [go_sem, ↓reduceIte]
 refine Qck hP (Qde hq.la hq.ld hq.k1 hq.sa hq.sd (by omega)) rfl rfl rfl ?_
 rintro _ ⟨m', b', c', rfl, e1, e2, e3, e4, e5, e6⟩
 have hza : nl (zv n' a').natAbs <= k := by rw [Qbb]; exact Nat.le_trans (Qal g1) g3
 have hzb : nl (zv m' b').natAbs <= k := by rw [Qbb]; exact Nat.le_trans (Qal e1) e3
 have hvd : nl (val d') <= k := Nat.le_trans (Qal g2) g4
 have hvc : nl (val c') <= k := Nat.le_trans (Qal e2) e4
 have h3 := Qay (zv n' a') (val c')
 have h4 := Qay (zv m' b') (val d')
 rw [Int.natAbs_natCast] at h3 h4
 simp +decide (disch := first | exact D0 | fail) only [go_sem, ↓reduceIte]
 refine Qa hP (Qed _) rfl rfl rfl ?_
 simp +decide (disch := first | exact D0 | fail) only [go_sem, ↓reduceIte]
 refine Qa hP (Qdt (n := n') (m := false) g1 e2 (by omega) (by omega)) rfl rfl rfl ?_
 simp +decide (disch := first | exact D0 | fail) only [go_sem, ↓reduceIte]
 refine Qa hP (Qed _) rfl rfl rfl ?_
 simp +decide (disch := first | exact D0 | fail) only [go_sem, ↓reduceIte]
 refine Qa hP (Qdt (n := m') (m := false) e1 g2 (by omega) (by omega)) rfl rfl rfl ?_
 rw [Qfu, Qfu]
 simp +decide (disch := first | exact D0 | fail) only [go_sem, ↓reduceIte]
 refine Qa hP (Q6a (x := zv n' a' * (val c' : Int)) (y := zv m' b' * (val d' : Int)) (by omega) (by omega)) rfl rfl rfl ?_
 simp +decide (disch := first | exact D0 | fail) only [go_sem, ↓reduceIte]
 exact Qc (by rw [<- g6, <- e6]; unfold rv; rw [Qxk g5 e5]) rfl
theorem Qwq {n m : Bool} {a d b c : List Nat} {k : Nat} (hp : Raw k n a d) (hq : Raw k m b c) (hk : k < 2 ^ 36) : Qd Tryz.prog 39 [PV.rr n a d, PV.rr m b c] (· = .bool (decide (rv n a d = rv m b c))) := by
 refine Qh Qm Tryz.func39 rfl Qadq (by simp [c39]) fun C hP => ?_; simp only [c39, Zo, Zg, Zm, Zc, Zf, Zl, Zh, Zs, Zi, Zb, Zk, Zn, Zu, Zq, Zr, Zz]
 simp +decide (disch := first | exact D0 | fail) only [go_sem, ↓reduceIte]
 refine Qa hP (Q2l hp hq hk) rfl rfl rfl ?_
 simp +decide (disch := first | exact D0 | fail) only [go_sem, ↓reduceIte]
 exact Qc (congrArg PV.bool (decide_eq_decide.2 Qsm)) rfl
theorem Q2m {x : Int} (h1 : -9223372036854775808 <= x) (h2 : x <= 9223372036854775807) : Qd Tryz.prog 154 [.int .i64 x] (· = PV.zz x) := by
 refine Qh Qm Tryz.func154 rfl Q9y (by simp [Q5p]) fun C hP => ?_; simp only [Q5p, Zo, Zg, Zm, Zc, Zf, Zl, Zh, Zs, Zi, Zb, Zk, Zn, Zu, Zq, Zr, Zz]
 simp +decide (disch := first | exact D0 | fail) only [go_sem, ↓reduceIte]
 refine Qb (fun hc => ?_) (fun hc => ?_)
 ·obtain ⟨y, hy⟩ : ∃ y : Nat, x = -((y : Int) + 1) := ⟨(-(x + 1)).toNat, by omega⟩
  have e1 : IntKind.i64.wrap (x + 1) = -(y : Int) := by rw [Qgj (by omega) (by omega)]; omega
  have e2 : IntKind.i64.wrap (0 - -(y : Int)) = (y : Int) := by rw [Qgj (by omega) (by omega)]; omega
  have e3 : IntKind.u64.wrap (y : Int) = (y : Int) := Qe3 (by omega) (by omega)
  have e4 : IntKind.u64.wrap ((y + 1 : Nat) : Int) = ((y + 1 : Nat) : Int) := Qe3 (by omega) (by omega)
  simp +decide (disch := first | exact D4 e1 e2 e3 e4 | fail) only [go_sem, ↓reduceIte, e1, e2, e3, e4]
  refine Qa hP (Qog (by omega)) rfl rfl rfl ?_
  simp +decide (disch := first | exact D0 | fail) only [go_sem, ↓reduceIte]
  refine Qa hP (Qfe true (y + 1)) rfl rfl rfl ?_
  simp +decide (disch := first | exact D0 | fail) only [go_sem, ↓reduceIte]
  refine Qa0 ?_
  simp +decide (disch := first | exact D0 | fail) only [go_sem, ↓reduceIte]
  exact Qc (congrArg PV.zz (by simp; omega)) rfl
 ·obtain ⟨y, rfl⟩ : ∃ y : Nat, x = y := ⟨x.toNat, by omega⟩
  simp +decide (disch := first | exact D0 | fail) only [go_sem, ↓reduceIte]
  refine Qa hP (Qog (by omega)) rfl rfl rfl ?_
  simp +decide (disch := first | exact D0 | fail) only [go_sem, ↓reduceIte]
  refine Qa hP (Qfe false y) rfl rfl rfl ?_
  simp +decide (disch := first | exact D0 | fail) only [go_sem, ↓reduceIte]
  refine Qa0 ?_
  simp +decide (disch := first | exact D0 | fail) only [go_sem, ↓reduceIte]
  exact Qc (congrArg PV.zz (by simp)) rfl
theorem Q2n {x : Int} (h1 : -9223372036854775808 <= x) (h2 : x <= 9223372036854775807) : Qd Tryz.prog 79 [.int .i64 x] (· = PV.rat (x : Rat)) := by
 refine Qh Qm Tryz.func79 rfl Qado (by simp [c79]) fun C hP => ?_; simp only [c79, Zo, Zg, Zm, Zc, Zf, Zl, Zh, Zs, Zi, Zb, Zk, Zn, Zu, Zq, Zr, Zz]
 simp +decide (disch := first | exact D0 | fail) only [go_sem, ↓reduceIte]
 refine Qa hP (Q2m h1 h2) rfl rfl rfl ?_
 simp +decide (disch := first | exact D0 | fail) only [go_sem, ↓reduceIte]
 refine Qa hP Qka rfl rfl rfl ?_
 simp +decide (disch := first | exact D0 | fail) only [go_sem, ↓reduceIte]
 refine Qa0 ?_
 simp +decide (disch := first | exact D0 | fail) only [go_sem, ↓reduceIte]
 exact Qc (by rw [PV.rat, Rat.num_intCast, Rat.den_intCast, PV.num, PV.num, Qf2]; rfl) rfl
theorem Qvk {n : Bool} {a : List Nat} (ha : Qg a) (hla : a.length < 2 ^ 42) : Qd Tryz.prog 207 [PV.zi n a] (· = .bool (Qf4 n a)) := by
 refine Qh Qm Tryz.func207 rfl Q9w (by simp [Q5n]) fun C hP => ?_; simp only [Q5n, Zo, Zg, Zm, Zc, Zf, Zl, Zh, Zs, Zi, Zb, Zk, Zn, Zu, Zq, Zr, Zz]
 simp +decide (disch := first | exact D0 | fail) only [go_sem, ↓reduceIte]
 refine Qb2 (fun h0 => ?_) (fun h0 => ?_)
 ·have : a = [] := List.length_eq_zero_iff.1 (by omega)
  subst this
  simp +decide (disch := first | exact D0 | fail) only [go_sem, ↓reduceIte]
  cases n
  ·simp +decide (disch := first | exact D0 | fail) only [go_sem, ↓reduceIte]
   refine Qc (congrArg PV.bool ?_) rfl
   simp [Qf4]
  ·simp +decide (disch := first | exact D0 | fail) only [go_sem, ↓reduceIte]
   refine Qc (congrArg PV.bool ?_) rfl
   simp [Qf4]
 ·obtain ⟨k, hk⟩ : ∃ k, a.length = k + 1 := ⟨a.length - 1, by omega⟩
  have hne : a ≠ [] := fun h => by rw [h] at hk; simp at hk
  have hl := Qow hk
  have e : ((k + 1 : Nat) : Int) - 1 = k := by omega
  generalize hx : a[k]'(by omega) = x at *
  simp +decide (disch := first | exact D3 hk e hx | fail) only [go_sem, ↓reduceIte, hk, e, hx]
  refine Qb2 (fun h => ?_) (fun h => absurd (by omega) h)
  simp +decide (disch := first | exact D3 hk e hx | fail) only [go_sem, ↓reduceIte, hk, e, hx]
  refine Qc (congrArg PV.bool ?_) rfl
  unfold Qf4
  rw [if_neg hne, hl]
  exact decide_eq_decide.2 ⟨fun h h' => h (by injection h' with h'; rw [h']; rfl), fun h h' => h (by rw [show x = 0 by omega])⟩
end Go.Proofs.YtmnkngmmfnncoaaGreat
namespace Go.Proofs.YtmnkngmmfnncoaaGreat
open Go Go.FW
set_option linter.unusedSimpArgs false
set_option linter.unusedVariables false
set_option maxRecDepth 100000
theorem Qwr {n : Bool} {a d : List Nat} {k : Nat} (hp : Raw k n a d) (hk : k < 2 ^ 36) : Qd Tryz.prog 163 [PV.rr n a d] (· = .bool (Qgd n a d)) := by
 obtain ⟨ha, hd, sa, sd, k1⟩ := hp
 refine Qh Qm Tryz.func163 rfl Q99 (by simp [Q50]) fun C hP => ?_; simp only [Q50, Zo, Zg, Zm, Zc, Zf, Zl, Zh, Zs, Zi, Zb, Zk, Zn, Zu, Zq, Zr, Zz]
 simp +decide (disch := first | exact D0 | fail) only [go_sem, ↓reduceIte]
 refine Qa hP (Qvk ha (by omega)) rfl rfl rfl ?_
 unfold Qgd
 simp +decide (disch := first | exact D0 | fail) only [go_sem, ↓reduceIte]
 cases hio : Qf4 n a
 ·simp +decide (disch := first | omega | rfl | (simp +decide only [go_sem, ↓reduceIte, Bool.not_false] <;> rfl) | fail) only [go_sem, ↓reduceIte, Bool.not_false]
  exact Qc (by simp) rfl
 rw [Bool.true_and]
 simp +decide (disch := first | omega | rfl | (simp +decide only [go_sem, ↓reduceIte, Bool.not_true] <;> rfl) | fail) only [go_sem, ↓reduceIte, Bool.not_true]
 refine Qa7 (fun h0 => ?_) (fun h0 => ?_)
 ·have : d = [] := List.length_eq_zero_iff.1 (by omega)
  subst this
  simp +decide (disch := first | exact D0 | fail) only [go_sem, ↓reduceIte]
  exact Qc (by simp) rfl
 obtain ⟨k', hk'⟩ : ∃ k, d.length = k + 1 := ⟨d.length - 1, by omega⟩
 have hne : d ≠ [] := fun h => by rw [h] at hk'; simp at hk'
 have hl := Qow hk'
 have e : ((k' + 1 : Nat) : Int) - 1 = k' := by omega
 generalize hx : d[k']'(by omega) = x at *
 simp +decide (disch := first | exact D3 hk' e hx | fail) only [go_sem, ↓reduceIte, hk', e, hx]
 refine Qb (fun h1 => ?_) (fun h1 => ?_)
 ·simp +decide (disch := first | exact D0 | fail) only [go_sem, ↓reduceIte]
  refine Qc (congrArg PV.bool ?_) rfl
  rw [hl, show x = 0 by omega]; simp
 have hx0 : x ≠ 0 := by omega
 simp +decide (disch := first | exact D0 | fail) only [go_sem, ↓reduceIte]
 refine Qa hP (Qmk (by omega)) rfl rfl rfl ?_
 simp +decide (disch := first | exact D0 | fail) only [go_sem, ↓reduceIte]
 refine Qa7 (fun h2 => ?_) (fun h2 => ?_)
 ·subst h2
  simp +decide (disch := first | exact D0 | fail) only [go_sem, ↓reduceIte]
  refine Qc (congrArg PV.bool ?_) rfl
  simp [val]
 ·simp +decide (disch := first | exact D0 | fail) only [go_sem, ↓reduceIte]
  refine Qa hP (Qu8 ha hd (by omega) (by omega)) rfl rfl rfl ?_
  have hD : 0 < val d := by
   apply Nat.pos_of_ne_zero
   intro h0
   have hdd := Qk9 hd (by rw [hl]; simpa using hx0)
   rw [h0, Qa1] at hdd
   exact hne hdd.symm
  have hgl : (dig (Nat.gcd (val a) (val d))).length < 2 ^ 43 := by
   have h3 := Qbx (Nat.gcd_le_right (val a) hD)
   have h4 := Qal hd
   unfold nl at h3 h4; omega
  simp +decide (disch := first | exact D0 | fail) only [go_sem, ↓reduceIte]
  refine Qa hP (Qru hgl) rfl rfl rfl ?_
  simp +decide (disch := first | exact D0 | fail) only [go_sem, ↓reduceIte]
  refine Qc (congrArg PV.bool ?_) rfl
  rw [hl]; simp [hne, hx0]
end Go.Proofs.YtmnkngmmfnncoaaGreat
namespace Go.Proofs.YtmnkngmmfnncoaaGreat
open Go Go.FW
set_option linter.unusedSimpArgs false
set_option linter.unusedVariables false
set_option maxRecDepth 100000
end Go.Proofs.YtmnkngmmfnncoaaGreat
namespace Go.Proofs.YtmnkngmmfnncoaaGreat
open Go Go.FW
set_option linter.unusedSimpArgs false
set_option linter.unusedVariables false
set_option maxRecDepth 100000
end Go.Proofs.YtmnkngmmfnncoaaGreat
namespace Go.Proofs.YtmnkngmmfnncoaaGreat
open Go Go.FW
set_option linter.unusedSimpArgs false
set_option linter.unusedVariables false
set_option maxRecDepth 100000
theorem Qto {a b : Rat} {k : Nat} (ha : rs a <= k) (hb : rs b <= k) (hk : k < 2 ^ 36) : Qd Tryz.prog 37 [PV.rat a, PV.rat b] (· = PV.rat (a + b)) := by
 have := Qst (Qc2 ha) (Qc2 hb) hk
 rwa [Qds, Qds] at this
theorem Qkc {a b : Rat} {k : Nat} (ha : rs a <= k) (hb : rs b <= k) (hk : k < 2 ^ 36) : Qd Tryz.prog 38 [PV.rat a, PV.rat b] (· = PV.rat (a * b)) := by
 have := Q2k (Qc2 ha) (Qc2 hb) hk
 rwa [Qds, Qds] at this
theorem Qxr {a b : Rat} {k : Nat} (ha : rs a <= k) (hb : rs b <= k) (hk : k < 2 ^ 36) : Qd Tryz.prog 39 [PV.rat a, PV.rat b] (· = .bool (decide (a = b))) := by
 have := Qwq (Qc2 ha) (Qc2 hb) hk
 rwa [Qds, Qds] at this
theorem Qln {a : Rat} (ha : rs a < 2 ^ 36) : Qd Tryz.prog 36 [PV.rat a] (· = .int .i64 (Qd4 a)) := by
 have := Qmm (Qc2 (Nat.le_refl (rs a))) ha
 rwa [Qds] at this
end Go.Proofs.YtmnkngmmfnncoaaGreat
namespace Go.Proofs.YtmnkngmmfnncoaaGreat
open Go Go.FW
set_option linter.unusedSimpArgs false
set_option linter.unusedVariables false
set_option maxRecDepth 100000
end Go.Proofs.YtmnkngmmfnncoaaGreat
namespace Go.Proofs.YtmnkngmmfnncoaaGreat
open Go Go.FW
set_option linter.unusedSimpArgs false
set_option linter.unusedVariables false
set_option maxRecDepth 100000
end Go.Proofs.YtmnkngmmfnncoaaGreat
namespace Go.Proofs.YtmnkngmmfnncoaaGreat
open Go Go.FW
set_option linter.unusedSimpArgs false
set_option linter.unusedVariables false
set_option maxRecDepth 100000
end Go.Proofs.YtmnkngmmfnncoaaGreat
namespace Go.Proofs.YtmnkngmmfnncoaaGreat
open Go Go.FW
set_option maxRecDepth 100000
end Go.Proofs.YtmnkngmmfnncoaaGreat
namespace Go.Proofs.YtmnkngmmfnncoaaGreat
open Go Go.FW
set_option maxRecDepth 100000
end Go.Proofs.YtmnkngmmfnncoaaGreat
namespace Go.Proofs.YtmnkngmmfnncoaaGreat
open Go Go.FW
set_option maxRecDepth 100000
def c71 : SFn := ⟨19, [.cell 4 3 true], Zr (Zo (.alloc 4 3 32 (.agg [.bool false, .nilS, .nilS])) .nil) <| Zr (Zm 8 0 <|
 Zq 9 false 105 [.t 8] <|
 Zm 10 1 <|
 Zq 11 false 105 [.t 10] <|
 Zq 12 false 147 [.t 9, .t 11] <|
 Zm 7 12 <|
 Zo (.ext 13 (.t 7) 0) <|
 Zo (.ext 14 (.t 7) 1) <|
 Zo (.alloc 5 3 32 (.agg [.bool false, .nilS, .nilS])) <|
 Zs 3 5 13 <|
 Zm 6 14 .nil) <| .seq (Zr (Zm 15 6 <|
 Zk 16 .neq 15 0 .nil) <| .cond (.t 16) (Zr (Zq 17 false 34 [.c (Zz 0)] <|
 Zs 3 4 17 .nil) .ret) .skip) <| Zr (Zh 18 3 5 <|
 Zs 3 4 18 .nil) .ret⟩
theorem Qaeb : Qe Tryz.prog Tryz.f71 = some c71 := by kernel_rfl
end Go.Proofs.YtmnkngmmfnncoaaGreat
namespace Go.Proofs.YtmnkngmmfnncoaaGreat
open Go Go.FW
set_option linter.unusedSimpArgs false
set_option linter.unusedVariables false
set_option maxRecDepth 100000
end Go.Proofs.YtmnkngmmfnncoaaGreat
namespace Go.Proofs.YtmnkngmmfnncoaaGreat
open Go Go.FW
set_option linter.unusedSimpArgs false
set_option linter.unusedVariables false
set_option maxRecDepth 100000
end Go.Proofs.YtmnkngmmfnncoaaGreat
namespace Go.Proofs.YtmnkngmmfnncoaaGreat
open Go Go.FW
set_option linter.unusedSimpArgs false
set_option linter.unusedVariables false
set_option maxRecDepth 100000
end Go.Proofs.YtmnkngmmfnncoaaGreat
namespace Go.Proofs.YtmnkngmmfnncoaaGreat
open Go Go.FW
set_option maxRecDepth 100000
def Q6s : SFn := ⟨24, [.t 2], Zr (Zo (.mv 2 (.c .nilS)) .nil) <| Zr (Zm 5 0 <|
 Zn 6 5 <|
 Zm 3 6 .nil) <| .seq (.block 0 <| .loop <| .seq (Zr (Zm 7 3 <|
 Zk 8 .gtr 7 0 <|
 Zm 9 8 <|
 Zg 9 true (.mv 10 (.t 0)) <|
 Zg 9 true (.mv 11 (.t 3)) <|
 Zg 9 true (.bin 12 .sub false (.t 11) (.c (Zz 1))) <|
 Zg 9 true (.idx 13 1 (.t 10) (.t 12)) <|
 Zg 9 true (.ld 14 1 false (.t 13)) <|
 Zg 9 true (.bin 15 .eql false (.t 14) (.c (.int .u16 0))) <|
 Zo (.pick 16 (.t 9) (.t 15) (.c (.bool false))) .nil) <| .cond (.t 16) .skip (.exit 0)) <| .block 1 <| .rg (Zm 17 3 <|
 Zk 18 .sub 17 1 <|
 Zm 3 18 .nil)) <| Zr (Zo (.mv 4 (.c .nilS)) .nil) <| Zr (Zm 19 4 <|
 Zm 20 0 <|
 Zm 21 3 <|
 Zo (.sl 22 1 (.t 20) none (some (.t 21)) none) <|
 Zo (.app 23 1 2 156 (.t 19) (.t 22)) <|
 Zm 2 23 .nil) .ret⟩
theorem Qaa4 : Qe Tryz.prog Tryz.f167 = some Q6s := by kernel_rfl
def Q6t : SFn := ⟨15, [.t 2], Zr (Zo (.mv 2 (.c .nilS)) .nil) <| Zr (Zo (.mv 3 (.c .nilS)) .nil) <| .seq (.block 0 <| .loop <| .seq (Zr (Zm 4 0 <|
 Zo (.bin 5 .gtr false (.t 4) (.c (.int .u64 0))) .nil) <| .cond (.t 5) .skip (.exit 0)) <| .block 1 <| Zr (Zm 6 3 <|
 Zm 7 0 <|
 Zo (.bin 8 .rem false (.t 7) (.c (.int .u64 65536))) <|
 Zo (.conv 9 .u16 (.t 8)) <|
 Zo (.bs 10 1 156 [.t 9]) <|
 Zo (.app 11 1 2 156 (.t 6) (.t 10)) <|
 Zm 3 11 .nil) <| .rg (Zm 12 0 <|
 Zo (.bin 13 .quo false (.t 12) (.c (.int .u64 65536))) <|
 Zm 0 13 .nil)) <| Zr (Zm 14 3 <|
 Zm 2 14 .nil) .ret⟩
theorem Qaa5 : Qe Tryz.prog Tryz.f106 = some Q6t := by kernel_rfl
def Q6u : SFn := ⟨21, [.t 2], Zr (Zo (.mv 2 (.c (.int .u64 0))) .nil) <| Zr (Zo (.mv 3 (.c (.int .u64 0))) .nil) <| .seq (Zr (Zm 5 0 <|
 Zn 6 5 <|
 Zk 7 .sub 6 1 <|
 Zm 4 7 .nil) <| .block 0 <| .loop <| .seq (Zr (Zm 8 4 <|
 Zk 9 .geq 8 0 .nil) <| .cond (.t 9) .skip (.exit 0)) <| .seq (.block 1 <| .rg (Zm 12 3 <|
 Zo (.bin 13 .mul false (.t 12) (.c (.int .u64 65536))) <|
 Zm 14 0 <|
 Zm 15 4 <|
 Zi 16 1 14 15 <|
 Zl 17 1 16 <|
 Zo (.conv 18 .u64 (.t 17)) <|
 Zb 19 .add 13 18 <|
 Zm 3 19 .nil)) <| .rg (Zm 10 4 <|
 Zk 11 .sub 10 1 <|
 Zm 4 11 .nil)) <| Zr (Zm 20 3 <|
 Zm 2 20 .nil) .ret⟩
theorem Qaa6 : Qe Tryz.prog Tryz.f209 = some Q6u := by kernel_rfl
def Q6v : SFn := ⟨14, [.t 4], Zr (Zc 4 0 .nil) <| .seq (Zr (Zm 5 1 <|
 Zm 6 0 <|
 Zn 7 6 <|
 Zb 8 .lss 5 7 .nil) <| .cond (.t 8) (Zr (Zm 9 0 <|
 Zm 10 1 <|
 Zi 11 1 9 10 <|
 Zl 12 1 11 <|
 Zo (.conv 13 .i64 (.t 12)) <|
 Zm 4 13 .nil) .ret) .skip) <| Zr (Zc 4 0 .nil) .ret⟩
theorem Qaa7 : Qe Tryz.prog Tryz.f206 = some Q6v := by kernel_rfl
def Q6w : SFn := ⟨30, [.t 4], Zr (Zc 4 0 .nil) <| .seq (Zr (Zm 6 0 <|
 Zn 7 6 <|
 Zm 8 1 <|
 Zn 9 8 <|
 Zo (.mx 10 (.t 7) (.t 9)) <|
 Zk 11 .sub 10 1 <|
 Zm 5 11 .nil) <| .block 0 <| .loop <| .seq (Zr (Zm 12 5 <|
 Zk 13 .geq 12 0 .nil) <| .cond (.t 13) .skip (.exit 0)) <| .seq (.block 1 <| .seq (Zr (Zm 16 0 <|
 Zm 17 5 <|
 Zq 18 false 206 [.t 16, .t 17] <|
 Zm 19 1 <|
 Zm 20 5 <|
 Zq 21 false 206 [.t 19, .t 20] <|
 Zb 22 .lss 18 21 .nil) <| .cond (.t 22) (Zr (Zc 4 (-1) .nil) .ret) .skip) <| Zr (Zm 23 0 <|
 Zm 24 5 <|
 Zq 25 false 206 [.t 23, .t 24] <|
 Zm 26 1 <|
 Zm 27 5 <|
 Zq 28 false 206 [.t 26, .t 27] <|
 Zb 29 .gtr 25 28 .nil) <| .cond (.t 29) (Zr (Zc 4 1 .nil) .ret) .skip) <| .rg (Zm 14 5 <|
 Zk 15 .sub 14 1 <|
 Zm 5 15 .nil)) <| Zr (Zc 4 0 .nil) .ret⟩
theorem Qaa8 : Qe Tryz.prog Tryz.f224 = some Q6w := by kernel_rfl
def Q6x : SFn := ⟨44, [.t 4], Zr (Zo (.mv 4 (.c .nilS)) .nil) <| Zr (Zo (.mv 5 (.c .nilS)) .nil) <| Zr (Zc 6 0 .nil) <| .seq (Zr (Zc 7 0 .nil) <| .block 0 <| .loop <| .seq (Zr (Zm 9 7 <|
 Zm 10 0 <|
 Zn 11 10 <|
 Zb 12 .lss 9 11 <|
 Zm 13 12 <|
 Zg 13 false (.mv 14 (.t 7)) <|
 Zg 13 false (.mv 15 (.t 1)) <|
 Zg 13 false (.len 16 (.t 15)) <|
 Zg 13 false (.bin 17 .lss false (.t 14) (.t 16)) <|
 Zo (.pick 18 (.t 13) (.c (.bool true)) (.t 17)) <|
 Zm 19 18 <|
 Zg 19 false (.mv 20 (.t 6)) <|
 Zg 19 false (.bin 21 .gtr false (.t 20) (.c (Zz 0))) <|
 Zo (.pick 22 (.t 19) (.c (.bool true)) (.t 21)) .nil) <| .cond (.t 22) .skip (.exit 0)) <| .seq (.block 1 <| Zr (Zm 25 0 <|
 Zm 26 7 <|
 Zq 27 false 206 [.t 25, .t 26] <|
 Zm 28 1 <|
 Zm 29 7 <|
 Zq 30 false 206 [.t 28, .t 29] <|
 Zb 31 .add 27 30 <|
 Zm 32 6 <|
 Zb 33 .add 31 32 <|
 Zm 8 33 .nil) <| Zr (Zm 34 5 <|
 Zm 35 8 <|
 Zk 36 .rem 35 65536 <|
 Zo (.conv 37 .u16 (.t 36)) <|
 Zo (.bs 38 1 156 [.t 37]) <|
 Zo (.app 39 1 2 156 (.t 34) (.t 38)) <|
 Zm 5 39 .nil) <| .rg (Zm 40 8 <|
 Zk 41 .quo 40 65536 <|
 Zm 6 41 .nil)) <| .rg (Zm 23 7 <|
 Zk 24 .add 23 1 <|
 Zm 7 24 .nil)) <| Zr (Zm 42 5 <|
 Zq 43 false 167 [.t 42] <|
 Zm 4 43 .nil) .ret⟩
theorem Qaa9 : Qe Tryz.prog Tryz.f171 = some Q6x := by kernel_rfl
def Q6y : SFn := ⟨40, [.t 4, .t 5], Zr (Zo (.mv 4 (.c .nilS)) <|
 Zc 5 0 .nil) <| .seq (Zr (Zm 10 0 <|
 Zm 11 1 <|
 Zq 12 false 224 [.t 10, .t 11] <|
 Zk 13 .lss 12 0 .nil) <| .cond (.t 13) (Zr (Zo (.mv 4 (.c .nilS)) <|
 Zc 5 2 .nil) .ret) .skip) <| Zr (Zo (.mv 6 (.c .nilS)) .nil) <| Zr (Zc 7 0 .nil) <| .seq (Zr (Zc 8 0 .nil) <| .block 0 <| .loop <| .seq (Zr (Zm 14 8 <|
 Zm 15 0 <|
 Zn 16 15 <|
 Zb 17 .lss 14 16 .nil) <| .cond (.t 17) .skip (.exit 0)) <| .seq (.block 1 <| Zr (Zm 20 0 <|
 Zm 21 8 <|
 Zq 22 false 206 [.t 20, .t 21] <|
 Zm 23 1 <|
 Zm 24 8 <|
 Zq 25 false 206 [.t 23, .t 24] <|
 Zb 26 .sub 22 25 <|
 Zm 27 7 <|
 Zb 28 .sub 26 27 <|
 Zm 9 28 .nil) <| Zr (Zc 7 0 .nil) <| .seq (Zr (Zm 29 9 <|
 Zk 30 .lss 29 0 .nil) <| .cond (.t 30) (Zr (Zm 31 9 <|
 Zk 32 .add 31 65536 <|
 Zm 9 32 .nil) <| .rg (Zc 7 1 .nil)) .skip) <| .rg (Zm 33 6 <|
 Zm 34 9 <|
 Zo (.conv 35 .u16 (.t 34)) <|
 Zo (.bs 36 1 156 [.t 35]) <|
 Zo (.app 37 1 2 156 (.t 33) (.t 36)) <|
 Zm 6 37 .nil)) <| .rg (Zm 18 8 <|
 Zk 19 .add 18 1 <|
 Zm 8 19 .nil)) <| Zr (Zm 38 6 <|
 Zq 39 false 167 [.t 38] <|
 Zm 4 39 <|
 Zc 5 0 .nil) .ret⟩
theorem Qaba : Qe Tryz.prog Tryz.f208 = some Q6y := by kernel_rfl
def Q6z : SFn := ⟨65, [.t 4], Zr (Zo (.mv 4 (.c .nilS)) .nil) <| Zr (Zm 10 0 <|
 Zn 11 10 <|
 Zm 12 1 <|
 Zn 13 12 <|
 Zb 14 .add 11 13 <|
 Zk 15 .add 14 1 <|
 Zo (.mk 16 1 2 156 (.int .u16 0) (.t 15) (.t 15)) <|
 Zm 5 16 .nil) <| .seq (Zr (Zc 6 0 .nil) <| .block 0 <| .loop <| .seq (Zr (Zm 17 6 <|
 Zm 18 0 <|
 Zn 19 18 <|
 Zb 20 .lss 17 19 .nil) <| .cond (.t 20) .skip (.exit 0)) <| .seq (.block 1 <| Zr (Zo (.mv 7 (.c (.int .u64 0))) .nil) <| Zr (Zc 8 0 .nil) <| .block 2 <| .loop <| .seq (Zr (Zm 23 8 <|
 Zm 24 1 <|
 Zn 25 24 <|
 Zb 26 .lss 23 25 <|
 Zm 27 26 <|
 Zg 27 false (.mv 28 (.t 7)) <|
 Zg 27 false (.bin 29 .gtr false (.t 28) (.c (.int .u64 0))) <|
 Zo (.pick 30 (.t 27) (.c (.bool true)) (.t 29)) .nil) <| .cond (.t 30) .skip (.exit 2)) <| .seq (.block 3 <| Zr (Zm 33 5 <|
 Zm 34 6 <|
 Zm 35 8 <|
 Zb 36 .add 34 35 <|
 Zi 37 1 33 36 <|
 Zl 38 1 37 <|
 Zo (.conv 39 .u64 (.t 38)) <|
 Zm 40 0 <|
 Zm 41 6 <|
 Zi 42 1 40 41 <|
 Zl 43 1 42 <|
 Zo (.conv 44 .u64 (.t 43)) <|
 Zm 45 1 <|
 Zm 46 8 <|
 Zm 51 7 <|
 Zq 47 true 206 [.t 45, .t 46] <|
 Zo (.conv 48 .u64 (.t 47)) <|
 Zb 49 .mul 44 48 <|
 Zb 50 .add 39 49 <|
 Zb 52 .add 50 51 <|
 Zm 9 52 .nil) <| Zr (Zm 53 5 <|
 Zm 54 6 <|
 Zm 55 8 <|
 Zb 56 .add 54 55 <|
 Zm 57 9 <|
 Zo (.bin 58 .rem false (.t 57) (.c (.int .u64 65536))) <|
 Zo (.conv 59 .u16 (.t 58)) <|
 Zi 60 1 53 56 <|
 Zs 1 60 59 .nil) <| .rg (Zm 61 9 <|
 Zo (.bin 62 .quo false (.t 61) (.c (.int .u64 65536))) <|
 Zm 7 62 .nil)) <| .rg (Zm 31 8 <|
 Zk 32 .add 31 1 <|
 Zm 8 32 .nil)) <| .rg (Zm 21 6 <|
 Zk 22 .add 21 1 <|
 Zm 6 22 .nil)) <| Zr (Zm 63 5 <|
 Zq 64 false 167 [.t 63] <|
 Zm 4 64 .nil) .ret⟩
theorem Qabb : Qe Tryz.prog Tryz.f160 = some Q6z := by kernel_rfl
def Q60 : SFn := ⟨27, [.t 4], Zr (Zo (.mv 4 (.c (.int .u64 0))) .nil) <| Zr (Zo (.mv 5 (.c (.int .u64 0))) <|
 Zo (.mv 6 (.c (.int .u64 65535))) .nil) <| .seq (.block 0 <| .loop <| .seq (Zr (Zm 8 5 <|
 Zm 9 6 <|
 Zb 10 .lss 8 9 .nil) <| .cond (.t 10) .skip (.exit 0)) <| .block 1 <| Zr (Zm 11 5 <|
 Zm 12 6 <|
 Zb 13 .add 11 12 <|
 Zo (.bin 14 .add false (.t 13) (.c (.int .u64 1))) <|
 Zo (.bin 15 .quo false (.t 14) (.c (.int .u64 2))) <|
 Zm 7 15 .nil) <| Zr (Zm 16 1 <|
 Zm 17 7 <|
 Zq 18 false 106 [.t 17] <|
 Zq 19 false 160 [.t 16, .t 18] <|
 Zm 20 0 <|
 Zq 21 false 224 [.t 19, .t 20] <|
 Zk 22 .leq 21 0 .nil) <| .cond (.t 22) (.rg (Zm 23 7 <|
 Zm 5 23 .nil)) (.rg (Zm 24 7 <|
 Zo (.bin 25 .sub false (.t 24) (.c (.int .u64 1))) <|
 Zm 6 25 .nil))) <| Zr (Zm 26 5 <|
 Zm 4 26 .nil) .ret⟩
theorem Qabc : Qe Tryz.prog Tryz.f210 = some Q60 := by kernel_rfl
def Q61 : SFn := ⟨73, [.t 4, .t 5, .t 6], Zr (Zo (.mv 4 (.c .nilS)) <|
 Zo (.mv 5 (.c .nilS)) <|
 Zc 6 0 .nil) <| Zr (Zm 11 0 <|
 Zq 12 false 167 [.t 11] <|
 Zm 13 1 <|
 Zq 14 false 167 [.t 13] <|
 Zm 0 12 <|
 Zm 1 14 .nil) <| .seq (Zr (Zm 15 1 <|
 Zn 16 15 <|
 Zk 17 .eql 16 0 .nil) <| .cond (.t 17) (Zr (Zo (.mv 4 (.c .nilS)) <|
 Zo (.mv 5 (.c .nilS)) <|
 Zc 6 3 .nil) .ret) .skip) <| .seq (Zr (Zm 18 0 <|
 Zn 19 18 <|
 Zk 20 .leq 19 4 <|
 Zm 21 20 <|
 Zg 21 true (.mv 22 (.t 1)) <|
 Zg 21 true (.len 23 (.t 22)) <|
 Zg 21 true (.bin 24 .leq false (.t 23) (.c (Zz 4))) <|
 Zo (.pick 25 (.t 21) (.t 24) (.c (.bool false))) .nil) <| .cond (.t 25) (Zr (Zm 26 0 <|
 Zq 27 false 209 [.t 26] <|
 Zm 28 1 <|
 Zq 29 false 209 [.t 28] <|
 Zb 30 .quo 27 29 <|
 Zq 31 false 106 [.t 30] <|
 Zm 32 0 <|
 Zq 33 false 209 [.t 32] <|
 Zm 34 1 <|
 Zq 35 false 209 [.t 34] <|
 Zb 36 .rem 33 35 <|
 Zq 37 false 106 [.t 36] <|
 Zm 4 31 <|
 Zm 5 37 <|
 Zc 6 0 .nil) .ret) .skip) <| Zr (Zo (.mv 7 (.c .nilS)) <|
 Zo (.mv 8 (.c .nilS)) .nil) <| .seq (Zr (Zm 38 0 <|
 Zn 39 38 <|
 Zk 40 .sub 39 1 <|
 Zm 9 40 .nil) <| .block 0 <| .loop <| .seq (Zr (Zm 41 9 <|
 Zk 42 .geq 41 0 .nil) <| .cond (.t 42) .skip (.exit 0)) <| .seq (.block 1 <| Zr (Zm 45 0 <|
 Zm 46 9 <|
 Zi 47 1 45 46 <|
 Zl 48 1 47 <|
 Zo (.bs 49 1 156 [.t 48]) <|
 Zm 50 8 <|
 Zo (.app 51 1 2 156 (.t 49) (.t 50)) <|
 Zq 52 false 167 [.t 51] <|
 Zm 8 52 .nil) <| Zr (Zm 53 8 <|
 Zm 54 1 <|
 Zq 55 false 210 [.t 53, .t 54] <|
 Zm 10 55 .nil) <| Zr (Zm 56 10 <|
 Zo (.conv 57 .u16 (.t 56)) <|
 Zo (.bs 58 1 156 [.t 57]) <|
 Zm 59 7 <|
 Zo (.app 60 1 2 156 (.t 58) (.t 59)) <|
 Zm 7 60 .nil) <| .rg (Zm 62 8 <|
 Zm 63 1 <|
 Zm 64 10 <|
 Zq 65 false 106 [.t 64] <|
 Zq 66 false 160 [.t 63, .t 65] <|
 Zq 67 false 208 [.t 62, .t 66] <|
 Zm 61 67 <|
 Zo (.ext 68 (.t 61) 0) <|
 Zo (.ext 69 (.t 61) 1) <|
 Zm 8 68 .nil)) <| .rg (Zm 43 9 <|
 Zk 44 .sub 43 1 <|
 Zm 9 44 .nil)) <| Zr (Zm 70 7 <|
 Zq 71 false 167 [.t 70] <|
 Zm 72 8 <|
 Zm 4 71 <|
 Zm 5 72 <|
 Zc 6 0 .nil) .ret⟩
theorem Qabd : Qe Tryz.prog Tryz.f168 = some Q61 := by kernel_rfl
def Q62 : SFn := ⟨25, [.t 4], Zr (Zo (.mv 4 (.c .nilS)) .nil) <| Zr (Zm 8 0 <|
 Zq 9 false 167 [.t 8] <|
 Zm 10 1 <|
 Zq 11 false 167 [.t 10] <|
 Zm 0 9 <|
 Zm 1 11 .nil) <| .seq (.block 0 <| .loop <| .seq (Zr (Zm 12 1 <|
 Zn 13 12 <|
 Zk 14 .gtr 13 0 .nil) <| .cond (.t 14) .skip (.exit 0)) <| .block 1 <| Zr (Zm 16 0 <|
 Zm 17 1 <|
 Zq 18 false 168 [.t 16, .t 17] <|
 Zm 15 18 <|
 Zo (.ext 19 (.t 15) 0) <|
 Zo (.ext 20 (.t 15) 1) <|
 Zo (.ext 21 (.t 15) 2) <|
 Zm 5 19 <|
 Zm 6 20 <|
 Zm 7 21 .nil) <| .rg (Zm 22 1 <|
 Zm 23 6 <|
 Zm 0 22 <|
 Zm 1 23 .nil)) <| Zr (Zm 24 0 <|
 Zm 4 24 .nil) .ret⟩
theorem Qabe : Qe Tryz.prog Tryz.f120 = some Q62 := by kernel_rfl
def Q63 : SFn := ⟨15, [.t 2], Zr (Zo (.mv 2 (.c (.bool false))) .nil) <| Zr (Zm 3 0 <|
 Zn 4 3 <|
 Zk 5 .eql 4 0 <|
 Zm 6 5 <|
 Zg 6 false (.mv 7 (.t 0)) <|
 Zg 6 false (.mv 8 (.t 0)) <|
 Zg 6 false (.len 9 (.t 8)) <|
 Zg 6 false (.bin 10 .sub false (.t 9) (.c (Zz 1))) <|
 Zg 6 false (.idx 11 1 (.t 7) (.t 10)) <|
 Zg 6 false (.ld 12 1 false (.t 11)) <|
 Zg 6 false (.bin 13 .neq false (.t 12) (.c (.int .u16 0))) <|
 Zo (.pick 14 (.t 6) (.c (.bool true)) (.t 13)) <|
 Zm 2 14 .nil) .ret⟩
theorem Qabf : Qe Tryz.prog Tryz.f119 = some Q63 := by kernel_rfl
def c88 : SFn := ⟨26, [.t 4], Zr (Zo (.mv 4 (.c (.bool false))) .nil) <| .seq (Zr (Zm 6 0 <|
 Zn 7 6 <|
 Zm 8 1 <|
 Zn 9 8 <|
 Zb 10 .neq 7 9 .nil) <| .cond (.t 10) (Zr (Zo (.mv 4 (.c (.bool false))) .nil) .ret) .skip) <| .seq (Zr (Zc 5 0 .nil) <| .block 0 <| .loop <| .seq (Zr (Zm 11 5 <|
 Zm 12 0 <|
 Zn 13 12 <|
 Zb 14 .lss 11 13 .nil) <| .cond (.t 14) .skip (.exit 0)) <| .seq (.block 1 <| Zr (Zm 17 0 <|
 Zm 18 5 <|
 Zi 19 1 17 18 <|
 Zl 20 1 19 <|
 Zm 21 1 <|
 Zm 22 5 <|
 Zi 23 1 21 22 <|
 Zl 24 1 23 <|
 Zb 25 .neq 20 24 .nil) <| .cond (.t 25) (Zr (Zo (.mv 4 (.c (.bool false))) .nil) .ret) .skip) <| .rg (Zm 15 5 <|
 Zk 16 .add 15 1 <|
 Zm 5 16 .nil)) <| Zr (Zo (.mv 4 (.c (.bool true))) .nil) .ret⟩
theorem Qaec : Qe Tryz.prog Tryz.f88 = some c88 := by kernel_rfl
def Q64 : SFn := ⟨17, [.t 2], Zr (Zo (.box 1 2 30 (.t 0)) <|
 Zo (.mv 2 (.c (.bool false))) .nil) <| Zr (Zf 3 1 1 <|
 Zl 4 1 3 <|
 Zq 5 false 119 [.t 4] <|
 Zm 6 5 <|
 Zg 6 true (.fld 7 0 (.t 1)) <|
 Zg 6 true (.ld 8 1 false (.t 7)) <|
 Zg 6 true (.mv 9 (.t 8)) <|
 Zg 9 true (.fld 10 1 (.t 1)) <|
 Zg 9 true (.ld 11 1 false (.t 10)) <|
 Zg 9 true (.len 12 (.t 11)) <|
 Zg 9 true (.bin 13 .eql false (.t 12) (.c (Zz 0))) <|
 Zg 6 true (.pick 14 (.t 9) (.t 13) (.c (.bool false))) <|
 Zg 6 true (.un 15 .not (.t 14)) <|
 Zo (.pick 16 (.t 6) (.t 15) (.c (.bool false))) <|
 Zm 2 16 .nil) .ret⟩
theorem Qabg : Qe Tryz.prog Tryz.f118 = some Q64 := by kernel_rfl
def Q65 : SFn := ⟨15, [.cell 4 2 true], Zr (Zo (.alloc 4 2 30 (.agg [.bool false, .nilS])) .nil) <| Zr (Zm 5 1 <|
 Zq 6 false 167 [.t 5] <|
 Zm 1 6 .nil) <| Zr (Zm 7 0 <|
 Zm 8 7 <|
 Zg 8 true (.mv 9 (.t 1)) <|
 Zg 8 true (.len 10 (.t 9)) <|
 Zg 8 true (.bin 11 .gtr false (.t 10) (.c (Zz 0))) <|
 Zo (.pick 12 (.t 8) (.t 11) (.c (.bool false))) <|
 Zm 13 1 <|
 Zo (.bld 14 [.bool false, .nilS] [(0, 1, .t 12), (1, 1, .t 13)]) <|
 Zs 2 4 14 .nil) .ret⟩
theorem Qabh : Qe Tryz.prog Tryz.f170 = some Q65 := by kernel_rfl
def Q66 : SFn := ⟨8, [.cell 2 2 true], Zr (Zo (.box 1 2 30 (.t 0)) <|
 Zo (.alloc 2 2 30 (.agg [.bool false, .nilS])) .nil) <| Zr (Zf 3 0 1 <|
 Zl 4 1 3 <|
 Zf 5 1 1 <|
 Zl 6 1 5 <|
 Zq 7 false 170 [.t 4, .t 6] <|
 Zs 2 2 7 .nil) .ret⟩
theorem Qabi : Qe Tryz.prog Tryz.f169 = some Q66 := by kernel_rfl
def Q67 : SFn := ⟨17, [.cell 2 2 true], Zr (Zo (.alloc 2 2 30 (.agg [.bool false, .nilS])) .nil) <| .seq (Zr (Zm 3 0 <|
 Zk 4 .lss 3 0 .nil) <| .cond (.t 4) (Zr (Zm 5 0 <|
 Zk 6 .add 5 1 <|
 Zo (.un 7 .neg (.t 6)) <|
 Zo (.conv 8 .u64 (.t 7)) <|
 Zq 9 false 106 [.t 8] <|
 Zq 10 false 106 [.c (.int .u64 1)] <|
 Zq 11 false 171 [.t 9, .t 10] <|
 Zq 12 false 170 [.c (.bool true), .t 11] <|
 Zs 2 2 12 .nil) .ret) .skip) <| Zr (Zm 13 0 <|
 Zo (.conv 14 .u64 (.t 13)) <|
 Zq 15 false 106 [.t 14] <|
 Zq 16 false 170 [.c (.bool false), .t 15] <|
 Zs 2 2 16 .nil) .ret⟩
theorem Qabj : Qe Tryz.prog Tryz.f105 = some Q67 := by kernel_rfl
def Q68 : SFn := ⟨11, [.t 2], Zr (Zo (.box 1 2 30 (.t 0)) <|
 Zc 2 0 .nil) <| Zr (Zh 3 2 1 <|
 Zq 4 false 169 [.t 3] <|
 Zs 2 1 4 .nil) <| .seq (Zr (Zf 5 1 1 <|
 Zl 6 1 5 <|
 Zn 7 6 <|
 Zk 8 .eql 7 0 .nil) <| .cond (.t 8) (Zr (Zc 2 0 .nil) .ret) .skip) <| .seq (Zr (Zf 9 0 1 <|
 Zl 10 1 9 .nil) <| .cond (.t 10) (Zr (Zc 2 (-1) .nil) .ret) .skip) <| Zr (Zc 2 1 .nil) .ret⟩
theorem Qabk : Qe Tryz.prog Tryz.f156 = some Q68 := by kernel_rfl
def Q69 : SFn := ⟨38, [.t 4], Zr (Zo (.box 2 2 30 (.t 0)) <|
 Zo (.box 3 2 30 (.t 1)) <|
 Zc 4 0 .nil) <| Zr (Zh 5 2 2 <|
 Zh 7 2 3 <|
 Zq 6 true 169 [.t 5] <|
 Zq 8 true 169 [.t 7] <|
 Zs 2 2 6 <|
 Zs 2 3 8 .nil) <| .seq (.block 0 <| Zr (Zf 10 0 2 <|
 Zl 11 1 10 <|
 Zm 12 11 <|
 Zg 12 true (.fld 13 0 (.t 3)) <|
 Zg 12 true (.ld 14 1 false (.t 13)) <|
 Zg 12 true (.un 15 .not (.t 14)) <|
 Zo (.pick 16 (.t 12) (.t 15) (.c (.bool false))) <|
 Zm 9 16 .nil) <| .cond (.t 9) (Zr (Zc 4 (-1) .nil) .ret) (Zr (Zf 18 0 3 <|
 Zl 19 1 18 <|
 Zm 20 19 <|
 Zg 20 true (.fld 21 0 (.t 2)) <|
 Zg 20 true (.ld 22 1 false (.t 21)) <|
 Zg 20 true (.un 23 .not (.t 22)) <|
 Zo (.pick 24 (.t 20) (.t 23) (.c (.bool false))) <|
 Zm 17 24 .nil) <| .cond (.t 17) (Zr (Zc 4 1 .nil) .ret) (Zr (Zf 26 0 2 <|
 Zl 27 1 26 <|
 Zm 25 27 .nil) <| .cond (.t 25) (Zr (Zf 28 1 3 <|
 Zl 29 1 28 <|
 Zf 30 1 2 <|
 Zl 31 1 30 <|
 Zq 32 false 224 [.t 29, .t 31] <|
 Zm 4 32 .nil) .ret) .skip))) <| Zr (Zf 33 1 2 <|
 Zl 34 1 33 <|
 Zf 35 1 3 <|
 Zl 36 1 35 <|
 Zq 37 false 224 [.t 34, .t 36] <|
 Zm 4 37 .nil) .ret⟩
theorem Qabl : Qe Tryz.prog Tryz.f201 = some Q69 := by kernel_rfl
def Q7a : SFn := ⟨9, [.cell 2 2 true], Zr (Zo (.box 1 2 30 (.t 0)) <|
 Zo (.alloc 2 2 30 (.agg [.bool false, .nilS])) .nil) <| Zr (Zf 3 0 1 <|
 Zl 4 1 3 <|
 Zu 5 4 <|
 Zf 6 1 1 <|
 Zl 7 1 6 <|
 Zq 8 false 170 [.t 5, .t 7] <|
 Zs 2 2 8 .nil) .ret⟩
theorem Qabm : Qe Tryz.prog Tryz.f158 = some Q7a := by kernel_rfl
def Q7b : SFn := ⟨48, [.cell 4 2 true], Zr (Zo (.box 2 2 30 (.t 0)) <|
 Zo (.box 3 2 30 (.t 1)) <|
 Zo (.alloc 4 2 30 (.agg [.bool false, .nilS])) .nil) <| .seq (Zr (Zf 9 0 2 <|
 Zl 10 1 9 <|
 Zf 11 0 3 <|
 Zl 12 1 11 <|
 Zo (.bin 13 .eql true (.t 10) (.t 12)) .nil) <| .cond (.t 13) (Zr (Zf 14 0 2 <|
 Zl 15 1 14 <|
 Zf 16 1 2 <|
 Zl 17 1 16 <|
 Zf 18 1 3 <|
 Zl 19 1 18 <|
 Zq 20 true 171 [.t 17, .t 19] <|
 Zq 21 true 170 [.t 15, .t 20] <|
 Zs 2 4 21 .nil) .ret) .skip) <| .seq (Zr (Zf 23 1 2 <|
 Zl 24 1 23 <|
 Zf 25 1 3 <|
 Zl 26 1 25 <|
 Zq 27 false 208 [.t 24, .t 26] <|
 Zm 22 27 <|
 Zo (.ext 28 (.t 22) 0) <|
 Zo (.ext 29 (.t 22) 1) <|
 Zm 5 28 <|
 Zm 6 29 .nil) <| Zr (Zm 30 6 <|
 Zk 31 .eql 30 0 .nil) <| .cond (.t 31) (Zr (Zf 32 0 2 <|
 Zl 33 1 32 <|
 Zm 34 5 <|
 Zq 35 false 170 [.t 33, .t 34] <|
 Zs 2 4 35 .nil) .ret) .skip) <| Zr (Zf 37 1 3 <|
 Zl 38 1 37 <|
 Zf 39 1 2 <|
 Zl 40 1 39 <|
 Zq 41 false 208 [.t 38, .t 40] <|
 Zm 36 41 <|
 Zo (.ext 42 (.t 36) 0) <|
 Zo (.ext 43 (.t 36) 1) <|
 Zm 7 42 <|
 Zm 8 43 .nil) <| Zr (Zf 44 0 3 <|
 Zl 45 1 44 <|
 Zm 46 7 <|
 Zq 47 false 170 [.t 45, .t 46] <|
 Zs 2 4 47 .nil) .ret⟩
theorem Qabn : Qe Tryz.prog Tryz.f166 = some Q7b := by kernel_rfl
def Q7c : SFn := ⟨16, [.cell 4 2 true], Zr (Zo (.box 2 2 30 (.t 0)) <|
 Zo (.box 3 2 30 (.t 1)) <|
 Zo (.alloc 4 2 30 (.agg [.bool false, .nilS])) .nil) <| Zr (Zf 5 0 2 <|
 Zl 6 1 5 <|
 Zf 7 0 3 <|
 Zl 8 1 7 <|
 Zo (.bin 9 .neq true (.t 6) (.t 8)) <|
 Zf 10 1 2 <|
 Zl 11 1 10 <|
 Zf 12 1 3 <|
 Zl 13 1 12 <|
 Zq 14 true 160 [.t 11, .t 13] <|
 Zq 15 true 170 [.t 9, .t 14] <|
 Zs 2 4 15 .nil) .ret⟩
theorem Qabo : Qe Tryz.prog Tryz.f159 = some Q7c := by kernel_rfl
def c45 : SFn := ⟨27, [.t 2], Zr (Zo (.box 1 3 32 (.t 0)) <|
 Zo (.mv 2 (.c (.bool false))) .nil) <| Zr (Zf 3 0 1 <|
 Zh 4 2 3 <|
 Zq 5 false 118 [.t 4] <|
 Zm 6 5 <|
 Zg 6 true (.fld 7 2 (.t 1)) <|
 Zg 6 true (.ld 8 1 false (.t 7)) <|
 Zg 6 true (.call (some 9) false (.c (.fn 119 [] [])) [.t 8]) <|
 Zo (.pick 10 (.t 6) (.t 9) (.c (.bool false))) <|
 Zm 11 10 <|
 Zg 11 true (.fld 12 0 (.t 1)) <|
 Zg 11 true (.fld 13 1 (.t 12)) <|
 Zg 11 true (.ld 14 1 false (.t 13)) <|
 Zg 11 true (.fld 15 2 (.t 1)) <|
 Zg 11 true (.ld 16 1 false (.t 15)) <|
 Zg 11 true (.call (some 17) false (.c (.fn 120 [] [])) [.t 14, .t 16]) <|
 Zg 11 true (.call (some 18) false (.c (.fn 106 [] [])) [.c (.int .u64 1)]) <|
 Zg 11 true (.call (some 19) false (.c (.fn 88 [] [])) [.t 17, .t 18]) <|
 Zo (.pick 20 (.t 11) (.t 19) (.c (.bool false))) <|
 Zm 21 20 <|
 Zg 21 true (.fld 22 2 (.t 1)) <|
 Zg 21 true (.ld 23 1 false (.t 22)) <|
 Zg 21 true (.len 24 (.t 23)) <|
 Zg 21 true (.bin 25 .gtr false (.t 24) (.c (Zz 0))) <|
 Zo (.pick 26 (.t 21) (.t 25) (.c (.bool false))) <|
 Zm 2 26 .nil) .ret⟩
theorem Qaed : Qe Tryz.prog Tryz.f45 = some c45 := by kernel_rfl
def Q7d : SFn := ⟨44, [.cell 4 3 true], Zr (Zo (.box 2 2 30 (.t 0)) <|
 Zo (.alloc 4 3 32 (.agg [.bool false, .nilS, .nilS])) .nil) <| .seq (Zr (Zm 12 1 <|
 Zq 13 false 167 [.t 12] <|
 Zn 14 13 <|
 Zk 15 .eql 14 0 .nil) <| .cond (.t 15) (Zr (Zq 16 false 106 [.c (.int .u64 1)] <|
 Zo (.bld 17 [.bool false, .nilS, .nilS] [(2, 1, .t 16)]) <|
 Zs 3 4 17 .nil) .ret) .skip) <| Zr (Zf 18 1 2 <|
 Zl 19 1 18 <|
 Zm 20 1 <|
 Zq 21 false 120 [.t 19, .t 20] <|
 Zm 5 21 .nil) <| Zr (Zf 23 1 2 <|
 Zl 24 1 23 <|
 Zm 25 5 <|
 Zq 26 false 168 [.t 24, .t 25] <|
 Zm 22 26 <|
 Zo (.ext 27 (.t 22) 0) <|
 Zo (.ext 28 (.t 22) 1) <|
 Zo (.ext 29 (.t 22) 2) <|
 Zm 6 27 <|
 Zm 7 28 <|
 Zm 8 29 .nil) <| Zr (Zm 31 1 <|
 Zm 32 5 <|
 Zq 33 false 168 [.t 31, .t 32] <|
 Zm 30 33 <|
 Zo (.ext 34 (.t 30) 0) <|
 Zo (.ext 35 (.t 30) 1) <|
 Zo (.ext 36 (.t 30) 2) <|
 Zm 9 34 <|
 Zm 10 35 <|
 Zm 11 36 .nil) <| Zr (Zf 37 0 2 <|
 Zl 38 1 37 <|
 Zm 39 6 <|
 Zo (.bld 40 [.bool false, .nilS] [(0, 1, .t 38), (1, 1, .t 39)]) <|
 Zq 41 false 169 [.t 40] <|
 Zm 42 9 <|
 Zo (.bld 43 [.bool false, .nilS, .nilS] [(0, 2, .t 41), (2, 1, .t 42)]) <|
 Zs 3 4 43 .nil) .ret⟩
theorem Qabp : Qe Tryz.prog Tryz.f104 = some Q7d := by kernel_rfl
def Q7e : SFn := ⟨8, [.cell 2 3 true], Zr (Zo (.box 1 3 32 (.t 0)) <|
 Zo (.alloc 2 3 32 (.agg [.bool false, .nilS, .nilS])) .nil) <| Zr (Zf 3 0 1 <|
 Zh 4 2 3 <|
 Zf 5 2 1 <|
 Zl 6 1 5 <|
 Zq 7 false 104 [.t 4, .t 6] <|
 Zs 3 2 7 .nil) .ret⟩
theorem Qabq : Qe Tryz.prog Tryz.f157 = some Q7e := by kernel_rfl
def Q7f : SFn := ⟨18, [.cell 4 3 true, .t 5], Zr (Zo (.box 2 2 30 (.t 0)) <|
 Zo (.box 3 2 30 (.t 1)) <|
 Zo (.alloc 4 3 32 (.agg [.bool false, .nilS, .nilS])) <|
 Zc 5 0 .nil) <| .seq (Zr (Zh 6 2 3 <|
 Zq 7 false 156 [.t 6] <|
 Zk 8 .eql 7 0 .nil) <| .cond (.t 8) (Zr (Zo (.bld 9 [.bool false, .nilS, .nilS] []) <|
 Zs 3 4 9 <|
 Zc 5 3 .nil) .ret) .skip) <| .seq (Zr (Zf 10 0 3 <|
 Zl 11 1 10 .nil) <| .cond (.t 11) (.rg (Zh 12 2 2 <|
 Zq 13 false 158 [.t 12] <|
 Zs 2 2 13 .nil)) .skip) <| Zr (Zh 14 2 2 <|
 Zf 15 1 3 <|
 Zl 16 1 15 <|
 Zq 17 false 104 [.t 14, .t 16] <|
 Zs 3 4 17 <|
 Zc 5 0 .nil) .ret⟩
theorem Qabr : Qe Tryz.prog Tryz.f147 = some Q7f := by kernel_rfl
def c34 : SFn := ⟨7, [.cell 2 3 true], Zr (Zo (.alloc 2 3 32 (.agg [.bool false, .nilS, .nilS])) .nil) <| Zr (Zm 3 0 <|
 Zq 4 false 105 [.t 3] <|
 Zq 5 false 106 [.c (.int .u64 1)] <|
 Zq 6 false 104 [.t 4, .t 5] <|
 Zs 3 2 6 .nil) .ret⟩
theorem Qaee : Qe Tryz.prog Tryz.f34 = some c34 := by kernel_rfl
def Q7g : SFn := ⟨5, [.cell 2 2 true], Zr (Zo (.alloc 2 2 30 (.agg [.bool false, .nilS])) .nil) <| Zr (Zm 3 0 <|
 Zo (.bld 4 [.bool false, .nilS] [(1, 1, .t 3)]) <|
 Zs 2 2 4 .nil) .ret⟩
theorem Qabs : Qe Tryz.prog Tryz.f161 = some Q7g := by kernel_rfl
def Q7h : SFn := ⟨22, [.t 4], Zr (Zo (.box 2 3 32 (.t 0)) <|
 Zo (.box 3 3 32 (.t 1)) <|
 Zc 4 0 .nil) <| Zr (Zh 5 3 2 <|
 Zh 7 3 3 <|
 Zq 6 true 157 [.t 5] <|
 Zq 8 true 157 [.t 7] <|
 Zs 3 2 6 <|
 Zs 3 3 8 .nil) <| Zr (Zf 9 0 2 <|
 Zh 10 2 9 <|
 Zf 11 2 3 <|
 Zl 12 1 11 <|
 Zf 15 0 3 <|
 Zh 16 2 15 <|
 Zf 17 2 2 <|
 Zl 18 1 17 <|
 Zq 13 true 161 [.t 12] <|
 Zq 14 true 159 [.t 10, .t 13] <|
 Zq 19 true 161 [.t 18] <|
 Zq 20 true 159 [.t 16, .t 19] <|
 Zq 21 true 201 [.t 14, .t 20] <|
 Zm 4 21 .nil) .ret⟩
theorem Qabt : Qe Tryz.prog Tryz.f148 = some Q7h := by kernel_rfl
def c72 : SFn := ⟨9, [.t 4], Zr (Zo (.box 2 3 32 (.t 0)) <|
 Zo (.box 3 3 32 (.t 1)) <|
 Zo (.mv 4 (.c (.bool false))) .nil) <| Zr (Zh 5 3 2 <|
 Zh 6 3 3 <|
 Zq 7 false 148 [.t 5, .t 6] <|
 Zk 8 .eql 7 0 <|
 Zm 4 8 .nil) .ret⟩
theorem Qaef : Qe Tryz.prog Tryz.f72 = some c72 := by kernel_rfl
def Q7i : SFn := ⟨28, [.cell 4 3 true], Zr (Zo (.box 2 3 32 (.t 0)) <|
 Zo (.box 3 3 32 (.t 1)) <|
 Zo (.alloc 4 3 32 (.agg [.bool false, .nilS, .nilS])) .nil) <| Zr (Zh 5 3 2 <|
 Zh 7 3 3 <|
 Zq 6 true 157 [.t 5] <|
 Zq 8 true 157 [.t 7] <|
 Zs 3 2 6 <|
 Zs 3 3 8 .nil) <| Zr (Zf 9 0 2 <|
 Zh 10 2 9 <|
 Zf 11 2 3 <|
 Zl 12 1 11 <|
 Zf 15 0 3 <|
 Zh 16 2 15 <|
 Zf 17 2 2 <|
 Zl 18 1 17 <|
 Zf 22 2 2 <|
 Zl 23 1 22 <|
 Zf 24 2 3 <|
 Zl 25 1 24 <|
 Zq 13 true 161 [.t 12] <|
 Zq 14 true 159 [.t 10, .t 13] <|
 Zq 19 true 161 [.t 18] <|
 Zq 20 true 159 [.t 16, .t 19] <|
 Zq 21 true 166 [.t 14, .t 20] <|
 Zq 26 true 160 [.t 23, .t 25] <|
 Zq 27 true 104 [.t 21, .t 26] <|
 Zs 3 4 27 .nil) .ret⟩
theorem Qabu : Qe Tryz.prog Tryz.f101 = some Q7i := by kernel_rfl
def c83 : SFn := ⟨16, [.cell 4 3 true], Zr (Zo (.box 2 3 32 (.t 0)) <|
 Zo (.box 3 3 32 (.t 1)) <|
 Zo (.alloc 4 3 32 (.agg [.bool false, .nilS, .nilS])) .nil) <| Zr (Zf 5 0 2 <|
 Zh 6 2 5 <|
 Zf 7 0 3 <|
 Zh 8 2 7 <|
 Zf 10 2 2 <|
 Zl 11 1 10 <|
 Zf 12 2 3 <|
 Zl 13 1 12 <|
 Zq 9 true 159 [.t 6, .t 8] <|
 Zq 14 true 160 [.t 11, .t 13] <|
 Zq 15 true 104 [.t 9, .t 14] <|
 Zs 3 4 15 .nil) .ret⟩
theorem Qaeg : Qe Tryz.prog Tryz.f83 = some c83 := by kernel_rfl
end Go.Proofs.YtmnkngmmfnncoaaGreat
namespace Go.Proofs.YtmnkngmmfnncoaaGreat
open Go Go.FW
set_option linter.unusedSimpArgs false
set_option linter.unusedVariables false
set_option maxRecDepth 100000
theorem Qbr {l : List Nat} (hv : Qg l) (hl : l.length < 2 ^ 42) : Qd Tryz.prog 167 [PV.nat l] (· = PV.num (val l)) := by
 have hcut := Qla hv
 refine Qh Qm Tryz.func167 rfl Qaa4 (by simp [Q6s]) fun C hP => ?_; simp only [Q6s, Zo, Zg, Zm, Zc, Zf, Zl, Zh, Zs, Zi, Zb, Zk, Zn, Zu, Zq, Zr, Zz]
 simp +decide (disch := first | exact D0 | fail) only [go_sem, ↓reduceIte]
 refine Qam (by repeat (first | exact Q2 | exact Qp | exact Qq | exact Qr | exact Qt | apply Qo | apply Qz | apply Q6 | apply Qac | apply Qad | apply Ql | apply Q4)) [(3, 3), (7, 18)] [] (fun m J hp => m <= l.length /\ cut l m = dig (val l) /\ J 3 = .int .i64 m /\ hp = hp0) l.length ?_ ?_
 ·refine ⟨Nat.le_refl _, hcut, ?_⟩
  simp +decide (disch := first | exact D0 | fail) only [go_sem, ↓reduceIte]
 rintro n J _ ⟨hn, hc, h3, rfl⟩
 simp +decide (disch := first | exact D1 h3 | fail) only [go_sem, ↓reduceIte, h3]
 refine Qb2 (fun hg => ?_) (fun hg => ?_)
 ·obtain _ | n := n
  ·omega
  have e : ((n + 1 : Nat) : Int) - 1 = n := by omega
  simp only [cut] at hc
  simp +decide (disch := first | exact D2 h3 e | fail) only [go_sem, ↓reduceIte, h3, e]
  refine Qb (fun hz => ?_) (fun hz => ?_)
  ·rw [if_pos (by grind)] at hc
   simp +decide (disch := first | exact D2 h3 e | fail) only [go_sem, ↓reduceIte, h3, e]
   refine Qae n (by omega) ⟨by omega, hc, ?_⟩
   simp +decide (disch := first | exact D0 | fail) only [go_sem, ↓reduceIte]
  ·rw [if_neg (by grind)] at hc
   have hlt : (l.take (n + 1)).length < 2 ^ 42 := by rw [List.length_take]; omega
   simp +decide (disch := first | exact E2 h3 e | fail) only [go_sem, ↓reduceIte, h3, e, Qn, List.contains_cons, List.contains_nil, List.flatMap_cons, List.flatMap_nil, List.append_nil]
   exact Qc (by rw [List.take_of_length_le (by simp), hc]) rfl
 ·obtain rfl : n = 0 := by omega
  simp +decide (disch := first | omega | rfl | (simp +decide only [go_sem, ↓reduceIte, h3, List.take_zero, List.map_nil, List.length_nil] <;> rfl) | fail) only [go_sem, ↓reduceIte, h3, List.take_zero, List.map_nil, List.length_nil]
  rw [Qp9 (ys := []) rfl (by omega) (by simp) (by simp)]
  simp +decide (disch := first | exact E0 | fail) only [go_sem, ↓reduceIte, Qn, List.contains_cons, List.contains_nil, List.flatMap_cons, List.flatMap_nil, List.append_nil]
  exact Qc (by show _ = PV.nat (dig (val l)); rw [<- hc]; rfl) rfl
theorem Qc3 {n : Nat} (hn : n < 18446744073709551616) : Qd Tryz.prog 106 [.int .u64 n] (· = PV.num n) := by
 have hlen := Qd3 hn
 unfold nl at hlen
 refine Qh Qm Tryz.func106 rfl Qaa5 (by simp [Q6t]) fun C hP => ?_; simp only [Q6t, Zo, Zg, Zm, Zc, Zf, Zl, Zh, Zs, Zi, Zb, Zk, Zn, Zu, Zq, Zr, Zz]
 simp +decide (disch := first | exact D0 | fail) only [go_sem, ↓reduceIte]
 refine Qi1 3 900 1 156 (by omega) T0 ?_
 refine Qam (by repeat (first | exact Q2 | exact Qp | exact Qq | exact Qr | exact Qt | apply Qo | apply Qz | apply Q6 | apply Qac | apply Qad | apply Ql | apply Q4)) [(0, 0), (3, 13)] [10, 11, 900] (fun m J hp => ∃ done : List Nat, dig n = done ++ dig m /\ m <= n /\ J 0 = .int .u64 m /\ J 3 = .ms 900 done.length /\ hp 900 = some ⟨1, 156, Qaz done, false⟩) n ?_ ?_
 ·refine ⟨[], rfl, Nat.le_refl _, ?_⟩
  simp +decide (disch := first | exact D0 | fail) only [go_sem, ↓reduceIte]
 rintro m J hp ⟨done, hd, hm, h0, h3, hh⟩
 rw [hd, List.length_append] at hlen
 simp +decide (disch := first | exact D2 h0 h3 | fail) only [go_sem, ↓reduceIte, h0, h3]
 refine Qb (fun hz => ?_) (fun hz => ?_)
 ·have hne : m ≠ 0 := by omega
  have hd2 : dig n = (done ++ [m % 65536]) ++ dig (m / 65536) := by rw [hd, Qgn hne]; simp
  simp +decide (disch := first | omega | rfl | (simp +decide only [go_sem, ↓reduceIte, h0, h3, Nat.mod_mod] <;> rfl) | fail) only [go_sem, ↓reduceIte, h0, h3, Nat.mod_mod]
  rw [Qc1 (f := fun (x : Nat) => .int .u16 x) (y := m % 65536) (xs := done) (ty' := 156) (fz := false) (T1 hh) Tr0 (by omega) rfl (by omega) (by omega)]
  simp +decide (disch := first | exact D2 h0 h3 | fail) only [go_sem, ↓reduceIte, h0, h3]
  refine Qae (m / 65536) (by omega) ⟨done ++ [m % 65536], hd2, by omega, ?_⟩
  simp +decide (disch := first | exact D2 h0 h3 | fail) only [go_sem, ↓reduceIte, h0, h3]
  simp
 ·obtain rfl : m = 0 := by omega
  rw [Qa1, List.append_nil] at hd
  simp +decide (disch := first | exact E2 h3 hh | fail) only [go_sem, ↓reduceIte, h3, hh, Qn, List.contains_cons, List.contains_nil, List.flatMap_cons, List.flatMap_nil, List.append_nil]
  exact Qc (by show _ = PV.nat (dig n); rw [hd, List.take_of_length_le (by simp)]) rfl
theorem Qbl {a : List Nat} {i : Nat} (ha : Qg a) (hl : a.length < 2 ^ 43) : Qd Tryz.prog 206 [PV.nat a, .int .i64 i] (· = .int .i64 (dg a i : Nat)) := by
 refine Qh Qm Tryz.func206 rfl Qaa7 (by simp [Q6v]) fun C hP => ?_; simp only [Q6v, Zo, Zg, Zm, Zc, Zf, Zl, Zh, Zs, Zi, Zb, Zk, Zn, Zu, Zq, Zr, Zz]
 simp +decide (disch := first | exact D0 | fail) only [go_sem, ↓reduceIte]
 refine Qb (fun hi => ?_) (fun hi => ?_)
 ·have hi' : i < a.length := by omega
  have hai := Qaj ha hi'
  have hg : dg a i = a[i] := Qbf hi'
  simp +decide (disch := first | exact D0 | fail) only [go_sem, ↓reduceIte]
  exact Qc (by rw [hg]) rfl
 ·simp +decide (disch := first | exact D0 | fail) only [go_sem, ↓reduceIte]
  exact Qc (by rw [dg, Qbg (by omega)]; rfl) rfl
theorem Qge {a : List Nat} (ha : Qg a) (hl : a.length <= 4) : Qd Tryz.prog 209 [PV.nat a] (· = .int .u64 (val a : Nat)) := by
 have hlt : ∀ k, val (a.drop k) < 18446744073709551616 := fun k => by
  have h1 := Qfa (Qg0 ha k)
  have : 65536 ^ (a.drop k).length <= 65536 ^ 4 := Nat.pow_le_pow_right (by omega) (by rw [List.length_drop]; omega)
  omega
 refine Qh Qm Tryz.func209 rfl Qaa6 (by simp [Q6u]) fun C hP => ?_; simp only [Q6u, Zo, Zg, Zm, Zc, Zf, Zl, Zh, Zs, Zi, Zb, Zk, Zn, Zu, Zq, Zr, Zz]
 simp +decide (disch := first | exact D0 | fail) only [go_sem, ↓reduceIte]
 refine Qam (by repeat (first | exact Q2 | exact Qp | exact Qq | exact Qr | exact Qt | apply Qo | apply Qz | apply Q6 | apply Qac | apply Qad | apply Ql | apply Q4)) [(3, 4), (8, 19)] [] (fun k J hp => k <= a.length /\ J 3 = .int .u64 (val (a.drop k) : Nat) /\ J 4 = .int .i64 ((k : Int) - 1)) a.length ?_ ?_
 ·refine ⟨Nat.le_refl _, ?_⟩
  simp +decide (disch := first | exact D0 | fail) only [go_sem, ↓reduceIte]
  simp [val]
 rintro k J h ⟨hk, h3, h4⟩
 simp +decide (disch := first | exact D2 h3 h4 | fail) only [go_sem, ↓reduceIte, h3, h4]
 refine Qb (fun hg => ?_) (fun hg => ?_)
 ·obtain _ | n := k
  ·omega
  have hn : n < a.length := by omega
  have han := Qaj ha hn
  have e : ((n + 1 : Nat) : Int) - 1 = n := by omega
  have hv := Qcl hn
  have h1 := hlt n
  generalize hxx : a[n] = x at *
  have e2 : val (a.drop (n + 1)) * 65536 + x = val (a.drop n) := by omega
  simp +decide (disch := first | exact D5 h3 h4 e hxx e2 | fail) only [go_sem, ↓reduceIte, h3, h4, e, hxx, e2]
  refine Qae n (by omega) ⟨by omega, ?_⟩
  simp +decide (disch := first | exact D0 | fail) only [go_sem, ↓reduceIte]
 ·obtain rfl : k = 0 := by omega
  simp +decide (disch := first | omega | rfl | (simp +decide only [go_sem, ↓reduceIte, h3, List.drop_zero] <;> rfl) | fail) only [go_sem, ↓reduceIte, h3, List.drop_zero]
  exact Qc rfl rfl
theorem Qhz {a b : List Nat} (ha : Qg a) (hb : Qg b) (hla : a.length < 2 ^ 42) (hlb : b.length < 2 ^ 42) : Qd Tryz.prog 224 [PV.nat a, PV.nat b] (· = .int .i64 (Qdr (val a) (val b))) := by
 refine Qh Qm Tryz.func224 rfl Qaa8 (by simp [Q6w]) fun C hP => ?_; simp only [Q6w, Zo, Zg, Zm, Zc, Zf, Zl, Zh, Zs, Zi, Zb, Zk, Zn, Zu, Zq, Zr, Zz]
 simp +decide (disch := first | omega | rfl | (simp +decide only [go_sem, ↓reduceIte, Qrr] <;> rfl) | fail) only [go_sem, ↓reduceIte, Qrr]
 refine Qam (by repeat (first | exact Q2 | exact Qp | exact Qq | exact Qr | exact Qt | apply Qo | apply Qz | apply Q6 | apply Qac | apply Qad | apply Ql | apply Q4)) [(4, 5), (12, 29)] [] (fun k J hp => k <= max a.length b.length /\ val (a.drop k) = val (b.drop k) /\ J 5 = .int .i64 ((k : Int) - 1)) (max a.length b.length) ?_ ?_
 ·refine ⟨Nat.le_refl _, ?_, ?_⟩
  ·rw [List.drop_of_length_le (by omega), List.drop_of_length_le (by omega)]
  ·simp +decide (disch := first | exact D0 | fail) only [go_sem, ↓reduceIte]
 rintro k J h ⟨hk, hv, h5⟩
 simp +decide (disch := first | exact D1 h5 | fail) only [go_sem, ↓reduceIte, h5]
 refine Qb (fun hg => ?_) (fun hg => ?_)
 ·obtain _ | n := k
  ·omega
  have e : ((n + 1 : Nat) : Int) - 1 = n := by omega
  have e1 := Qgp a n
  have e2 := Qgp b n
  have d1 := Qmd ha n
  have d2 := Qmd hb n
  simp +decide (disch := first | exact D2 h5 e | fail) only [go_sem, ↓reduceIte, h5, e]
  refine Qa hP (Qbl ha (by omega)) rfl rfl rfl ?_
  simp +decide (disch := first | exact D2 h5 e | fail) only [go_sem, ↓reduceIte, h5, e]
  refine Qa hP (Qbl hb (by omega)) rfl rfl rfl ?_
  simp +decide (disch := first | exact D2 h5 e | fail) only [go_sem, ↓reduceIte, h5, e]
  refine Qb (fun hc => ?_) (fun hc => ?_)
  ·have hlt := Qox (a := a) (b := b) ha (i := n) (by omega)
   simp +decide (disch := first | exact D0 | fail) only [go_sem, ↓reduceIte]
   exact Qc (by rw [Qrk hlt]) rfl
  simp +decide (disch := first | exact D2 h5 e | fail) only [go_sem, ↓reduceIte, h5, e]
  refine Qa hP (Qbl ha (by omega)) rfl rfl rfl ?_
  simp +decide (disch := first | exact D2 h5 e | fail) only [go_sem, ↓reduceIte, h5, e]
  refine Qa hP (Qbl hb (by omega)) rfl rfl rfl ?_
  simp +decide (disch := first | exact D2 h5 e | fail) only [go_sem, ↓reduceIte, h5, e]
  refine Qb (fun hc2 => ?_) (fun hc2 => ?_)
  ·have hlt := Qox (a := b) (b := a) hb (i := n) (by omega)
   simp +decide (disch := first | exact D0 | fail) only [go_sem, ↓reduceIte]
   exact Qc (by rw [Qrl hlt]) rfl
  ·simp +decide (disch := first | exact D2 h5 e | fail) only [go_sem, ↓reduceIte, h5, e]
   refine Qae n (by omega) ⟨by omega, by omega, ?_⟩
   simp +decide (disch := first | exact D0 | fail) only [go_sem, ↓reduceIte]
 ·obtain rfl : k = 0 := by omega
  simp +decide (disch := first | exact D0 | fail) only [go_sem, ↓reduceIte]
  exact Qc (by rw [Qxc (by simpa using hv)]) rfl
end Go.Proofs.YtmnkngmmfnncoaaGreat
namespace Go.Proofs.YtmnkngmmfnncoaaGreat
open Go Go.FW
set_option linter.unusedSimpArgs false
set_option linter.unusedVariables false
set_option maxRecDepth 100000
theorem Qm1 {a : List Nat} (ha : Qg a) (hl : a.length < 2 ^ 43) : Qd Tryz.prog 119 [PV.nat a] (· = .bool (decide (a.getLast? ≠ some 0))) := by
 refine Qh Qm Tryz.func119 rfl Qabf (by simp [Q63]) fun C hP => ?_; simp only [Q63, Zo, Zg, Zm, Zc, Zf, Zl, Zh, Zs, Zi, Zb, Zk, Zn, Zu, Zq, Zr, Zz]
 simp +decide (disch := first | exact D0 | fail) only [go_sem, ↓reduceIte]
 refine Qa7 (fun h0 => ?_) (fun h0 => ?_)
 ·have : a = [] := List.length_eq_zero_iff.1 (by omega)
  subst this
  simp +decide (disch := first | exact D0 | fail) only [go_sem, ↓reduceIte]
  exact Qc (by simp) rfl
 ·obtain ⟨k, hk⟩ : ∃ k, a.length = k + 1 := ⟨a.length - 1, by omega⟩
  have hlast := Q41 hk
  have e : ((k + 1 : Nat) : Int) - 1 = k := by omega
  generalize hy : a[k]'(by omega) = y at *
  simp +decide (disch := first | exact D3 hk e hy | fail) only [go_sem, ↓reduceIte, hk, e, hy]
  refine Qc (congrArg PV.bool ?_) rfl
  rw [hlast]
  exact decide_eq_decide.2 ⟨fun h h' => h (by injection h' with h'; rw [h']; rfl), fun h h' => h (by rw [show y = 0 by omega])⟩
theorem Qvl {a b : List Nat} (hla : a.length < 2 ^ 43) (hlb : b.length < 2 ^ 43) : Qd Tryz.prog 88 [PV.nat a, PV.nat b] (· = .bool (decide (a = b))) := by
 refine Qh Qm Tryz.func88 rfl Qaec (by simp [c88]) fun C hP => ?_; simp only [c88, Zo, Zg, Zm, Zc, Zf, Zl, Zh, Zs, Zi, Zb, Zk, Zn, Zu, Zq, Zr, Zz]
 simp +decide (disch := first | exact D0 | fail) only [go_sem, ↓reduceIte]
 refine Qb (fun h0 => ?_) (fun h0 => ?_)
 ·simp +decide (disch := first | exact D0 | fail) only [go_sem, ↓reduceIte]
  exact Qc (congrArg PV.bool (by rw [decide_eq_false]; rintro rfl; exact h0 rfl)) rfl
 have hlen : a.length = b.length := by omega
 simp +decide (disch := first | exact D0 | fail) only [go_sem, ↓reduceIte]
 refine Qam (by repeat (first | exact Q2 | exact Qp | exact Qq | exact Qr | exact Qt | apply Qo | apply Qz | apply Q6 | apply Qac | apply Qad | apply Ql | apply Q4)) [(4, 5), (11, 25)] [] (fun n J hp => ∃ i, n = a.length - i /\ i <= a.length /\ a.take i = b.take i /\ J 5 = .int .i64 (i : Nat)) a.length ?_ ?_
 ·refine ⟨0, rfl, by omega, by simp, ?_⟩
  simp +decide (disch := first | exact D0 | fail) only [go_sem, ↓reduceIte]
  rfl
 rintro _ J h ⟨i, rfl, hi, he, h5⟩
 simp +decide (disch := first | exact D1 h5 | fail) only [go_sem, ↓reduceIte, h5]
 refine Qb (fun hg => ?_) (fun hg => ?_)
 ·have hi' : i < a.length := by omega
  have hib : i < b.length := by omega
  have ta := List.take_succ_eq_append_getElem hi'
  have tb := List.take_succ_eq_append_getElem hib
  have hne : a = b -> a[i] = b[i] := fun h => by subst h; rfl
  generalize hx : a[i] = x at *
  generalize hy : b[i] = y at *
  simp +decide (disch := first | exact D3 h5 hx hy | fail) only [go_sem, ↓reduceIte, h5, hx, hy]
  refine Qb (fun hc => ?_) (fun hc => ?_)
  ·simp +decide (disch := first | exact D0 | fail) only [go_sem, ↓reduceIte]
   exact Qc (congrArg PV.bool (by rw [decide_eq_false]; intro h; exact hc (by rw [hne h]))) rfl
  ·simp +decide (disch := first | exact D1 h5 | fail) only [go_sem, ↓reduceIte, h5]
   refine Qae (a.length - (i + 1)) (by omega) ⟨i + 1, rfl, by omega, by rw [ta, tb, he, show x = y by omega], ?_⟩
   simp +decide (disch := first | exact D0 | fail) only [go_sem, ↓reduceIte]
 ·obtain rfl : i = a.length := by omega
  rw [List.take_length, hlen, List.take_length] at he
  simp +decide (disch := first | exact D0 | fail) only [go_sem, ↓reduceIte]
  exact Qc (congrArg PV.bool (by rw [he]; simp)) rfl
theorem Qo4 {a b : List Nat} (ha : Qg a) (hb : Qg b) (hla : a.length < 2 ^ 40) (hlb : b.length < 2 ^ 40) : Qd Tryz.prog 171 [PV.nat a, PV.nat b] (· = PV.num (val a + val b)) := by
 refine Qh Qm Tryz.func171 rfl Qaa9 (by simp [Q6x]) fun C hP => ?_; simp only [Q6x, Zo, Zg, Zm, Zc, Zf, Zl, Zh, Zs, Zi, Zb, Zk, Zn, Zu, Zq, Zr, Zz]
 simp +decide (disch := first | exact D0 | fail) only [go_sem, ↓reduceIte]
 refine Qi1 5 900 1 156 (by omega) T0 ?_
 refine Qam (by repeat (first | exact Q2 | exact Qp | exact Qq | exact Qr | exact Qt | apply Qo | apply Qz | apply Q6 | apply Qac | apply Qad | apply Ql | apply Q4)) [(5, 41)] [38, 39, 900] (fun m J hp => ∃ (i c : Nat) (out : List Nat), m = 2 * (max a.length b.length - i) + c /\ c <= 1 /\ i <= max a.length b.length + 1 /\ (i <= max a.length b.length ∨ c = 0) /\ out.length = i /\ Qg out /\ val out + 65536 ^ i * (c + val (a.drop i) + val (b.drop i)) = val a + val b /\ J 5 = .ms 900 out.length /\ J 6 = .int .i64 c /\ J 7 = .int .i64 i /\ hp 900 = some ⟨1, 156, Qaz out, false⟩) (2 * max a.length b.length) ?_ ?_
 ·refine ⟨0, 0, [], rfl, by omega, by omega, by omega, rfl, Qco, by simp [val], ?_⟩
  simp +decide (disch := first | exact D0 | fail) only [go_sem, ↓reduceIte]
  simp
 rintro _ J h ⟨i, c, out, rfl, hc, hi, hi2, hol, hout, hv, h5, h6, h7, hh⟩
 have e1 := Qgp a i
 have e2 := Qgp b i
 have d1 := Qmd ha i
 have d2 := Qmd hb i
 simp +decide (disch := first | exact D3 h5 h6 h7 | fail) only [go_sem, ↓reduceIte, h5, h6, h7]
 refine Qa7 (fun hg => ?_) (fun hg => ?_)
 ·have hlt : i < max a.length b.length := by omega
  have hs1 : (dg a i + dg b i + c) / 65536 <= 1 := by omega
  have hstep : val (out ++ [(dg a i + dg b i + c) % 65536]) + 65536 ^ (i + 1) * ((dg a i + dg b i + c) / 65536 + val (a.drop (i + 1)) + val (b.drop (i + 1))) = val a + val b := by
   rw [Qmf, hol, Nat.pow_succ, <- hv, e1, e2]
   have := Nat.div_add_mod (dg a i + dg b i + c) 65536
   generalize 65536 ^ i = P at *
   generalize (dg a i + dg b i + c) / 65536 = q at *
   generalize (dg a i + dg b i + c) % 65536 = r at *
   have e : c + (dg a i + 65536 * val (a.drop (i + 1))) + (dg b i + 65536 * val (b.drop (i + 1))) = r + 65536 * (q + val (a.drop (i + 1)) + val (b.drop (i + 1))) := by omega
   rw [e, Nat.mul_add P, Nat.mul_assoc]; omega
  simp +decide (disch := first | exact D3 h5 h6 h7 | fail) only [go_sem, ↓reduceIte, h5, h6, h7]
  refine Qa hP (Qbl ha (by omega)) rfl rfl rfl ?_
  simp +decide (disch := first | exact D3 h5 h6 h7 | fail) only [go_sem, ↓reduceIte, h5, h6, h7]
  refine Qa hP (Qbl hb (by omega)) rfl rfl rfl ?_
  simp +decide (disch := first | omega | rfl | (simp +decide only [go_sem, ↓reduceIte, h5, h6, h7, Nat.mod_mod] <;> rfl) | fail) only [go_sem, ↓reduceIte, h5, h6, h7, Nat.mod_mod]
  rw [Qc1 (f := fun (x : Nat) => .int .u16 x) (y := (dg a i + dg b i + c) % 65536) (xs := out) (ty' := 156) (fz := false) (T1 hh) Tr0 (by omega) rfl (by omega) (by omega)]
  simp +decide (disch := first | exact D3 h5 h6 h7 | fail) only [go_sem, ↓reduceIte, h5, h6, h7]
  refine Qae (2 * (max a.length b.length - (i + 1)) + (dg a i + dg b i + c) / 65536) ?_ ⟨i + 1, (dg a i + dg b i + c) / 65536, out ++ [(dg a i + dg b i + c) % 65536], rfl, hs1, by omega, ?_, by simp [hol], ?_, hstep, ?_⟩
  ·by_cases hlt : i < max a.length b.length
   ·omega
   ·have z1 : dg a i = 0 := by rw [dg, Qbg (by omega)]
    have z2 : dg b i = 0 := by rw [dg, Qbg (by omega)]
    rw [z1, z2]; omega
  ·by_cases hlt : i < max a.length b.length
   ·omega
   ·have z1 : dg a i = 0 := by rw [dg, Qbg (by omega)]
    have z2 : dg b i = 0 := by rw [dg, Qbg (by omega)]
    rw [z1, z2]; omega
  ·rw [Qbq]; exact ⟨hout, by intro z hz; simp at hz; omega⟩
  ·simp +decide (disch := first | exact D0 | fail) only [go_sem, ↓reduceIte]
   simp
 simp +decide (disch := first | exact D3 h5 h6 h7 | fail) only [go_sem, ↓reduceIte, h5, h6, h7]
 refine Qa7 (fun hg2 => ?_) (fun hg2 => ?_)
 ·have hlt : i < max a.length b.length := by omega
  have hs1 : (dg a i + dg b i + c) / 65536 <= 1 := by omega
  have hstep : val (out ++ [(dg a i + dg b i + c) % 65536]) + 65536 ^ (i + 1) * ((dg a i + dg b i + c) / 65536 + val (a.drop (i + 1)) + val (b.drop (i + 1))) = val a + val b := by
   rw [Qmf, hol, Nat.pow_succ, <- hv, e1, e2]
   have := Nat.div_add_mod (dg a i + dg b i + c) 65536
   generalize 65536 ^ i = P at *
   generalize (dg a i + dg b i + c) / 65536 = q at *
   generalize (dg a i + dg b i + c) % 65536 = r at *
   have e : c + (dg a i + 65536 * val (a.drop (i + 1))) + (dg b i + 65536 * val (b.drop (i + 1))) = r + 65536 * (q + val (a.drop (i + 1)) + val (b.drop (i + 1))) := by omega
   rw [e, Nat.mul_add P, Nat.mul_assoc]; omega
  simp +decide (disch := first | exact D3 h5 h6 h7 | fail) only [go_sem, ↓reduceIte, h5, h6, h7]
  refine Qa hP (Qbl ha (by omega)) rfl rfl rfl ?_
  simp +decide (disch := first | exact D3 h5 h6 h7 | fail) only [go_sem, ↓reduceIte, h5, h6, h7]
  refine Qa hP (Qbl hb (by omega)) rfl rfl rfl ?_
  simp +decide (disch := first | omega | rfl | (simp +decide only [go_sem, ↓reduceIte, h5, h6, h7, Nat.mod_mod] <;> rfl) | fail) only [go_sem, ↓reduceIte, h5, h6, h7, Nat.mod_mod]
  rw [Qc1 (f := fun (x : Nat) => .int .u16 x) (y := (dg a i + dg b i + c) % 65536) (xs := out) (ty' := 156) (fz := false) (T1 hh) Tr0 (by omega) rfl (by omega) (by omega)]
  simp +decide (disch := first | exact D3 h5 h6 h7 | fail) only [go_sem, ↓reduceIte, h5, h6, h7]
  refine Qae (2 * (max a.length b.length - (i + 1)) + (dg a i + dg b i + c) / 65536) ?_ ⟨i + 1, (dg a i + dg b i + c) / 65536, out ++ [(dg a i + dg b i + c) % 65536], rfl, hs1, by omega, ?_, by simp [hol], ?_, hstep, ?_⟩
  ·by_cases hlt : i < max a.length b.length
   ·omega
   ·have z1 : dg a i = 0 := by rw [dg, Qbg (by omega)]
    have z2 : dg b i = 0 := by rw [dg, Qbg (by omega)]
    rw [z1, z2]; omega
  ·by_cases hlt : i < max a.length b.length
   ·omega
   ·have z1 : dg a i = 0 := by rw [dg, Qbg (by omega)]
    have z2 : dg b i = 0 := by rw [dg, Qbg (by omega)]
    rw [z1, z2]; omega
  ·rw [Qbq]; exact ⟨hout, by intro z hz; simp at hz; omega⟩
  ·simp +decide (disch := first | exact D0 | fail) only [go_sem, ↓reduceIte]
   simp
 simp +decide (disch := first | exact D3 h5 h6 h7 | fail) only [go_sem, ↓reduceIte, h5, h6, h7]
 refine Qb (fun hg3 => ?_) (fun hg3 => ?_)
 ·have hib : i <= max a.length b.length := by omega
  have hs1 : (dg a i + dg b i + c) / 65536 <= 1 := by omega
  have hstep : val (out ++ [(dg a i + dg b i + c) % 65536]) + 65536 ^ (i + 1) * ((dg a i + dg b i + c) / 65536 + val (a.drop (i + 1)) + val (b.drop (i + 1))) = val a + val b := by
   rw [Qmf, hol, Nat.pow_succ, <- hv, e1, e2]
   have := Nat.div_add_mod (dg a i + dg b i + c) 65536
   generalize 65536 ^ i = P at *
   generalize (dg a i + dg b i + c) / 65536 = q at *
   generalize (dg a i + dg b i + c) % 65536 = r at *
   have e : c + (dg a i + 65536 * val (a.drop (i + 1))) + (dg b i + 65536 * val (b.drop (i + 1))) = r + 65536 * (q + val (a.drop (i + 1)) + val (b.drop (i + 1))) := by omega
   rw [e, Nat.mul_add P, Nat.mul_assoc]; omega
  simp +decide (disch := first | exact D3 h5 h6 h7 | fail) only [go_sem, ↓reduceIte, h5, h6, h7]
  refine Qa hP (Qbl ha (by omega)) rfl rfl rfl ?_
  simp +decide (disch := first | exact D3 h5 h6 h7 | fail) only [go_sem, ↓reduceIte, h5, h6, h7]
  refine Qa hP (Qbl hb (by omega)) rfl rfl rfl ?_
  simp +decide (disch := first | omega | rfl | (simp +decide only [go_sem, ↓reduceIte, h5, h6, h7, Nat.mod_mod] <;> rfl) | fail) only [go_sem, ↓reduceIte, h5, h6, h7, Nat.mod_mod]
  rw [Qc1 (f := fun (x : Nat) => .int .u16 x) (y := (dg a i + dg b i + c) % 65536) (xs := out) (ty' := 156) (fz := false) (T1 hh) Tr0 (by omega) rfl (by omega) (by omega)]
  simp +decide (disch := first | exact D3 h5 h6 h7 | fail) only [go_sem, ↓reduceIte, h5, h6, h7]
  refine Qae (2 * (max a.length b.length - (i + 1)) + (dg a i + dg b i + c) / 65536) ?_ ⟨i + 1, (dg a i + dg b i + c) / 65536, out ++ [(dg a i + dg b i + c) % 65536], rfl, hs1, by omega, ?_, by simp [hol], ?_, hstep, ?_⟩
  ·by_cases hlt : i < max a.length b.length
   ·omega
   ·have z1 : dg a i = 0 := by rw [dg, Qbg (by omega)]
    have z2 : dg b i = 0 := by rw [dg, Qbg (by omega)]
    rw [z1, z2]; omega
  ·by_cases hlt : i < max a.length b.length
   ·omega
   ·have z1 : dg a i = 0 := by rw [dg, Qbg (by omega)]
    have z2 : dg b i = 0 := by rw [dg, Qbg (by omega)]
    rw [z1, z2]; omega
  ·rw [Qbq]; exact ⟨hout, by intro z hz; simp at hz; omega⟩
  ·simp +decide (disch := first | exact D0 | fail) only [go_sem, ↓reduceIte]
   simp
 ·obtain rfl : c = 0 := by omega
  rw [List.drop_of_length_le (by omega), List.drop_of_length_le (by omega)] at hv
  simp only [val, Nat.add_zero, Nat.mul_zero] at hv
  simp +decide (disch := first | exact D2 h5 hh | fail) only [go_sem, ↓reduceIte, h5, hh]
  refine Qfs hP (Qbr hout (by omega)) (by simp +decide (disch := first | exact E1 hh | fail) only [go_sem, ↓reduceIte, hh, Qn, List.contains_cons, List.contains_nil, List.flatMap_cons, List.flatMap_nil, List.append_nil]; simp [List.take_of_length_le]) rfl fun hp' => ?_
  simp +decide (disch := first | exact D0 | fail) only [go_sem, ↓reduceIte]
  exact Qc (by rw [hv]) rfl
end Go.Proofs.YtmnkngmmfnncoaaGreat
namespace Go.Proofs.YtmnkngmmfnncoaaGreat
open Go Go.FW
set_option linter.unusedSimpArgs false
set_option linter.unusedVariables false
set_option maxRecDepth 100000
theorem Qkv {a b : List Nat} (ha : Qg a) (hb : Qg b) (hla : a.length < 2 ^ 40) (hlb : b.length < 2 ^ 40) : Qd Tryz.prog 208 [PV.nat a, PV.nat b] (· = if val a < val b then .tup [PV.num 0, .int .i64 2] else .tup [PV.num (val a - val b), .int .i64 0]) := by
 refine Qh Qm Tryz.func208 rfl Qaba (by simp [Q6y]) fun C hP => ?_; simp only [Q6y, Zo, Zg, Zm, Zc, Zf, Zl, Zh, Zs, Zi, Zb, Zk, Zn, Zu, Zq, Zr, Zz]
 simp +decide (disch := first | exact D0 | fail) only [go_sem, ↓reduceIte]
 refine Qa hP (Qhz ha hb (by omega) (by omega)) rfl rfl rfl ?_
 simp +decide (disch := first | exact D0 | fail) only [go_sem, ↓reduceIte]
 refine Qb (fun hc => ?_) (fun hc => ?_)
 ·rw [if_pos (Qma.1 hc)]
  simp +decide (disch := first | exact D0 | fail) only [go_sem, ↓reduceIte]
  exact Qc9 rfl rfl rfl Qhl (Qx _)
 have hge : ¬ val a < val b := fun h => hc (Qma.2 h)
 rw [if_neg hge]
 simp +decide (disch := first | exact D0 | fail) only [go_sem, ↓reduceIte]
 refine Qi1 6 900 1 156 (by omega) T0 ?_
 refine Qam (by repeat (first | exact Q2 | exact Qp | exact Qq | exact Qr | exact Qt | apply Qo | apply Qz | apply Q6 | apply Qac | apply Qad | apply Ql | apply Q4)) [(6, 9), (14, 37)] [36, 37, 900] (fun m J hp => ∃ (i c : Nat) (out : List Nat), m = a.length - i /\ c <= 1 /\ i <= a.length /\ out.length = i /\ Qg out /\ val (a.take i) + 65536 ^ i * c = val out + val (b.take i) /\ J 6 = .ms 900 out.length /\ J 7 = .int .i64 c /\ J 8 = .int .i64 i /\ hp 900 = some ⟨1, 156, Qaz out, false⟩) a.length ?_ ?_
 ·refine ⟨0, 0, [], rfl, by omega, by omega, rfl, Qco, by simp [val], ?_⟩
  simp +decide (disch := first | exact D0 | fail) only [go_sem, ↓reduceIte]
  simp
 rintro _ J h ⟨i, c, out, rfl, hc1, hi, hol, hout, hv, h6, h7, h8, hh⟩
 simp +decide (disch := first | exact D3 h6 h7 h8 | fail) only [go_sem, ↓reduceIte, h6, h7, h8]
 refine Qb (fun hg => ?_) (fun hg => ?_)
 ·have hi' : i < a.length := by omega
  have e1 := Qlh a i
  have e2 := Qlh b i
  have d1 := Qmd ha i
  have d2 := Qmd hb i
  simp +decide (disch := first | exact D3 h6 h7 h8 | fail) only [go_sem, ↓reduceIte, h6, h7, h8]
  refine Qa hP (Qbl ha (by omega)) rfl rfl rfl ?_
  simp +decide (disch := first | exact D3 h6 h7 h8 | fail) only [go_sem, ↓reduceIte, h6, h7, h8]
  refine Qa hP (Qbl hb (by omega)) rfl rfl rfl ?_
  simp +decide (disch := first | exact D3 h6 h7 h8 | fail) only [go_sem, ↓reduceIte, h6, h7, h8]
  have step : ∀ (d c' : Nat), d < 65536 -> c' <= 1 -> dg a i + 65536 * c' = d + dg b i + c -> val (a.take (i + 1)) + 65536 ^ (i + 1) * c' = val (out ++ [d]) + val (b.take (i + 1)) := fun d c' _ _ h3 => by
   rw [Qmf, hol, e1, e2, Nat.pow_succ]
   generalize 65536 ^ i = P at *
   have : P * (dg a i + 65536 * c') = P * (d + dg b i + c) := by rw [h3]
   rw [Nat.mul_add, <- Nat.mul_assoc, Nat.mul_add, Nat.mul_add] at this
   omega
  refine Qb (fun hd => ?_) (fun hd => ?_)
  ·obtain ⟨d, hd1⟩ : ∃ d : Nat, (dg a i : Int) - (dg b i : Int) - (c : Int) + 65536 = d := ⟨((dg a i : Int) - (dg b i : Int) - (c : Int) + 65536).toNat, by omega⟩
   have hst := step d 1 (by omega) (by omega) (by omega)
   simp +decide (disch := first | exact D4 h6 h7 h8 hd1 | fail) only [go_sem, ↓reduceIte, h6, h7, h8, hd1]
   rw [Qc1 (f := fun (x : Nat) => .int .u16 x) (y := d) (xs := out) (ty' := 156) (fz := false) (T1 hh) (by simp +decide (disch := first | omega | rfl | (simp +decide only [go_sem, ↓reduceIte, Nat.mod_eq_of_lt (by omega : d < 65536)] <;> rfl) | fail) only [go_sem, ↓reduceIte, Nat.mod_eq_of_lt (by omega : d < 65536)]) (by omega) rfl (by omega) (by omega)]
   simp +decide (disch := first | exact D3 h6 h7 h8 | fail) only [go_sem, ↓reduceIte, h6, h7, h8]
   refine Qae (a.length - (i + 1)) (by omega) ⟨i + 1, 1, out ++ [d], rfl, by omega, by omega, by simp [hol], ?_, hst, ?_⟩
   ·rw [Qbq]; exact ⟨hout, by intro z hz; simp at hz; omega⟩
   ·simp +decide (disch := first | exact D0 | fail) only [go_sem, ↓reduceIte]
    simp
  ·obtain ⟨d, hd1⟩ : ∃ d : Nat, (dg a i : Int) - (dg b i : Int) - (c : Int) = d := ⟨((dg a i : Int) - (dg b i : Int) - (c : Int)).toNat, by omega⟩
   have hst := step d 0 (by omega) (by omega) (by omega)
   simp +decide (disch := first | exact D4 h6 h7 h8 hd1 | fail) only [go_sem, ↓reduceIte, h6, h7, h8, hd1]
   rw [Qc1 (f := fun (x : Nat) => .int .u16 x) (y := d) (xs := out) (ty' := 156) (fz := false) (T1 hh) (by simp +decide (disch := first | omega | rfl | (simp +decide only [go_sem, ↓reduceIte, Nat.mod_eq_of_lt (by omega : d < 65536)] <;> rfl) | fail) only [go_sem, ↓reduceIte, Nat.mod_eq_of_lt (by omega : d < 65536)]) (by omega) rfl (by omega) (by omega)]
   simp +decide (disch := first | exact D3 h6 h7 h8 | fail) only [go_sem, ↓reduceIte, h6, h7, h8]
   refine Qae (a.length - (i + 1)) (by omega) ⟨i + 1, 0, out ++ [d], rfl, by omega, by omega, by simp [hol], ?_, hst, ?_⟩
   ·rw [Qbq]; exact ⟨hout, by intro z hz; simp at hz; omega⟩
   ·simp +decide (disch := first | exact D0 | fail) only [go_sem, ↓reduceIte]
    simp
 ·obtain rfl : i = a.length := by omega
  have hbz : val (b.drop a.length) = 0 := Qhx (by have := Qfa ha; omega)
  have hbs := Qme b a.length
  rw [hbz, Nat.mul_zero, Nat.add_zero] at hbs
  rw [List.take_length, <- hbs] at hv
  have hvo := Qfa hout
  rw [hol] at hvo
  have hc0 : c = 0 := by
   match c, hc1 with
   | 0, _ => rfl
   | 1, _ => exfalso; have := Qfa ha; omega
  subst hc0
  simp +decide (disch := first | exact D2 h6 hh | fail) only [go_sem, ↓reduceIte, h6, hh]
  refine Qfs hP (Qbr hout (by omega)) (by simp +decide (disch := first | exact E1 hh | fail) only [go_sem, ↓reduceIte, hh, Qn, List.contains_cons, List.contains_nil, List.flatMap_cons, List.flatMap_nil, List.append_nil]; simp [List.take_of_length_le]) rfl fun hp' => ?_
  simp +decide (disch := first | exact D0 | fail) only [go_sem, ↓reduceIte]
  exact Qc9 rfl rfl rfl (Qgl (congrArg PV.num (by omega))) (Qx _)
theorem Qkw {a b : List Nat} (ha : Qg a) (hb : Qg b) (hla : a.length < 2 ^ 40) (hlb : b.length < 2 ^ 40) : Qd Tryz.prog 160 [PV.nat a, PV.nat b] (· = PV.num (val a * val b)) := by
 refine Qh Qm Tryz.func160 rfl Qabb (by simp [Q6z]) fun C hP => ?_; simp only [Q6z, Zo, Zg, Zm, Zc, Zf, Zl, Zh, Zs, Zi, Zb, Zk, Zn, Zu, Zq, Zr, Zz]
 simp +decide (disch := first | exact D0 | fail) only [go_sem, ↓reduceIte]
 refine Qam (by repeat (first | exact Q2 | exact Qp | exact Qq | exact Qr | exact Qt | apply Qo | apply Qz | apply Q6 | apply Qac | apply Qad | apply Ql | apply Q4)) [(6, 9), (17, 62)] [] (fun m J hp => ∃ (i : Nat) (L : List Nat), m = a.length - i /\ i <= a.length /\ L.length = a.length + b.length + 1 /\ Qg L /\ val L = val (a.take i) * val b /\ J 6 = .int .i64 i /\ hp = Qj hp0 16 ⟨1, 156, Qaz L, false⟩) a.length ?_ ?_
 ·refine ⟨0, List.replicate (a.length + b.length + 1) 0, rfl, by omega, by simp, ?_, by simp [val, Qsf], ?_⟩
  ·intro z hz; rw [List.eq_of_mem_replicate hz]; omega
  ·simp +decide (disch := first | exact D0 | fail) only [go_sem, ↓reduceIte]
   simp
 rintro _ J _ ⟨i, L, rfl, hi, hLl, hL, hv, h6, rfl⟩
 simp +decide (disch := first | exact D1 h6 | fail) only [go_sem, ↓reduceIte, h6]
 refine Qb (fun hg => ?_) (fun hg => ?_)
 ·have hi' : i < a.length := by omega
  have hai := Qaj ha hi'
  have hts := Qfb hi'
  have hz0 : dg L (i + b.length) = 0 := by
   apply Qy0
   apply Qhx
   rw [hv, Nat.pow_add]
   have h1 := Qdv ha i (by omega)
   have h2 := Qfa hb
   exact Nat.mul_lt_mul'' h1 h2
  generalize hxx : a[i] = ai at *
  simp +decide (disch := first | exact D2 h6 hxx | fail) only [go_sem, ↓reduceIte, h6, hxx]
  refine Qam (by repeat (first | exact Q2 | exact Qp | exact Qq | exact Qr | exact Qt | apply Qo | apply Qz | apply Q6 | apply Qac | apply Qad | apply Ql | apply Q4)) [(7, 9), (23, 62)] [] (fun m J hp => ∃ (k c : Nat) (M : List Nat), m = b.length + 1 - k /\ k <= b.length + 1 /\ (k <= b.length ∨ c = 0) /\ c < 65536 /\ M.length = L.length /\ Qg M /\ val M + 65536 ^ (i + k) * (c + ai * val (b.drop k)) = val L + 65536 ^ i * (ai * val b) /\ (∀ j, i + k <= j -> dg M j = dg L j) /\ J 7 = .int .u64 c /\ J 8 = .int .i64 k /\ hp = Qj hp0 16 ⟨1, 156, Qaz M, false⟩) (b.length + 1) ?_ ?_
  ·refine ⟨0, 0, L, rfl, by omega, by omega, by omega, rfl, hL, by simp, fun _ _ => rfl, ?_⟩
   simp +decide (disch := first | exact D1 h6 | fail) only [go_sem, ↓reduceIte, h6]
   simp
  rintro _ J2 _ ⟨k, c, M, rfl, hk, hk2, hc, hMl, hM, hw, hsame, h7, h8, rfl⟩
  have e2 := Qgp b k
  have d2 := Qmd hb k
  simp +decide (disch := first | exact D3 h6 h7 h8 | fail) only [go_sem, ↓reduceIte, h6, h7, h8]
  refine Qa7 (fun hkb => ?_) (fun hkb => ?_)
  ·have hkb' : k <= b.length := by omega
   have hj : i + k < M.length := by omega
   have hx := Qaj hM hj
   have hset := fun v => Qxl (v := v) hj
   have hmx := Qe1 hai d2
   have hdx : dg M (i + k) = M[i + k] := Qbf hj
   generalize hxm : M[i + k] = x at *
   have hdm := Nat.div_add_mod (x + ai * dg b k + c) 65536
   have hnew := Qsn (T := val L + 65536 ^ i * (ai * val b)) (hset ((x + ai * dg b k + c) % 65536)) (by rw [<- e2]; exact hw) hdm
   have hr := Nat.mod_lt (x + ai * dg b k + c) (show 0 < 65536 by omega)
   have hq : (x + ai * dg b k + c) / 65536 < 65536 := by omega
   have hq0 : ¬ k < b.length -> (x + ai * dg b k + c) / 65536 = 0 := fun h => by
    have z1 : dg b k = 0 := by rw [dg, Qbg (by omega)]
    have z2 : x = 0 := by rw [<- hdx, hsame _ (Nat.le_refl _), show i + k = i + b.length by omega, hz0]
    rw [z1, z2]; omega
   have hlims : Qg (M.set (i + k) ((x + ai * dg b k + c) % 65536)) := fun z hz => by
    rcases List.mem_or_eq_of_mem_set hz with h | h
    ·exact hM z h
    ·omega
   have e5 : IntKind.u64.wrap ((ai * dg b k : Nat) : Int) = ((ai * dg b k : Nat) : Int) := Qe3 (by omega) (by omega)
   simp +decide (disch := first | exact D5 h6 h7 h8 hxx hxm | fail) only [go_sem, ↓reduceIte, h6, h7, h8, hxx, hxm]
   refine Qa hP (Qbl hb (by omega)) rfl rfl rfl ?_
   simp +decide (disch := first | omega | rfl | (simp +decide only [go_sem, ↓reduceIte, h6, h7, h8, hxx, hxm, e5, Nat.mod_mod] <;> rfl) | fail) only [go_sem, ↓reduceIte, h6, h7, h8, hxx, hxm, e5, Nat.mod_mod]
   refine Qae (b.length + 1 - (k + 1)) (by omega) ⟨k + 1, (x + ai * dg b k + c) / 65536, M.set (i + k) ((x + ai * dg b k + c) % 65536), rfl, by omega, ?_, hq, by rw [List.length_set]; exact hMl, hlims, ?_, ?_, ?_⟩
   ·by_cases h : k < b.length
    ·omega
    ·exact .inr (hq0 h)
   ·rw [<- Nat.add_assoc, Nat.pow_succ]; exact hnew
   ·intro j hj2
    rw [Qso (by omega)]; exact hsame j (by omega)
   ·simp +decide (disch := first | exact D3 h6 h7 h8 | fail) only [go_sem, ↓reduceIte, h6, h7, h8]
  simp +decide (disch := first | exact D3 h6 h7 h8 | fail) only [go_sem, ↓reduceIte, h6, h7, h8]
  refine Qb (fun hc0 => ?_) (fun hc0 => ?_)
  ·have hkb' : k <= b.length := by omega
   have hj : i + k < M.length := by omega
   have hx := Qaj hM hj
   have hset := fun v => Qxl (v := v) hj
   have hmx := Qe1 hai d2
   have hdx : dg M (i + k) = M[i + k] := Qbf hj
   generalize hxm : M[i + k] = x at *
   have hdm := Nat.div_add_mod (x + ai * dg b k + c) 65536
   have hnew := Qsn (T := val L + 65536 ^ i * (ai * val b)) (hset ((x + ai * dg b k + c) % 65536)) (by rw [<- e2]; exact hw) hdm
   have hr := Nat.mod_lt (x + ai * dg b k + c) (show 0 < 65536 by omega)
   have hq : (x + ai * dg b k + c) / 65536 < 65536 := by omega
   have hq0 : ¬ k < b.length -> (x + ai * dg b k + c) / 65536 = 0 := fun h => by
    have z1 : dg b k = 0 := by rw [dg, Qbg (by omega)]
    have z2 : x = 0 := by rw [<- hdx, hsame _ (Nat.le_refl _), show i + k = i + b.length by omega, hz0]
    rw [z1, z2]; omega
   have hlims : Qg (M.set (i + k) ((x + ai * dg b k + c) % 65536)) := fun z hz => by
    rcases List.mem_or_eq_of_mem_set hz with h | h
    ·exact hM z h
    ·omega
   have e5 : IntKind.u64.wrap ((ai * dg b k : Nat) : Int) = ((ai * dg b k : Nat) : Int) := Qe3 (by omega) (by omega)
   simp +decide (disch := first | exact D5 h6 h7 h8 hxx hxm | fail) only [go_sem, ↓reduceIte, h6, h7, h8, hxx, hxm]
   refine Qa hP (Qbl hb (by omega)) rfl rfl rfl ?_
   simp +decide (disch := first | omega | rfl | (simp +decide only [go_sem, ↓reduceIte, h6, h7, h8, hxx, hxm, e5, Nat.mod_mod] <;> rfl) | fail) only [go_sem, ↓reduceIte, h6, h7, h8, hxx, hxm, e5, Nat.mod_mod]
   refine Qae (b.length + 1 - (k + 1)) (by omega) ⟨k + 1, (x + ai * dg b k + c) / 65536, M.set (i + k) ((x + ai * dg b k + c) % 65536), rfl, by omega, ?_, hq, by rw [List.length_set]; exact hMl, hlims, ?_, ?_, ?_⟩
   ·by_cases h : k < b.length
    ·omega
    ·exact .inr (hq0 h)
   ·rw [<- Nat.add_assoc, Nat.pow_succ]; exact hnew
   ·intro j hj2
    rw [Qso (by omega)]; exact hsame j (by omega)
   ·simp +decide (disch := first | exact D3 h6 h7 h8 | fail) only [go_sem, ↓reduceIte, h6, h7, h8]
  ·obtain rfl : c = 0 := by omega
   rw [List.drop_of_length_le (by omega)] at hw
   simp only [val, Nat.mul_zero, Nat.add_zero] at hw
   simp +decide (disch := first | exact D3 h6 h7 h8 | fail) only [go_sem, ↓reduceIte, h6, h7, h8]
   simp (disch := decide) only [Qb8, Qcp]
   refine Qae (a.length - (i + 1)) (by omega) ⟨i + 1, M, rfl, by omega, by omega, hM, ?_, ?_⟩
   ·rw [hw, hv, hts, Nat.add_mul, Nat.mul_assoc]
   ·simp +decide (disch := first | exact D0 | fail) only [go_sem, ↓reduceIte]
 ·obtain rfl : i = a.length := by omega
  rw [List.take_length] at hv
  simp +decide (disch := first | exact D0 | fail) only [go_sem, ↓reduceIte]
  refine Qfs hP (Qbr hL (by omega)) (by simp +decide (disch := first | exact E0 | fail) only [go_sem, ↓reduceIte, Qn, List.contains_cons, List.contains_nil, List.flatMap_cons, List.flatMap_nil, List.append_nil]; simp [List.take_of_length_le, hLl]) rfl fun hp' => ?_
  simp +decide (disch := first | exact D0 | fail) only [go_sem, ↓reduceIte]
  exact Qc (by rw [hv]) rfl
end Go.Proofs.YtmnkngmmfnncoaaGreat
namespace Go.Proofs.YtmnkngmmfnncoaaGreat
open Go Go.FW
set_option linter.unusedSimpArgs false
set_option linter.unusedVariables false
set_option maxRecDepth 100000
theorem Qiu {x y : Nat} (hx : nl x < 2 ^ 40) (hy : nl y < 2 ^ 40) : Qd Tryz.prog 160 [PV.num x, PV.num y] (· = PV.num (x * y)) := by
 have := Qkw (Qi x) (Qi y) hx hy
 rwa [Qy, Qy] at this
theorem Qzf {x y : Nat} (hx : nl x < 2 ^ 42) (hy : nl y < 2 ^ 42) : Qd Tryz.prog 224 [PV.num x, PV.num y] (· = .int .i64 (Qdr x y)) := by
 have := Qhz (Qi x) (Qi y) hx hy
 rwa [Qy, Qy] at this
theorem Qqy {x y : Nat} (hx : nl x < 2 ^ 40) (hy : nl y < 2 ^ 40) (h : y <= x) : Qd Tryz.prog 208 [PV.num x, PV.num y] (· = .tup [PV.num (x - y), .int .i64 0]) := by
 have := Qkv (Qi x) (Qi y) hx hy
 rwa [Qy, Qy, if_neg (by omega)] at this
theorem Qxs {x y : Nat} : Qdr x y <= 0 ↔ x <= y := by unfold Qdr; split <;> (try split) <;> omega
theorem Qm2 {x y : Nat} (hx : nl x < 2 ^ 38) (hy : nl y < 2 ^ 38) (hy0 : 0 < y) : Qd Tryz.prog 210 [PV.num x, PV.num y] (· = .int .u64 (min 65535 (x / y) : Nat)) := by
 have hq2 : ∀ (n d : Nat) fr hp K, n < 18446744073709551616 -> Qa2 .quo false (.int .u64 (n : Int)) (.int .u64 2) d fr hp K = K (upd fr d (.int .u64 ((n / 2 : Nat) : Int))) hp := fun n d fr hp K h => by
  rw [show (2 : Int) = ((2 : Nat) : Int) from rfl, Qiz (by omega) h]
 refine Qh Qm Tryz.func210 rfl Qabc (by simp [Q60]) fun C hP => ?_; simp only [Q60, Zo, Zg, Zm, Zc, Zf, Zl, Zh, Zs, Zi, Zb, Zk, Zn, Zu, Zq, Zr, Zz]
 simp +decide (disch := first | exact D0 | fail) only [go_sem, ↓reduceIte]
 refine Qam (by repeat (first | exact Q2 | exact Qp | exact Qq | exact Qr | exact Qt | apply Qo | apply Qz | apply Q6 | apply Qac | apply Qad | apply Ql | apply Q4)) [(5, 25)] [] (fun m J hp => ∃ lo hi : Nat, m = hi - lo /\ lo <= hi /\ hi <= 65535 /\ y * lo <= x /\ (hi = 65535 ∨ x < y * (hi + 1)) /\ J 5 = .int .u64 lo /\ J 6 = .int .u64 hi) 65535 ?_ ?_
 ·refine ⟨0, 65535, rfl, by omega, by omega, by omega, .inl rfl, ?_⟩
  simp +decide (disch := first | exact D0 | fail) only [go_sem, ↓reduceIte]
  simp
 rintro _ J h ⟨lo, hi, rfl, h1, h2, h3, h4, h5, h6⟩
 simp +decide (disch := first | exact D2 h5 h6 | fail) only [go_sem, ↓reduceIte, h5, h6]
 refine Qb (fun hg => ?_) (fun hg => ?_)
 ·have hsz : nl ((lo + hi + 1) / 2) <= 4 := Qd3 (by omega)
  have hm := Qfr y ((lo + hi + 1) / 2)
  generalize hmid : (lo + hi + 1) / 2 = mid at *
  simp +decide (disch := first | exact D4 h5 h6 hq2 hmid | fail) only [go_sem, ↓reduceIte, h5, h6, hq2, hmid]
  refine Qa hP (Qc3 (n := mid) (by omega)) rfl rfl rfl ?_
  simp +decide (disch := first | exact D2 h5 h6 | fail) only [go_sem, ↓reduceIte, h5, h6]
  refine Qa hP (Qiu (x := y) (y := mid) (by omega) (by omega)) rfl rfl rfl ?_
  simp +decide (disch := first | exact D2 h5 h6 | fail) only [go_sem, ↓reduceIte, h5, h6]
  refine Qa hP (Qzf (x := y * mid) (y := x) (by omega) (by omega)) rfl rfl rfl ?_
  simp +decide (disch := first | exact D2 h5 h6 | fail) only [go_sem, ↓reduceIte, h5, h6]
  refine Qb (fun hc => ?_) (fun hc => ?_)
  ·rw [Qxs] at hc
   simp +decide (disch := first | exact D2 h5 h6 | fail) only [go_sem, ↓reduceIte, h5, h6]
   refine Qae (hi - mid) (by omega) ⟨mid, hi, rfl, by omega, h2, hc, h4, ?_⟩
   simp +decide (disch := first | exact D1 h6 | fail) only [go_sem, ↓reduceIte, h6]
  ·rw [Qxs] at hc
   obtain ⟨n, rfl⟩ : ∃ n, mid = n + 1 := ⟨mid - 1, by omega⟩
   have e : ((n + 1 : Nat) : Int) - 1 = n := by omega
   simp +decide (disch := first | exact D3 h5 h6 e | fail) only [go_sem, ↓reduceIte, h5, h6, e]
   refine Qae (n - lo) (by omega) ⟨lo, n, rfl, by omega, by omega, h3, .inr (by omega), ?_⟩
   simp +decide (disch := first | exact D1 h5 | fail) only [go_sem, ↓reduceIte, h5]
 ·obtain rfl : lo = hi := by omega
  simp +decide (disch := first | exact D1 h5 | fail) only [go_sem, ↓reduceIte, h5]
  refine Qc ?_ rfl
  have hle : lo <= x / y := (Nat.le_div_iff_mul_le hy0).2 (by rw [Nat.mul_comm]; exact h3)
  rcases h4 with rfl | h4
  ·rw [Nat.min_eq_left hle]
  ·have : x / y < lo + 1 := (Nat.div_lt_iff_lt_mul hy0).2 (by rw [Nat.mul_comm]; exact h4)
   congr 2; omega
theorem Qlo {a b : List Nat} (ha : Qg a) (hb : Qg b) (hla : a.length < 2 ^ 36) (hlb : b.length < 2 ^ 36) : Qd Tryz.prog 168 [PV.nat a, PV.nat b]
  (· = if val b = 0 then .tup [PV.num 0, PV.num 0, .int .i64 3] else .tup [PV.num (val a / val b), PV.num (val a % val b), .int .i64 0]) := by
 have hda := Qal ha
 have hdb := Qal hb
 refine Qh Qm Tryz.func168 rfl Qabd (by simp [Q61]) fun C hP => ?_; simp only [Q61, Zo, Zg, Zm, Zc, Zf, Zl, Zh, Zs, Zi, Zb, Zk, Zn, Zu, Zq, Zr, Zz]
 simp +decide (disch := first | exact D0 | fail) only [go_sem, ↓reduceIte]
 refine Qa hP (Qbr ha (by omega)) rfl rfl rfl ?_
 simp +decide (disch := first | exact D0 | fail) only [go_sem, ↓reduceIte]
 refine Qa hP (Qbr hb (by omega)) rfl rfl rfl ?_
 simp +decide (disch := first | exact D0 | fail) only [go_sem, ↓reduceIte]
 generalize val a = x at *
 generalize val b = y at *
 unfold nl at hda hdb
 refine Qb (fun hz => ?_) (fun hz => ?_)
 ·have hy0 : y = 0 := Qbk.1 (Qcy (by omega))
  simp +decide (disch := first | exact D0 | fail) only [go_sem, ↓reduceIte]
  rw [if_pos hy0]
  exact Ql3 rfl rfl rfl rfl Qhl Qhl (Qx _)
 have hy0 : y ≠ 0 := fun h => by rw [h, Qa1] at hz; simp at hz
 rw [if_neg hy0]
 have hyp : 0 < y := Nat.pos_of_ne_zero hy0
 have hxl := Qi x
 have hyl := Qi y
 have hxv := Qy x
 have hyv := Qy y
 simp +decide (disch := first | exact D0 | fail) only [go_sem, ↓reduceIte]
 refine Qb2 (fun h1 => ?_) (fun h1 => ?_)
 ·simp +decide (disch := first | exact D0 | fail) only [go_sem, ↓reduceIte]
  refine Qb (fun h2 => ?_) (fun h2 => ?_)
  ·have hx64 := Qj2.1 (show nl x <= 4 by unfold nl; omega)
   have hy64 := Qj2.1 (show nl y <= 4 by unfold nl; omega)
   have hq := Nat.div_le_self x y
   have hr := Nat.mod_lt x hyp
   simp +decide (disch := first | exact D0 | fail) only [go_sem, ↓reduceIte]
   refine Qa hP (Qge hxl (by omega)) rfl rfl rfl ?_
   simp +decide (disch := first | exact D1 hxv | fail) only [go_sem, ↓reduceIte, hxv]
   refine Qa hP (Qge hyl (by omega)) rfl rfl rfl ?_
   simp +decide (disch := first | omega | rfl | (simp +decide only [go_sem, ↓reduceIte, hxv, hyv, Qiz] <;> rfl) | fail) only [go_sem, ↓reduceIte, hxv, hyv, Qiz]
   refine Qa hP (Qc3 (n := x / y) (by omega)) rfl rfl rfl ?_
   simp +decide (disch := first | exact D0 | fail) only [go_sem, ↓reduceIte]
   refine Qa hP (Qge hxl (by omega)) rfl rfl rfl ?_
   simp +decide (disch := first | exact D1 hxv | fail) only [go_sem, ↓reduceIte, hxv]
   refine Qa hP (Qge hyl (by omega)) rfl rfl rfl ?_
   simp +decide (disch := first | omega | rfl | (simp +decide only [go_sem, ↓reduceIte, hxv, hyv, Qd0] <;> rfl) | fail) only [go_sem, ↓reduceIte, hxv, hyv, Qd0]
   refine Qa hP (Qc3 (n := x % y) (by omega)) rfl rfl rfl ?_
   simp +decide (disch := first | exact D0 | fail) only [go_sem, ↓reduceIte]
   exact Ql3 rfl rfl rfl rfl (Qx _) (Qx _) (Qx _)
  ·have hsep := trivial
   simp +decide (disch := first | exact D0 | fail) only [go_sem, ↓reduceIte]
   refine Qof 7 1 T0 ?_
   refine Qof 8 1 T0 ?_
   refine Qu2 (by repeat (first | exact Q2 | exact Qp | exact Qq | exact Qr | exact Qt | apply Qo | apply Qz | apply Q6 | apply Qac | apply Qad | apply Ql | apply Q4)) [(7, 10), (41, 69)] [49, 51, 58, 60] (fun k J hp => ∃ qs, k <= (dig x).length /\ qs.length = (dig x).length - k /\ Qg qs /\ val qs = val ((dig x).drop k) / y /\ J 7 = .sl 1 (Qaz qs) /\ J 8 = PV.num (val ((dig x).drop k) % y) /\ J 9 = .int .i64 ((k : Int) - 1)) (dig x).length ?_ ?_
   ·refine ⟨[], Nat.le_refl _, by simp, Qco, by simp [val], ?_⟩
    simp +decide (disch := first | exact D0 | fail) only [go_sem, ↓reduceIte]
    simp [val, Qa1]
   rintro k J h ⟨qs, hk, hql, hqs, hqv, h7, h8, h9⟩
   simp +decide (disch := first | exact D3 h7 h8 h9 | fail) only [go_sem, ↓reduceIte, h7, h8, h9]
   have hr := Nat.mod_lt (val ((dig x).drop k)) hyp
   refine Qb (fun hg => ?_) (fun hg => ?_)
   ·obtain _ | n := k
    ·omega
    have hn : n < (dig x).length := by omega
    have han := Qaj hxl hn
    have e : ((n + 1 : Nat) : Int) - 1 = n := by omega
    have hst := Qqp (x := (dig x)[n]) hyp hqv
    rw [<- Qcl hn] at hst
    generalize hV : val ((dig x).drop (n + 1)) % y = r at *
    generalize hxx : (dig x)[n] = xi at *
    have hrl : (dig r).length <= (dig y).length := Qbx (Nat.le_of_lt hr)
    have hlim : Qg ([xi] ++ dig r) := by rw [Qbq]; exact ⟨by intro z hz; simp at hz; omega, Qi r⟩
    have hvl : val ([xi] ++ dig r) = r * 65536 + xi := by rw [Qb7, Qy]; simp [val]; omega
    have hlt : (r * 65536 + xi) / y < 65536 := by
     rw [Nat.div_lt_iff_lt_mul hyp]
     have : (r + 1) * 65536 <= y * 65536 := Nat.mul_le_mul_right _ hr
     omega
    have hnR : nl (r * 65536 + xi) <= (dig y).length + 1 := by
     have := Qal hlim
     rw [hvl, List.length_append] at this
     simp at this; omega
    have hdm := Nat.div_add_mod (r * 65536 + xi) y
    have hnm : nl (y * ((r * 65536 + xi) / y)) <= (dig y).length + 1 := Nat.le_trans (Qbx (by omega)) hnR
    have hn4 : nl ((r * 65536 + xi) / y) <= 4 := Qd3 (by omega)
    have hsub : r * 65536 + xi - y * ((r * 65536 + xi) / y) = (r * 65536 + xi) % y := by omega
    simp +decide (disch := first | exact D5 h7 h8 h9 e hxx | fail) only [go_sem, ↓reduceIte, h7, h8, h9, e, hxx]
    rw [Qoe (f := fun (x : Nat) => .int .u16 x) (xs := [xi]) (ys := dig r) (n := 1) Tr0 rfl (by omega) (by omega) (by omega)]
    simp +decide (disch := first | exact D5 h7 h8 h9 e hxx | fail) only [go_sem, ↓reduceIte, h7, h8, h9, e, hxx]
    refine Qcn hP (Qbr (l := [xi] ++ dig r) hlim (by simp; omega)) (by simp +decide (disch := first | exact E0 | fail) only [go_sem, ↓reduceIte, Qn, List.contains_cons, List.contains_nil, List.flatMap_cons, List.flatMap_nil, List.append_nil]; simp [Nat.add_comm 1, List.take_of_length_le]) rfl ?_
    rw [hvl]
    simp +decide (disch := first | exact D5 h7 h8 h9 e hxx | fail) only [go_sem, ↓reduceIte, h7, h8, h9, e, hxx]
    refine Qa hP (Qm2 (x := r * 65536 + xi) (y := y) (by omega) (by unfold nl; omega) hyp) rfl rfl rfl ?_
    rw [Nat.min_eq_right (by omega : (r * 65536 + xi) / y <= 65535)]
    generalize hD : (r * 65536 + xi) / y = D at *
    simp +decide (disch := first | omega | rfl | (simp +decide only [go_sem, ↓reduceIte, h7, h8, h9, e, hxx, Nat.mod_eq_of_lt hlt] <;> rfl) | fail) only [go_sem, ↓reduceIte, h7, h8, h9, e, hxx, Nat.mod_eq_of_lt hlt]
    rw [Qoe (f := fun (x : Nat) => .int .u16 x) (xs := [D]) (ys := qs) (n := 1) Tr0 rfl (by omega) (by omega) (by omega)]
    simp +decide (disch := first | exact D5 h7 h8 h9 e hxx | fail) only [go_sem, ↓reduceIte, h7, h8, h9, e, hxx]
    refine Qa hP (Qc3 (n := D) (by omega)) rfl rfl rfl ?_
    simp +decide (disch := first | exact D4 h7 h8 h9 e | fail) only [go_sem, ↓reduceIte, h7, h8, h9, e]
    refine Qa hP (Qiu (x := y) (y := D) (by unfold nl; omega) (by omega)) rfl rfl rfl ?_
    simp +decide (disch := first | exact D4 h7 h8 h9 e | fail) only [go_sem, ↓reduceIte, h7, h8, h9, e]
    refine Qa hP (Qqy (x := r * 65536 + xi) (y := y * D) (by omega) (by omega) (by omega)) rfl rfl rfl ?_
    rw [hsub]
    simp +decide (disch := first | exact D4 h7 h8 h9 e | fail) only [go_sem, ↓reduceIte, h7, h8, h9, e]
    refine Qqo 7 n rfl ?_ (by omega) ⟨D :: qs, by omega, by simp; omega, ?_, ?_, ?_⟩
    ·simp +decide (disch := first | exact E0 | fail) only [go_sem, ↓reduceIte, Qn, List.contains_cons, List.contains_nil, List.flatMap_cons, List.flatMap_nil, List.append_nil]
    ·rw [Qau]; exact ⟨hlt, hqs⟩
    ·rw [val, hst.1]
    ·simp +decide (disch := first | exact E1 hst.2 | fail) only [go_sem, ↓reduceIte, Qn, List.contains_cons, List.contains_nil, List.flatMap_cons, List.flatMap_nil, List.append_nil, hst.2]
     simp [Nat.add_comm 1, List.take_of_length_le]
   ·obtain rfl : k = 0 := by omega
    rw [List.drop_zero, hxv] at hqv h8
    simp +decide (disch := first | exact D2 h7 h8 | fail) only [go_sem, ↓reduceIte, h7, h8]
    refine Qa hP (Qbr hqs (by omega)) rfl rfl rfl ?_
    simp +decide (disch := first | exact D2 h7 h8 | fail) only [go_sem, ↓reduceIte, h7, h8]
    exact Ql3 rfl rfl rfl rfl (Qgl (by rw [hqv])) (Qx _) (Qx _)
 ·have hsep := trivial
  simp +decide (disch := first | exact D0 | fail) only [go_sem, ↓reduceIte]
  refine Qof 7 1 T0 ?_
  refine Qof 8 1 T0 ?_
  refine Qu2 (by repeat (first | exact Q2 | exact Qp | exact Qq | exact Qr | exact Qt | apply Qo | apply Qz | apply Q6 | apply Qac | apply Qad | apply Ql | apply Q4)) [(7, 10), (41, 69)] [49, 51, 58, 60] (fun k J hp => ∃ qs, k <= (dig x).length /\ qs.length = (dig x).length - k /\ Qg qs /\ val qs = val ((dig x).drop k) / y /\ J 7 = .sl 1 (Qaz qs) /\ J 8 = PV.num (val ((dig x).drop k) % y) /\ J 9 = .int .i64 ((k : Int) - 1)) (dig x).length ?_ ?_
  ·refine ⟨[], Nat.le_refl _, by simp, Qco, by simp [val], ?_⟩
   simp +decide (disch := first | exact D0 | fail) only [go_sem, ↓reduceIte]
   simp [val, Qa1]
  rintro k J h ⟨qs, hk, hql, hqs, hqv, h7, h8, h9⟩
  simp +decide (disch := first | exact D3 h7 h8 h9 | fail) only [go_sem, ↓reduceIte, h7, h8, h9]
  have hr := Nat.mod_lt (val ((dig x).drop k)) hyp
  refine Qb (fun hg => ?_) (fun hg => ?_)
  ·obtain _ | n := k
   ·omega
   have hn : n < (dig x).length := by omega
   have han := Qaj hxl hn
   have e : ((n + 1 : Nat) : Int) - 1 = n := by omega
   have hst := Qqp (x := (dig x)[n]) hyp hqv
   rw [<- Qcl hn] at hst
   generalize hV : val ((dig x).drop (n + 1)) % y = r at *
   generalize hxx : (dig x)[n] = xi at *
   have hrl : (dig r).length <= (dig y).length := Qbx (Nat.le_of_lt hr)
   have hlim : Qg ([xi] ++ dig r) := by rw [Qbq]; exact ⟨by intro z hz; simp at hz; omega, Qi r⟩
   have hvl : val ([xi] ++ dig r) = r * 65536 + xi := by rw [Qb7, Qy]; simp [val]; omega
   have hlt : (r * 65536 + xi) / y < 65536 := by
    rw [Nat.div_lt_iff_lt_mul hyp]
    have : (r + 1) * 65536 <= y * 65536 := Nat.mul_le_mul_right _ hr
    omega
   have hnR : nl (r * 65536 + xi) <= (dig y).length + 1 := by
    have := Qal hlim
    rw [hvl, List.length_append] at this
    simp at this; omega
   have hdm := Nat.div_add_mod (r * 65536 + xi) y
   have hnm : nl (y * ((r * 65536 + xi) / y)) <= (dig y).length + 1 := Nat.le_trans (Qbx (by omega)) hnR
   have hn4 : nl ((r * 65536 + xi) / y) <= 4 := Qd3 (by omega)
   have hsub : r * 65536 + xi - y * ((r * 65536 + xi) / y) = (r * 65536 + xi) % y := by omega
   simp +decide (disch := first | exact D5 h7 h8 h9 e hxx | fail) only [go_sem, ↓reduceIte, h7, h8, h9, e, hxx]
   rw [Qoe (f := fun (x : Nat) => .int .u16 x) (xs := [xi]) (ys := dig r) (n := 1) Tr0 rfl (by omega) (by omega) (by omega)]
   simp +decide (disch := first | exact D5 h7 h8 h9 e hxx | fail) only [go_sem, ↓reduceIte, h7, h8, h9, e, hxx]
   refine Qcn hP (Qbr (l := [xi] ++ dig r) hlim (by simp; omega)) (by simp +decide (disch := first | exact E0 | fail) only [go_sem, ↓reduceIte, Qn, List.contains_cons, List.contains_nil, List.flatMap_cons, List.flatMap_nil, List.append_nil]; simp [Nat.add_comm 1, List.take_of_length_le]) rfl ?_
   rw [hvl]
   simp +decide (disch := first | exact D5 h7 h8 h9 e hxx | fail) only [go_sem, ↓reduceIte, h7, h8, h9, e, hxx]
   refine Qa hP (Qm2 (x := r * 65536 + xi) (y := y) (by omega) (by unfold nl; omega) hyp) rfl rfl rfl ?_
   rw [Nat.min_eq_right (by omega : (r * 65536 + xi) / y <= 65535)]
   generalize hD : (r * 65536 + xi) / y = D at *
   simp +decide (disch := first | omega | rfl | (simp +decide only [go_sem, ↓reduceIte, h7, h8, h9, e, hxx, Nat.mod_eq_of_lt hlt] <;> rfl) | fail) only [go_sem, ↓reduceIte, h7, h8, h9, e, hxx, Nat.mod_eq_of_lt hlt]
   rw [Qoe (f := fun (x : Nat) => .int .u16 x) (xs := [D]) (ys := qs) (n := 1) Tr0 rfl (by omega) (by omega) (by omega)]
   simp +decide (disch := first | exact D5 h7 h8 h9 e hxx | fail) only [go_sem, ↓reduceIte, h7, h8, h9, e, hxx]
   refine Qa hP (Qc3 (n := D) (by omega)) rfl rfl rfl ?_
   simp +decide (disch := first | exact D4 h7 h8 h9 e | fail) only [go_sem, ↓reduceIte, h7, h8, h9, e]
   refine Qa hP (Qiu (x := y) (y := D) (by unfold nl; omega) (by omega)) rfl rfl rfl ?_
   simp +decide (disch := first | exact D4 h7 h8 h9 e | fail) only [go_sem, ↓reduceIte, h7, h8, h9, e]
   refine Qa hP (Qqy (x := r * 65536 + xi) (y := y * D) (by omega) (by omega) (by omega)) rfl rfl rfl ?_
   rw [hsub]
   simp +decide (disch := first | exact D4 h7 h8 h9 e | fail) only [go_sem, ↓reduceIte, h7, h8, h9, e]
   refine Qqo 7 n rfl ?_ (by omega) ⟨D :: qs, by omega, by simp; omega, ?_, ?_, ?_⟩
   ·simp +decide (disch := first | exact E0 | fail) only [go_sem, ↓reduceIte, Qn, List.contains_cons, List.contains_nil, List.flatMap_cons, List.flatMap_nil, List.append_nil]
   ·rw [Qau]; exact ⟨hlt, hqs⟩
   ·rw [val, hst.1]
   ·simp +decide (disch := first | exact E1 hst.2 | fail) only [go_sem, ↓reduceIte, Qn, List.contains_cons, List.contains_nil, List.flatMap_cons, List.flatMap_nil, List.append_nil, hst.2]
    simp [Nat.add_comm 1, List.take_of_length_le]
  ·obtain rfl : k = 0 := by omega
   rw [List.drop_zero, hxv] at hqv h8
   simp +decide (disch := first | exact D2 h7 h8 | fail) only [go_sem, ↓reduceIte, h7, h8]
   refine Qa hP (Qbr hqs (by omega)) rfl rfl rfl ?_
   simp +decide (disch := first | exact D2 h7 h8 | fail) only [go_sem, ↓reduceIte, h7, h8]
   exact Ql3 rfl rfl rfl rfl (Qgl (by rw [hqv])) (Qx _) (Qx _)
end Go.Proofs.YtmnkngmmfnncoaaGreat
namespace Go.Proofs.YtmnkngmmfnncoaaGreat
open Go Go.FW
set_option linter.unusedSimpArgs false
set_option linter.unusedVariables false
set_option maxRecDepth 100000
theorem Qtg {x y : Nat} (hx : nl x < 2 ^ 36) (hy : nl y < 2 ^ 36) (h0 : y ≠ 0) : Qd Tryz.prog 168 [PV.num x, PV.num y] (· = .tup [PV.num (x / y), PV.num (x % y), .int .i64 0]) := by
 have := Qlo (Qi x) (Qi y) hx hy
 rwa [Qy, Qy, if_neg h0] at this
theorem Qo5 {a b : List Nat} (ha : Qg a) (hb : Qg b) (hla : a.length < 2 ^ 36) (hlb : b.length < 2 ^ 36) : Qd Tryz.prog 120 [PV.nat a, PV.nat b] (· = PV.num (Nat.gcd (val a) (val b))) := by
 have hda := Qal ha
 have hdb := Qal hb
 refine Qh Qm Tryz.func120 rfl Qabe (by simp [Q62]) fun C hP => ?_; simp only [Q62, Zo, Zg, Zm, Zc, Zf, Zl, Zh, Zs, Zi, Zb, Zk, Zn, Zu, Zq, Zr, Zz]
 simp +decide (disch := first | exact D0 | fail) only [go_sem, ↓reduceIte]
 refine Qa hP (Qbr ha (by omega)) rfl rfl rfl ?_
 simp +decide (disch := first | exact D0 | fail) only [go_sem, ↓reduceIte]
 refine Qa hP (Qbr hb (by omega)) rfl rfl rfl ?_
 simp +decide (disch := first | exact D0 | fail) only [go_sem, ↓reduceIte]
 refine Qam (by repeat (first | exact Q2 | exact Qp | exact Qq | exact Qr | exact Qt | apply Qo | apply Qz | apply Q6 | apply Qac | apply Qad | apply Ql | apply Q4)) [(0, 1), (5, 7), (12, 23)] [] (fun m J hp => ∃ x y, m = y /\ Nat.gcd x y = Nat.gcd (val a) (val b) /\ nl x < 2 ^ 36 /\ nl y < 2 ^ 36 /\ J 0 = PV.num x /\ J 1 = PV.num y /\ hp = hp0) (val b) ?_ ?_
 ·refine ⟨val a, val b, rfl, rfl, by omega, by omega, ?_⟩
  simp +decide (disch := first | exact D0 | fail) only [go_sem, ↓reduceIte]
 rintro y J _ ⟨x, _, rfl, hg, hx, hy, h0, h1, rfl⟩
 generalize Nat.gcd (val a) (val b) = g at *
 simp +decide (disch := first | exact D2 h0 h1 | fail) only [go_sem, ↓reduceIte, h0, h1]
 refine Qb (fun hc => ?_) (fun hc => ?_)
 ·have hy0 : y ≠ 0 := fun h => by rw [h, Qa1] at hc; simp at hc
  have hmod := Qbx (Nat.le_of_lt (Nat.mod_lt x (Nat.pos_of_ne_zero hy0)))
  simp +decide (disch := first | exact D2 h0 h1 | fail) only [go_sem, ↓reduceIte, h0, h1]
  refine Qa hP (Qtg (x := x) (y := y) hx hy hy0) rfl rfl rfl ?_
  simp +decide (disch := first | exact D2 h0 h1 | fail) only [go_sem, ↓reduceIte, h0, h1]
  refine Qae (x % y) (Nat.mod_lt _ (Nat.pos_of_ne_zero hy0)) ⟨y, x % y, rfl, ?_, hy, by omega, ?_⟩
  ·rw [<- hg, Nat.gcd_comm x y, Nat.gcd_rec y x, Nat.gcd_comm]
  ·simp +decide (disch := first | exact D0 | fail) only [go_sem, ↓reduceIte]
 ·have hy0 : y = 0 := Qbk.1 (Qcy (by omega))
  subst hy0
  simp +decide (disch := first | exact D1 h0 | fail) only [go_sem, ↓reduceIte, h0]
  exact Qc (by rw [<- hg, Nat.gcd_zero_right]) rfl
end Go.Proofs.YtmnkngmmfnncoaaGreat
namespace Go.Proofs.YtmnkngmmfnncoaaGreat
open Go Go.FW
set_option linter.unusedSimpArgs false
set_option linter.unusedVariables false
set_option maxRecDepth 100000
theorem Qeg {n : Bool} {a : List Nat} (ha : Qg a) (hla : a.length < 2 ^ 42) : Qd Tryz.prog 170 [.bool n, PV.nat a] (· = PV.zz (zv n a)) := by
 refine Qh Qm Tryz.func170 rfl Qabh (by simp [Q65]) fun C hP => ?_; simp only [Q65, Zo, Zg, Zm, Zc, Zf, Zl, Zh, Zs, Zi, Zb, Zk, Zn, Zu, Zq, Zr, Zz]
 simp +decide (disch := first | exact D0 | fail) only [go_sem, ↓reduceIte]
 refine Qa hP (Qbr ha hla) rfl rfl rfl ?_
 simp +decide (disch := first | exact D0 | fail) only [go_sem, ↓reduceIte]
 refine Qf0 (fun hn => ?_) (fun hn => ?_)
 all_goals
  simp +decide (disch := first | exact D0 | fail) only [go_sem, ↓reduceIte]
  refine Qa0 ?_
  simp +decide (disch := first | exact D0 | fail) only [go_sem, ↓reduceIte]
  exact Qc (by have := Qrq n (val a); rw [hn] at this; subst hn; simpa [zv] using this) rfl
theorem Qha {n : Bool} {a : List Nat} (ha : Qg a) (hla : a.length < 2 ^ 42) : Qd Tryz.prog 169 [PV.zi n a] (· = PV.zz (zv n a)) := by
 refine Qh Qm Tryz.func169 rfl Qabi (by simp [Q66]) fun C hP => ?_; simp only [Q66, Zo, Zg, Zm, Zc, Zf, Zl, Zh, Zs, Zi, Zb, Zk, Zn, Zu, Zq, Zr, Zz]
 simp +decide (disch := first | exact D0 | fail) only [go_sem, ↓reduceIte]
 refine Qa hP (Qeg ha hla) rfl rfl rfl ?_
 simp +decide (disch := first | exact D0 | fail) only [go_sem, ↓reduceIte]
 refine Qa0 ?_
 simp +decide (disch := first | exact D0 | fail) only [go_sem, ↓reduceIte]
 exact Qc rfl rfl
theorem Qo6 {n m : Bool} {a b : List Nat} (ha : Qg a) (hb : Qg b) (hla : a.length < 2 ^ 40) (hlb : b.length < 2 ^ 40) : Qd Tryz.prog 159 [PV.zi n a, PV.zi m b] (· = PV.zz (zv n a * zv m b)) := by
 have hr : nl (val a * val b) < 2 ^ 42 := by have := Qfr (val a) (val b); have := Qal ha; have := Qal hb; omega
 refine Qh Qm Tryz.func159 rfl Qabo (by simp [Q7c]) fun C hP => ?_; simp only [Q7c, Zo, Zg, Zm, Zc, Zf, Zl, Zh, Zs, Zi, Zb, Zk, Zn, Zu, Zq, Zr, Zz]
 simp +decide (disch := first | exact D0 | fail) only [go_sem, ↓reduceIte]
 refine Qa hP (Qkw ha hb hla hlb) rfl rfl rfl ?_
 simp +decide (disch := first | exact D0 | fail) only [go_sem, ↓reduceIte]
 refine Qa hP (Qeg (n := !(n == m)) (Qi (val a * val b)) hr) rfl rfl rfl ?_
 simp +decide (disch := first | exact D0 | fail) only [go_sem, ↓reduceIte]
 refine Qa0 ?_
 simp +decide (disch := first | exact D0 | fail) only [go_sem, ↓reduceIte]
 exact Qc (congrArg PV.zz (by rw [Qg7]; unfold zv; cases n <;> cases m <;> simp [Int.neg_mul, Int.mul_neg])) rfl
theorem Qmn {x : Int} (h1 : -9223372036854775808 <= x) (h2 : x <= 9223372036854775807) : Qd Tryz.prog 105 [.int .i64 x] (· = PV.zz x) := by
 refine Qh Qm Tryz.func105 rfl Qabj (by simp [Q67]) fun C hP => ?_; simp only [Q67, Zo, Zg, Zm, Zc, Zf, Zl, Zh, Zs, Zi, Zb, Zk, Zn, Zu, Zq, Zr, Zz]
 simp +decide (disch := first | exact D0 | fail) only [go_sem, ↓reduceIte]
 refine Qb (fun hc => ?_) (fun hc => ?_)
 ·obtain ⟨y, hy⟩ : ∃ y : Nat, x = -((y : Int) + 1) := ⟨(-(x + 1)).toNat, by omega⟩
  have e1 : IntKind.i64.wrap (x + 1) = -(y : Int) := by rw [Qgj (by omega) (by omega)]; omega
  have e2 : IntKind.i64.wrap (0 - -(y : Int)) = (y : Int) := by rw [Qgj (by omega) (by omega)]; omega
  have e3 : IntKind.u64.wrap (y : Int) = (y : Int) := Qe3 (by omega) (by omega)
  have hl1 : nl y <= 4 := Qd3 (by omega)
  have hl2 : nl (y + 1) <= 4 := Qd3 (by omega)
  simp +decide (disch := first | exact D3 e1 e2 e3 | fail) only [go_sem, ↓reduceIte, e1, e2, e3]
  refine Qa hP (Qc3 (n := y) (by omega)) rfl rfl rfl ?_
  simp +decide (disch := first | exact D0 | fail) only [go_sem, ↓reduceIte]
  refine Qa hP (Qc3 (n := 1) (by omega)) rfl rfl rfl ?_
  simp +decide (disch := first | exact D0 | fail) only [go_sem, ↓reduceIte]
  refine Qa hP (Qo4 (Qi y) (Qi 1) (show nl y < _ by omega) (show nl 1 < _ by rw [Qlg]; omega)) rfl rfl rfl ?_
  simp +decide (disch := first | exact D0 | fail) only [go_sem, ↓reduceIte]
  refine Qa hP (Qeg (n := true) (Qi (val (dig y) + val (dig 1))) (show nl _ < _ by rw [Qy, Qy]; omega)) rfl rfl rfl ?_
  simp +decide (disch := first | exact D0 | fail) only [go_sem, ↓reduceIte]
  refine Qa0 ?_
  simp +decide (disch := first | exact D0 | fail) only [go_sem, ↓reduceIte]
  exact Qc (congrArg PV.zz (by rw [Qg7, Qy, Qy]; simp; omega)) rfl
 ·obtain ⟨y, rfl⟩ : ∃ y : Nat, x = y := ⟨x.toNat, by omega⟩
  have hl1 : nl y <= 4 := Qd3 (by omega)
  simp +decide (disch := first | exact D0 | fail) only [go_sem, ↓reduceIte]
  refine Qa hP (Qc3 (by omega)) rfl rfl rfl ?_
  simp +decide (disch := first | exact D0 | fail) only [go_sem, ↓reduceIte]
  refine Qa hP (Qeg (n := false) (Qi y) (show nl _ < _ by omega)) rfl rfl rfl ?_
  simp +decide (disch := first | exact D0 | fail) only [go_sem, ↓reduceIte]
  refine Qa0 ?_
  simp +decide (disch := first | exact D0 | fail) only [go_sem, ↓reduceIte]
  exact Qc (congrArg PV.zz (by rw [Qg7]; simp)) rfl
theorem Qvm {n : Bool} {a : List Nat} (ha : Qg a) (hla : a.length < 2 ^ 42) : Qd Tryz.prog 156 [PV.zi n a] (· = .int .i64 (sgn (zv n a))) := by
 refine Qh Qm Tryz.func156 rfl Qabk (by simp [Q68]) fun C hP => ?_; simp only [Q68, Zo, Zg, Zm, Zc, Zf, Zl, Zh, Zs, Zi, Zb, Zk, Zn, Zu, Zq, Zr, Zz]
 simp +decide (disch := first | exact D0 | fail) only [go_sem, ↓reduceIte]
 refine Qa hP (Qha ha hla) rfl rfl rfl ?_
 generalize zv n a = z
 simp +decide (disch := first | exact D0 | fail) only [go_sem, ↓reduceIte]
 refine Qb (fun hz => ?_) (fun hz => ?_)
 ·have : z = 0 := by have := Qbk.1 (Qcy (n := z.natAbs) (by omega)); omega
  subst this
  simp +decide (disch := first | exact D0 | fail) only [go_sem, ↓reduceIte]
  exact Qc rfl rfl
 ·have h0 : z ≠ 0 := fun h => by subst h; exact hz (by simp [Qa1])
  simp +decide (disch := first | exact D0 | fail) only [go_sem, ↓reduceIte]
  refine Qh6 (fun hn => ?_) (fun hn => ?_)
  ·have hn : z < 0 := by simpa using hn
   simp +decide (disch := first | exact D0 | fail) only [go_sem, ↓reduceIte]
   exact Qc (by rw [sgn, if_pos hn]) rfl
  ·have hn : ¬ z < 0 := by simpa using hn
   simp +decide (disch := first | exact D0 | fail) only [go_sem, ↓reduceIte]
   exact Qc (by rw [sgn, if_neg hn, if_pos (by omega)]) rfl
theorem Qth {n : Bool} {a : List Nat} (ha : Qg a) (hla : a.length < 2 ^ 42) : Qd Tryz.prog 118 [PV.zi n a] (· = .bool (Qf4 n a)) := by
 refine Qh Qm Tryz.func118 rfl Qabg (by simp [Q64]) fun C hP => ?_; simp only [Q64, Zo, Zg, Zm, Zc, Zf, Zl, Zh, Zs, Zi, Zb, Zk, Zn, Zu, Zq, Zr, Zz]
 simp +decide (disch := first | exact D0 | fail) only [go_sem, ↓reduceIte]
 refine Qa hP (Qm1 ha (by omega)) rfl rfl rfl ?_
 simp +decide (disch := first | exact D0 | fail) only [go_sem, ↓reduceIte]
 refine Qf0 (fun hv => ?_) (fun hv => ?_)
 ·simp +decide (disch := first | exact D0 | fail) only [go_sem, ↓reduceIte]
  refine Qf0 (fun hn => ?_) (fun hn => ?_)
  ·simp +decide (disch := first | exact D0 | fail) only [go_sem, ↓reduceIte]
   exact Qc (congrArg PV.bool (by unfold Qf4; subst hn; cases a <;> simp_all <;> omega)) rfl
  ·simp +decide (disch := first | exact D0 | fail) only [go_sem, ↓reduceIte]
   exact Qc (congrArg PV.bool (by unfold Qf4; subst hn; cases a <;> simp_all)) rfl
 ·simp +decide (disch := first | exact D0 | fail) only [go_sem, ↓reduceIte]
  exact Qc (congrArg PV.bool (by unfold Qf4; cases a <;> simp_all)) rfl
theorem Qws {n m : Bool} {a b : List Nat} (ha : Qg a) (hb : Qg b) (hla : a.length < 2 ^ 41) (hlb : b.length < 2 ^ 41) : Qd Tryz.prog 201 [PV.zi n a, PV.zi m b] (· = .int .i64 (Qe5 (zv n a) (zv m b))) := by
 have hx : nl (zv n a).natAbs < 2 ^ 41 := by rw [Qbb]; have := Qal ha; omega
 have hy : nl (zv m b).natAbs < 2 ^ 41 := by rw [Qbb]; have := Qal hb; omega
 refine Qh Qm Tryz.func201 rfl Qabl (by simp [Q69]) fun C hP => ?_; simp only [Q69, Zo, Zg, Zm, Zc, Zf, Zl, Zh, Zs, Zi, Zb, Zk, Zn, Zu, Zq, Zr, Zz]
 simp +decide (disch := first | exact D0 | fail) only [go_sem, ↓reduceIte]
 refine Qa hP (Qha ha (by omega)) rfl rfl rfl ?_
 simp +decide (disch := first | exact D0 | fail) only [go_sem, ↓reduceIte]
 refine Qa hP (Qha hb (by omega)) rfl rfl rfl ?_
 generalize zv n a = x at *
 generalize zv m b = y at *
 have lx : (dig x.natAbs).length < 2 ^ 41 := hx
 have ly : (dig y.natAbs).length < 2 ^ 41 := hy
 by_cases hx0 : x < 0 <;> by_cases hy0 : y < 0
 ·simp +decide (disch := first | exact D2 hx0 hy0 | fail) only [go_sem, ↓reduceIte, hx0, hy0]
  refine Qa hP (Qhz (Qi y.natAbs) (Qi x.natAbs) (by omega) (by omega)) rfl rfl rfl ?_
  simp +decide (disch := first | exact D0 | fail) only [go_sem, ↓reduceIte]
  exact Qc (congrArg (PV.int .i64) (by rw [Qy, Qy]; unfold Qdr Qe5; split <;> split <;> (try split) <;> (try split) <;> omega)) rfl
 ·simp +decide (disch := first | exact D2 hx0 hy0 | fail) only [go_sem, ↓reduceIte, hx0, hy0]
  exact Qc (congrArg (PV.int .i64) (by unfold Qe5; rw [if_pos (by omega)])) rfl
 ·simp +decide (disch := first | exact D2 hx0 hy0 | fail) only [go_sem, ↓reduceIte, hx0, hy0]
  exact Qc (congrArg (PV.int .i64) (by unfold Qe5; rw [if_neg (by omega), if_pos (by omega)])) rfl
 ·simp +decide (disch := first | exact D2 hx0 hy0 | fail) only [go_sem, ↓reduceIte, hx0, hy0]
  refine Qa hP (Qhz (Qi x.natAbs) (Qi y.natAbs) (by omega) (by omega)) rfl rfl rfl ?_
  simp +decide (disch := first | exact D0 | fail) only [go_sem, ↓reduceIte]
  exact Qc (congrArg (PV.int .i64) (by rw [Qy, Qy]; unfold Qdr Qe5; split <;> split <;> (try split) <;> (try split) <;> omega)) rfl
theorem Qwt {n m : Bool} {a b : List Nat} (ha : Qg a) (hb : Qg b) (hla : a.length < 2 ^ 40) (hlb : b.length < 2 ^ 40) : Qd Tryz.prog 166 [PV.zi n a, PV.zi m b] (· = PV.zz (zv n a + zv m b)) := by
 have hda := Qal ha
 have hdb := Qal hb
 refine Qh Qm Tryz.func166 rfl Qabn (by simp [Q7b]) fun C hP => ?_; simp only [Q7b, Zo, Zg, Zm, Zc, Zf, Zl, Zh, Zs, Zi, Zb, Zk, Zn, Zu, Zq, Zr, Zz]
 simp +decide (disch := first | exact D0 | fail) only [go_sem, ↓reduceIte]
 refine Qh6 (fun hnm => ?_) (fun hnm => ?_)
 ·have hnm : n = m := by simpa using hnm
  subst hnm
  have hr := Q0z (val a) (val b)
  simp +decide (disch := first | exact D0 | fail) only [go_sem, ↓reduceIte]
  refine Qa hP (Qo4 ha hb hla hlb) rfl rfl rfl ?_
  simp +decide (disch := first | exact D0 | fail) only [go_sem, ↓reduceIte]
  refine Qa hP (Qeg (n := n) (Qi (val a + val b)) (show nl _ < _ by omega)) rfl rfl rfl ?_
  simp +decide (disch := first | exact D0 | fail) only [go_sem, ↓reduceIte]
  refine Qa0 ?_
  simp +decide (disch := first | exact D0 | fail) only [go_sem, ↓reduceIte]
  exact Qc (congrArg PV.zz (by rw [Qg7]; unfold zv; split <;> simp <;> omega)) rfl
 have hnm : n = !m := by cases n <;> cases m <;> simp_all
 subst hnm
 simp +decide (disch := first | exact D0 | fail) only [go_sem, ↓reduceIte]
 refine Qa hP (Qkv ha hb hla hlb) rfl rfl rfl ?_
 by_cases hc : val a < val b
 ·rw [if_pos hc]
  have hr := Qbx (Nat.sub_le (val b) (val a))
  simp +decide (disch := first | exact D0 | fail) only [go_sem, ↓reduceIte]
  refine Qa hP (Qkv hb ha hlb hla) rfl rfl rfl ?_
  rw [if_neg (by omega)]
  simp +decide (disch := first | exact D0 | fail) only [go_sem, ↓reduceIte]
  refine Qa hP (Qeg (n := m) (Qi (val b - val a)) (show nl _ < _ by omega)) rfl rfl rfl ?_
  simp +decide (disch := first | exact D0 | fail) only [go_sem, ↓reduceIte]
  refine Qa0 ?_
  simp +decide (disch := first | exact D0 | fail) only [go_sem, ↓reduceIte]
  exact Qc (congrArg PV.zz (by rw [Qg7]; unfold zv; cases m <;> simp <;> omega)) rfl
 ·rw [if_neg hc]
  have hr := Qbx (Nat.sub_le (val a) (val b))
  simp +decide (disch := first | exact D0 | fail) only [go_sem, ↓reduceIte]
  refine Qa hP (Qeg (n := !m) (Qi (val a - val b)) (show nl _ < _ by omega)) rfl rfl rfl ?_
  simp +decide (disch := first | exact D0 | fail) only [go_sem, ↓reduceIte]
  refine Qa0 ?_
  simp +decide (disch := first | exact D0 | fail) only [go_sem, ↓reduceIte]
  exact Qc (congrArg PV.zz (by rw [Qg7]; unfold zv; cases m <;> simp <;> omega)) rfl
end Go.Proofs.YtmnkngmmfnncoaaGreat
namespace Go.Proofs.YtmnkngmmfnncoaaGreat
open Go Go.FW
set_option linter.unusedSimpArgs false
set_option linter.unusedVariables false
set_option maxRecDepth 100000
theorem Qnq {a : List Nat} {g : Nat} (ha : Qg a) (hx : a.length < 2 ^ 36) (hy : nl g < 2 ^ 36) (h0 : g ≠ 0) : Qd Tryz.prog 168 [PV.nat a, PV.num g] (· = .tup [PV.num (val a / g), PV.num (val a % g), .int .i64 0]) := by
 have := Qlo ha (Qi g) hx hy
 rwa [Qy, if_neg h0] at this
theorem Qaeh (n : Bool) (a : List Nat) (D : Nat) : zv n (dig (val a / Nat.gcd (val a) D)) = zv n a / (Nat.gcd (zv n a).natAbs D : Int) := by
 rw [Qbb, Qg7]
 unfold zv
 cases n
 ·simp
 ·have hd : ((Nat.gcd (val a) D : Nat) : Int) ∣ (val a : Int) := Int.natCast_dvd_natCast.2 (Nat.gcd_dvd_left _ _)
  simp only [if_true]
  rw [Int.neg_ediv_of_dvd hd, Int.natCast_ediv]
theorem Qnr {n : Bool} {a d : List Nat} (ha : Qg a) (hd : Qg d) (hla : a.length < 2 ^ 36) (hld : d.length < 2 ^ 36) : Qd Tryz.prog 104 [PV.zi n a, PV.nat d] (· = PV.rat (rv n a d)) := by
 have hna := Qal ha
 have hnd := Qal hd
 refine Qh Qm Tryz.func104 rfl Qabp (by simp [Q7d]) fun C hP => ?_; simp only [Q7d, Zo, Zg, Zm, Zc, Zf, Zl, Zh, Zs, Zi, Zb, Zk, Zn, Zu, Zq, Zr, Zz]
 simp +decide (disch := first | exact D0 | fail) only [go_sem, ↓reduceIte]
 refine Qa hP (Qbr hd (by omega)) rfl rfl rfl ?_
 simp +decide (disch := first | exact D0 | fail) only [go_sem, ↓reduceIte]
 refine Qb (fun hz => ?_) (fun hz => ?_)
 ·have h0 : val d = 0 := Qbk.1 (Qcy (n := val d) (by omega))
  simp +decide (disch := first | exact D0 | fail) only [go_sem, ↓reduceIte]
  refine Qa hP (Qc3 (n := 1) (by omega)) rfl rfl rfl ?_
  simp +decide (disch := first | exact D0 | fail) only [go_sem, ↓reduceIte]
  refine Qa0 ?_
  simp +decide (disch := first | exact D0 | fail) only [go_sem, ↓reduceIte]
  exact (by unfold rv; rw [Qov (.inl h0), Qf2]; exact Qhk Qxj rfl)
 ·have h0 : val d ≠ 0 := fun h => by rw [h, Qa1] at hz; exact hz rfl
  have hg0 : Nat.gcd (val a) (val d) ≠ 0 := fun h => h0 (Nat.gcd_eq_zero_iff.1 h).2
  have hg := Qbx (Nat.gcd_le_right (val a) (Nat.pos_of_ne_zero h0))
  have hq := Q1r (val a) (Nat.gcd (val a) (val d))
  simp +decide (disch := first | exact D0 | fail) only [go_sem, ↓reduceIte]
  refine Qa hP (Qo5 ha hd hla hld) rfl rfl rfl ?_
  simp +decide (disch := first | exact D0 | fail) only [go_sem, ↓reduceIte]
  refine Qa hP (Qnq ha hla (by omega) hg0) rfl rfl rfl ?_
  simp +decide (disch := first | exact D0 | fail) only [go_sem, ↓reduceIte]
  refine Qa hP (Qnq hd hld (by omega) hg0) rfl rfl rfl ?_
  simp +decide (disch := first | exact D0 | fail) only [go_sem, ↓reduceIte]
  refine Qa hP (Qha (n := n) (Qi (val a / Nat.gcd (val a) (val d))) (show nl _ < _ by omega)) rfl rfl rfl ?_
  rw [Qaeh]
  have hm := Qib (z := zv n a) h0
  simp +decide (disch := first | exact D0 | fail) only [go_sem, ↓reduceIte]
  refine Qa0 ?_
  simp +decide (disch := first | exact D0 | fail) only [go_sem, ↓reduceIte]
  exact Qc (by unfold rv; rw [PV.rat, hm.1, hm.2, Qbb]) rfl
theorem Qhb {n : Bool} {a d : List Nat} {k : Nat} (hp : Raw k n a d) (hk : k < 2 ^ 36) : Qd Tryz.prog 157 [PV.rr n a d] (· = PV.rat (rv n a d)) := by
 obtain ⟨ha, hd, sa, sd, k1⟩ := hp
 refine Qh Qm Tryz.func157 rfl Qabq (by simp [Q7e]) fun C hP => ?_; simp only [Q7e, Zo, Zg, Zm, Zc, Zf, Zl, Zh, Zs, Zi, Zb, Zk, Zn, Zu, Zq, Zr, Zz]
 simp +decide (disch := first | exact D0 | fail) only [go_sem, ↓reduceIte]
 refine Qa hP (Qnr (n := n) ha hd (by omega) (by omega)) rfl rfl rfl ?_
 simp +decide (disch := first | exact D0 | fail) only [go_sem, ↓reduceIte]
 refine Qa0 ?_
 simp +decide (disch := first | exact D0 | fail) only [go_sem, ↓reduceIte]
 exact Qc rfl rfl
theorem Qhc {z : Int} {D : Nat} (hz : nl z.natAbs < 2 ^ 36) (hD : nl D < 2 ^ 36) : Qd Tryz.prog 104 [PV.zz z, PV.num D] (· = PV.rat (mkRat z D)) := by
 have := Qnr (n := decide (z < 0)) (Qi z.natAbs) (Qi D) hz hD
 rwa [rv, Qe4, Qy] at this
theorem Qmo {x : Int} (h1 : -9223372036854775808 <= x) (h2 : x <= 9223372036854775807) : Qd Tryz.prog 34 [.int .i64 x] (· = PV.rat (x : Rat)) := by
 have hl1 : nl x.natAbs <= 4 := Qd3 (by omega)
 refine Qh Qm Tryz.func34 rfl Qaee (by simp [c34]) fun C hP => ?_; simp only [c34, Zo, Zg, Zm, Zc, Zf, Zl, Zh, Zs, Zi, Zb, Zk, Zn, Zu, Zq, Zr, Zz]
 simp +decide (disch := first | exact D0 | fail) only [go_sem, ↓reduceIte]
 refine Qa hP (Qmn h1 h2) rfl rfl rfl ?_
 simp +decide (disch := first | exact D0 | fail) only [go_sem, ↓reduceIte]
 refine Qa hP (Qc3 (n := 1) (by omega)) rfl rfl rfl ?_
 simp +decide (disch := first | exact D0 | fail) only [go_sem, ↓reduceIte]
 refine Qa hP (Qhc (z := x) (D := 1) (by omega) (by rw [Qlg]; omega)) rfl rfl rfl ?_
 simp +decide (disch := first | exact D0 | fail) only [go_sem, ↓reduceIte]
 refine Qa0 ?_
 simp +decide (disch := first | exact D0 | fail) only [go_sem, ↓reduceIte]
 exact Qc (congrArg PV.rat (Rat.mkRat_one x)) rfl
theorem Qgf (d : List Nat) : Qd Tryz.prog 161 [PV.nat d] (· = PV.zi false d) := by
 refine Qh Qm Tryz.func161 rfl Qabs (by simp [Q7g]) fun C hP => ?_; simp only [Q7g, Zo, Zg, Zm, Zc, Zf, Zl, Zh, Zs, Zi, Zb, Zk, Zn, Zu, Zq, Zr, Zz]
 simp +decide (disch := first | exact D0 | fail) only [go_sem, ↓reduceIte]
 refine Qa0 ?_
 simp +decide (disch := first | exact D0 | fail) only [go_sem, ↓reduceIte]
 exact Qc rfl rfl
theorem Qzg {x : Int} (hx : nl x.natAbs < 2 ^ 42) : Qd Tryz.prog 156 [PV.zz x] (· = .int .i64 (sgn x)) := by
 have := Qvm (n := decide (x < 0)) (Qi x.natAbs) hx
 rwa [Qe4] at this
end Go.Proofs.YtmnkngmmfnncoaaGreat
namespace Go.Proofs.YtmnkngmmfnncoaaGreat
open Go Go.FW
set_option linter.unusedSimpArgs false
set_option linter.unusedVariables false
set_option maxRecDepth 100000
theorem Qkd {x : Int} {d : Nat} (hx : nl x.natAbs < 2 ^ 40) (hy : nl d < 2 ^ 40) : Qd Tryz.prog 159 [PV.zz x, PV.zi false (dig d)] (· = PV.zz (x * (d : Int))) := by
 have := Qo6 (n := decide (x < 0)) (m := false) (Qi x.natAbs) (Qi d) hx hy
 rwa [Qe4, Qfu, Qy] at this
theorem Q2o {x y : Int} (hx : nl x.natAbs < 2 ^ 40) (hy : nl y.natAbs < 2 ^ 40) : Qd Tryz.prog 166 [PV.zz x, PV.zz y] (· = PV.zz (x + y)) := by
 have := Qwt (n := decide (x < 0)) (m := decide (y < 0)) (Qi x.natAbs) (Qi y.natAbs) hx hy
 rwa [Qe4, Qe4] at this
theorem Q2p {x y : Int} (hx : nl x.natAbs < 2 ^ 41) (hy : nl y.natAbs < 2 ^ 41) : Qd Tryz.prog 201 [PV.zz x, PV.zz y] (· = .int .i64 (Qe5 x y)) := by
 have := Qws (n := decide (x < 0)) (m := decide (y < 0)) (Qi x.natAbs) (Qi y.natAbs) hx hy
 rwa [Qe4, Qe4] at this
theorem Qwu {n m : Bool} {a d b c : List Nat} {k : Nat} (hp : Raw k n a d) (hq : Raw k m b c) (hk : k < 2 ^ 34) : Qd Tryz.prog 83 [PV.rr n a d, PV.rr m b c] (· = PV.rat (rv n a d * rv m b c)) := by
 obtain ⟨ha, hd, sa, sd, k1⟩ := hp
 obtain ⟨hb, hc, sb, sc, k2⟩ := hq
 have h1 := Qay (zv n a) (zv m b)
 have h2 := Qfr (val d) (val c)
 rw [Qbb, Qbb] at h1
 have e1 := Qal ha
 have e2 := Qal hd
 have e3 := Qal hb
 have e4 := Qal hc
 refine Qh Qm Tryz.func83 rfl Qaeg (by simp [c83]) fun C hP => ?_; simp only [c83, Zo, Zg, Zm, Zc, Zf, Zl, Zh, Zs, Zi, Zb, Zk, Zn, Zu, Zq, Zr, Zz]
 simp +decide (disch := first | exact D0 | fail) only [go_sem, ↓reduceIte]
 refine Qa hP (Qo6 (n := n) (m := m) ha hb (by omega) (by omega)) rfl rfl rfl ?_
 simp +decide (disch := first | exact D0 | fail) only [go_sem, ↓reduceIte]
 refine Qa hP (Qkw hd hc (by omega) (by omega)) rfl rfl rfl ?_
 simp +decide (disch := first | exact D0 | fail) only [go_sem, ↓reduceIte]
 refine Qa hP (Qhc (z := zv n a * zv m b) (D := val d * val c) (by omega) (by omega)) rfl rfl rfl ?_
 simp +decide (disch := first | exact D0 | fail) only [go_sem, ↓reduceIte]
 refine Qa0 ?_
 simp +decide (disch := first | exact D0 | fail) only [go_sem, ↓reduceIte]
 exact Qc (congrArg PV.rat (Rat.mkRat_mul_mkRat _ _ _ _).symm) rfl
theorem Qwv {n m : Bool} {a d b c : List Nat} {k : Nat} (hp : Raw k n a d) (hq : Raw k m b c) (hk : k < 2 ^ 34) : Qd Tryz.prog 148 [PV.rr n a d, PV.rr m b c] (· = .int .i64 (Qkp (rv n a d) (rv m b c))) := by
 have hx := hp.rs
 have hy := hq.rs
 unfold FW.rs at hx hy
 refine Qh Qm Tryz.func148 rfl Qabt (by simp [Q7h]) fun C hP => ?_; simp only [Q7h, Zo, Zg, Zm, Zc, Zf, Zl, Zh, Zs, Zi, Zb, Zk, Zn, Zu, Zq, Zr, Zz]
 simp +decide (disch := first | exact D0 | fail) only [go_sem, ↓reduceIte]
 refine Qa hP (Qhb hp (by omega)) rfl rfl rfl ?_
 simp +decide (disch := first | exact D0 | fail) only [go_sem, ↓reduceIte]
 refine Qa hP (Qhb hq (by omega)) rfl rfl rfl ?_
 generalize rv n a d = p at *
 generalize rv m b c = q at *
 have h1 := Qay p.num (q.den : Int)
 have h2 := Qay q.num (p.den : Int)
 rw [Int.natAbs_natCast] at h1 h2
 simp +decide (disch := first | exact D0 | fail) only [go_sem, ↓reduceIte]
 refine Qa hP (Qgf (dig q.den)) rfl rfl rfl ?_
 simp +decide (disch := first | exact D0 | fail) only [go_sem, ↓reduceIte]
 refine Qa hP (Qkd (x := p.num) (d := q.den) (by omega) (by omega)) rfl rfl rfl ?_
 simp +decide (disch := first | exact D0 | fail) only [go_sem, ↓reduceIte]
 refine Qa hP (Qgf (dig p.den)) rfl rfl rfl ?_
 simp +decide (disch := first | exact D0 | fail) only [go_sem, ↓reduceIte]
 refine Qa hP (Qkd (x := q.num) (d := p.den) (by omega) (by omega)) rfl rfl rfl ?_
 simp +decide (disch := first | exact D0 | fail) only [go_sem, ↓reduceIte]
 refine Qa hP (Q2p (x := p.num * (q.den : Int)) (y := q.num * (p.den : Int)) (by omega) (by omega)) rfl rfl rfl ?_
 simp +decide (disch := first | exact D0 | fail) only [go_sem, ↓reduceIte]
 exact Qc (congrArg (PV.int .i64) (by rw [<- Qxk p.den_nz q.den_nz, Rat.mkRat_self, Rat.mkRat_self])) rfl
theorem Qm3 {n m : Bool} {a d b c : List Nat} {k : Nat} (hp : Raw k n a d) (hq : Raw k m b c) (hk : k < 2 ^ 34) : Qd Tryz.prog 72 [PV.rr n a d, PV.rr m b c] (· = .bool (decide (rv n a d = rv m b c))) := by
 refine Qh Qm Tryz.func72 rfl Qaef (by simp [c72]) fun C hP => ?_; simp only [c72, Zo, Zg, Zm, Zc, Zf, Zl, Zh, Zs, Zi, Zb, Zk, Zn, Zu, Zq, Zr, Zz]
 simp +decide (disch := first | exact D0 | fail) only [go_sem, ↓reduceIte]
 refine Qa hP (Qwv hp hq hk) rfl rfl rfl ?_
 simp +decide (disch := first | exact D0 | fail) only [go_sem, ↓reduceIte]
 exact Qc (congrArg PV.bool (decide_eq_decide.2 Qsm)) rfl
theorem Qww {n m : Bool} {a d b c : List Nat} {k : Nat} (hp : Raw k n a d) (hq : Raw k m b c) (hk : k < 2 ^ 34) : Qd Tryz.prog 101 [PV.rr n a d, PV.rr m b c] (· = PV.rat (rv n a d + rv m b c)) := by
 have hx := hp.rs
 have hy := hq.rs
 unfold FW.rs at hx hy
 refine Qh Qm Tryz.func101 rfl Qabu (by simp [Q7i]) fun C hP => ?_; simp only [Q7i, Zo, Zg, Zm, Zc, Zf, Zl, Zh, Zs, Zi, Zb, Zk, Zn, Zu, Zq, Zr, Zz]
 simp +decide (disch := first | exact D0 | fail) only [go_sem, ↓reduceIte]
 refine Qa hP (Qhb hp (by omega)) rfl rfl rfl ?_
 simp +decide (disch := first | exact D0 | fail) only [go_sem, ↓reduceIte]
 refine Qa hP (Qhb hq (by omega)) rfl rfl rfl ?_
 generalize rv n a d = p at *
 generalize rv m b c = q at *
 have h1 := Qay p.num (q.den : Int)
 have h2 := Qay q.num (p.den : Int)
 have h3 := Qfd (p.num * (q.den : Int)) (q.num * (p.den : Int))
 have h4 := Qfr p.den q.den
 rw [Int.natAbs_natCast] at h1 h2
 simp +decide (disch := first | exact D0 | fail) only [go_sem, ↓reduceIte]
 refine Qa hP (Qgf (dig q.den)) rfl rfl rfl ?_
 simp +decide (disch := first | exact D0 | fail) only [go_sem, ↓reduceIte]
 refine Qa hP (Qkd (x := p.num) (d := q.den) (by omega) (by omega)) rfl rfl rfl ?_
 simp +decide (disch := first | exact D0 | fail) only [go_sem, ↓reduceIte]
 refine Qa hP (Qgf (dig p.den)) rfl rfl rfl ?_
 simp +decide (disch := first | exact D0 | fail) only [go_sem, ↓reduceIte]
 refine Qa hP (Qkd (x := q.num) (d := p.den) (by omega) (by omega)) rfl rfl rfl ?_
 simp +decide (disch := first | exact D0 | fail) only [go_sem, ↓reduceIte]
 refine Qa hP (Q2o (x := p.num * (q.den : Int)) (y := q.num * (p.den : Int)) (by omega) (by omega)) rfl rfl rfl ?_
 simp +decide (disch := first | exact D0 | fail) only [go_sem, ↓reduceIte]
 refine Qa hP (Qiu (x := p.den) (y := q.den) (by omega) (by omega)) rfl rfl rfl ?_
 simp +decide (disch := first | exact D0 | fail) only [go_sem, ↓reduceIte]
 refine Qa hP (Qhc (z := p.num * (q.den : Int) + q.num * (p.den : Int)) (D := p.den * q.den) (by omega) (by omega)) rfl rfl rfl ?_
 simp +decide (disch := first | exact D0 | fail) only [go_sem, ↓reduceIte]
 refine Qa0 ?_
 simp +decide (disch := first | exact D0 | fail) only [go_sem, ↓reduceIte]
 exact Qc (congrArg PV.rat (by rw [<- Rat.mkRat_add_mkRat _ _ p.den_nz q.den_nz, Rat.mkRat_self, Rat.mkRat_self])) rfl
end Go.Proofs.YtmnkngmmfnncoaaGreat
namespace Go.Proofs.YtmnkngmmfnncoaaGreat
open Go Go.FW
set_option linter.unusedSimpArgs false
set_option linter.unusedVariables false
set_option maxRecDepth 100000
theorem Qti {n : Bool} {a d : List Nat} {k : Nat} (hp : Raw k n a d) (hk : k < 2 ^ 36) : Qd Tryz.prog 45 [PV.rr n a d] (· = .bool (Qgd n a d)) := by
 obtain ⟨ha, hd, sa, sd, k1⟩ := hp
 have hgl : (dig (Nat.gcd (val a) (val d))).length < 2 ^ 43 := by
  by_cases h0 : val d = 0
  ·rw [h0, Nat.gcd_zero_right]
   have h4 := Qal ha
   unfold nl at h4; omega
  ·have h3 := Qbx (Nat.gcd_le_right (val a) (Nat.pos_of_ne_zero h0))
   have h4 := Qal hd
   unfold nl at h3 h4; omega
 refine Qh Qm Tryz.func45 rfl Qaed (by simp [c45]) fun C hP => ?_; simp only [c45, Zo, Zg, Zm, Zc, Zf, Zl, Zh, Zs, Zi, Zb, Zk, Zn, Zu, Zq, Zr, Zz]
 simp +decide (disch := first | exact D0 | fail) only [go_sem, ↓reduceIte]
 refine Qa hP (Qth ha (by omega)) rfl rfl rfl ?_
 unfold Qgd
 simp +decide (disch := first | exact D0 | fail) only [go_sem, ↓reduceIte]
 cases hio : Qf4 n a
 ·simp +decide (disch := first | exact D0 | fail) only [go_sem, ↓reduceIte]
  exact Qc (by simp) rfl
 rw [Bool.true_and]
 simp +decide (disch := first | exact D0 | fail) only [go_sem, ↓reduceIte]
 refine Qa hP (Qm1 hd (by omega)) rfl rfl rfl ?_
 simp +decide (disch := first | exact D0 | fail) only [go_sem, ↓reduceIte]
 refine Qf0 (fun hv => ?_) (fun hv => ?_)
 ·simp +decide (disch := first | exact D0 | fail) only [go_sem, ↓reduceIte]
  refine Qa hP (Qo5 ha hd (by omega) (by omega)) rfl rfl rfl ?_
  simp +decide (disch := first | exact D0 | fail) only [go_sem, ↓reduceIte]
  refine Qa hP (Qc3 (n := 1) (by omega)) rfl rfl rfl ?_
  simp +decide (disch := first | exact D0 | fail) only [go_sem, ↓reduceIte]
  refine Qa hP (Qvl hgl (by rw [Qf2]; decide)) rfl rfl rfl ?_
  rw [Qf2, decide_eq_decide.2 (Qo0 (Nat.gcd (val a) (val d)))]
  simp +decide (disch := first | exact D0 | fail) only [go_sem, ↓reduceIte]
  refine Qb2 (fun hg => ?_) (fun hg => ?_)
  ·simp +decide (disch := first | exact D0 | fail) only [go_sem, ↓reduceIte]
   exact Qc (congrArg PV.bool (by cases d <;> simp_all)) rfl
  ·simp +decide (disch := first | exact D0 | fail) only [go_sem, ↓reduceIte]
   exact Qc (congrArg PV.bool (by simp [hg])) rfl
 ·simp +decide (disch := first | exact D0 | fail) only [go_sem, ↓reduceIte]
  exact Qc (congrArg PV.bool (by simp_all)) rfl
end Go.Proofs.YtmnkngmmfnncoaaGreat
namespace Go.Proofs.YtmnkngmmfnncoaaGreat
open Go Go.FW
set_option linter.unusedSimpArgs false
set_option linter.unusedVariables false
set_option maxRecDepth 100000
end Go.Proofs.YtmnkngmmfnncoaaGreat
namespace Go.Proofs.YtmnkngmmfnncoaaGreat
open Go Go.FW
set_option linter.unusedSimpArgs false
set_option linter.unusedVariables false
set_option maxRecDepth 100000
end Go.Proofs.YtmnkngmmfnncoaaGreat
namespace Go.Proofs.YtmnkngmmfnncoaaGreat
open Go Go.FW
set_option linter.unusedSimpArgs false
set_option linter.unusedVariables false
set_option maxRecDepth 100000
end Go.Proofs.YtmnkngmmfnncoaaGreat
namespace Go.Proofs.YtmnkngmmfnncoaaGreat
open Go Go.FW
set_option linter.unusedSimpArgs false
set_option linter.unusedVariables false
set_option maxRecDepth 100000
end Go.Proofs.YtmnkngmmfnncoaaGreat
namespace Go.Proofs.YtmnkngmmfnncoaaGreat
open Go Go.FW
set_option linter.unusedSimpArgs false
set_option linter.unusedVariables false
set_option maxRecDepth 100000
theorem Q7j {a b : Rat} {k : Nat} (ha : rs a <= k) (hb : rs b <= k) (hk : k < 2 ^ 34) : Qd Tryz.prog 101 [PV.rat a, PV.rat b] (· = PV.rat (a + b)) := by
 have := Qww (Qc2 ha) (Qc2 hb) hk
 rwa [Qds, Qds] at this
theorem Q7k {a b : Rat} {k : Nat} (ha : rs a <= k) (hb : rs b <= k) (hk : k < 2 ^ 34) : Qd Tryz.prog 83 [PV.rat a, PV.rat b] (· = PV.rat (a * b)) := by
 have := Qwu (Qc2 ha) (Qc2 hb) hk
 rwa [Qds, Qds] at this
end Go.Proofs.YtmnkngmmfnncoaaGreat
namespace Go.Proofs.YtmnkngmmfnncoaaGreat
open Go Go.FW
set_option linter.unusedSimpArgs false
set_option linter.unusedVariables false
set_option maxRecDepth 100000
end Go.Proofs.YtmnkngmmfnncoaaGreat
namespace Go.Proofs.YtmnkngmmfnncoaaGreat
open Go Go.FW
set_option linter.unusedSimpArgs false
set_option linter.unusedVariables false
set_option maxRecDepth 100000
end Go.Proofs.YtmnkngmmfnncoaaGreat
namespace Go.Proofs.YtmnkngmmfnncoaaGreat
open Go Go.FW
set_option linter.unusedSimpArgs false
set_option linter.unusedVariables false
set_option maxRecDepth 100000
end Go.Proofs.YtmnkngmmfnncoaaGreat
namespace Go.Proofs.YtmnkngmmfnncoaaGreat
open Go Go.FW
set_option maxRecDepth 100000
end Go.Proofs.YtmnkngmmfnncoaaGreat
namespace Go.Proofs.YtmnkngmmfnncoaaGreat
open Go Go.FW
set_option linter.unusedSimpArgs false
set_option linter.unusedVariables false
set_option maxRecDepth 100000
theorem Qzh {a b : Rat} {k : Nat} (ha : rs a <= k) (hb : rs b <= k) (hk : k < 2 ^ 34) : Qd Tryz.prog 72 [PV.rat a, PV.rat b] (· = .bool (decide (a = b))) := by
 have := Qm3 (Qc2 ha) (Qc2 hb) hk
 rwa [Qds, Qds] at this
end Go.Proofs.YtmnkngmmfnncoaaGreat
namespace Go.Proofs.YtmnkngmmfnncoaaGreat
open Go Go.FW
set_option linter.unusedSimpArgs false
set_option linter.unusedVariables false
set_option maxRecDepth 100000
end Go.Proofs.YtmnkngmmfnncoaaGreat
namespace Go.Proofs.YtmnkngmmfnncoaaGreat
open Go Go.FW
set_option linter.unusedSimpArgs false
set_option linter.unusedVariables false
set_option maxRecDepth 100000
end Go.Proofs.YtmnkngmmfnncoaaGreat
namespace Go.Proofs.YtmnkngmmfnncoaaGreat
open Go Go.FW
set_option linter.unusedSimpArgs false
set_option linter.unusedVariables false
set_option maxRecDepth 100000
end Go.Proofs.YtmnkngmmfnncoaaGreat
namespace Go.Proofs.YtmnkngmmfnncoaaGreat
open Go Go.FW
set_option linter.unusedSimpArgs false
set_option linter.unusedVariables false
set_option maxRecDepth 100000
end Go.Proofs.YtmnkngmmfnncoaaGreat
namespace Go.Proofs.YtmnkngmmfnncoaaGreat
open Go Go.FW
set_option linter.unusedSimpArgs false
set_option linter.unusedVariables false
set_option maxRecDepth 100000
end Go.Proofs.YtmnkngmmfnncoaaGreat
namespace Go.FW
open Go
theorem Qqz (x y : Int) (hy : y ≠ 0) : mkRat (zv (decide (x < 0) != decide (y < 0)) (dig x.natAbs)) y.natAbs = (x : Rat) / (y : Rat) := by
 rw [Rat.mkRat_eq_div, Qg7, <- Rat.intCast_natCast]
 have h3 : (y : Rat) ≠ 0 := by rw [Ne, Rat.intCast_eq_zero_iff]; exact hy
 by_cases hy0 : y < 0
 ·have e2 : (((y.natAbs : Nat) : Int) : Rat) = - (y : Rat) := by rw [<- Rat.intCast_neg]; congr 1; omega
  have e1 : (if (decide (x < 0) != decide (y < 0)) = true then -(x.natAbs : Int) else x.natAbs) = -x := by
   by_cases hx : x < 0 <;> simp [hx, hy0] <;> omega
  rw [e1, e2, Rat.intCast_neg]
  grind
 ·have e2 : (((y.natAbs : Nat) : Int) : Rat) = (y : Rat) := by congr 1; omega
  have e1 : (if (decide (x < 0) != decide (y < 0)) = true then -(x.natAbs : Int) else x.natAbs) = x := by
   by_cases hx : x < 0 <;> simp [hx, hy0] <;> omega
  rw [e1, e2]
theorem Qaei {n m : Bool} {a d b c : List Nat} (hd : val d ≠ 0) (hc : val c ≠ 0) (hb : zv m b ≠ 0) : ((zv n a * (val c : Int) : Int) : Rat) / ((zv m b * (val d : Int) : Int) : Rat) = rv n a d / rv m b c := by
 have h1 : ((val d : Int) : Rat) ≠ 0 := by rw [Ne, Rat.intCast_eq_zero_iff]; omega
 have h2 : ((val c : Int) : Rat) ≠ 0 := by rw [Ne, Rat.intCast_eq_zero_iff]; omega
 have h3 : ((zv m b : Int) : Rat) ≠ 0 := by rw [Ne, Rat.intCast_eq_zero_iff]; exact hb
 unfold rv
 rw [Rat.mkRat_eq_div, Rat.mkRat_eq_div, Rat.intCast_mul, Rat.intCast_mul]
 rw [<- Rat.intCast_natCast, <- Rat.intCast_natCast]
 grind
end Go.FW
