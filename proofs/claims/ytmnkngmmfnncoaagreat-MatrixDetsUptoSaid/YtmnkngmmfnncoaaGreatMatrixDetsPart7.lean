/- Part 7 of the proof of MatrixDets: W6, CA, A1, A2, FwNH. Own lemmas; no conditions. -/
import Derived.Test.YtmnkngmmfnncoaaGreatMatrixDetsPart6
set_option linter.unusedSimpArgs false
set_option linter.unnecessarySimpa false
set_option linter.unusedVariables false
namespace Go.Proofs.YtmnkngmmfnncoaaGreat
open Go Go.FW
set_option linter.unusedSimpArgs false
set_option linter.unusedVariables false
set_option maxRecDepth 100000
theorem Q2q {x y : Int} (hx : nl x.natAbs < 2 ^ 38) (hy : nl y.natAbs < 2 ^ 38) (h0 : y ≠ 0) : Qd Tryz.prog 146 [PV.zz x, PV.zz y] (· = .tup [PV.rat ((x : Rat) / (y : Rat)), .int .i64 0]) := by
 have hv := Qqz x y h0
 have hr := Qjp (n := decide (x < 0) != decide (y < 0)) (a := dig x.natAbs) (d := dig y.natAbs) (Qi _) (Qi _) hx hy
 rw [rv, Qy, hv] at hr
 have hs := Qhy (n := decide (y < 0)) (a := dig y.natAbs) (Qi _) (by show nl _ < _; omega)
 rw [Qe4] at hs
 generalize (x : Rat) / (y : Rat) = Q at *
 refine Qh Qm Tryz.func146 rfl Qaae (by simp [Q55]) fun C hP => ?_; simp only [Q55, Zo, Zg, Zm, Zc, Zf, Zl, Zh, Zs, Zi, Zb, Zk, Zn, Zu, Zq, Zr, Zz]
 simp +decide (disch := first | exact D0 | fail) only [go_sem, ↓reduceIte]
 refine Qa hP hs rfl rfl rfl ?_
 simp +decide (disch := first | exact D0 | fail) only [go_sem, ↓reduceIte]
 refine Qb (fun h => absurd (Qpm.1 h) h0) (fun _ => ?_)
 simp +decide (disch := first | exact D0 | fail) only [go_sem, ↓reduceIte]
 refine Qa hP hr rfl rfl rfl ?_
 simp +decide (disch := first | exact D0 | fail) only [go_sem, ↓reduceIte]
 refine Qdd ?_
 simp +decide (disch := first | exact D0 | fail) only [go_sem, ↓reduceIte]
 exact Qc9 rfl rfl rfl (Qx _) (Qx _)
theorem Q2r {n m : Bool} {a d b c : List Nat} {k : Nat} (hp : Raw k n a d) (hq : Raw k m b c) (hk : k < 2 ^ 34) (h0 : rv m b c ≠ 0) : Qd Tryz.prog 139 [PV.rr n a d, PV.rr m b c] (· = .tup [PV.rat (rv n a d / rv m b c), .int .i64 0]) := by
 refine Qh Qm Tryz.func139 rfl Qaaf (by simp [Q56]) fun C hP => ?_; simp only [Q56, Zo, Zg, Zm, Zc, Zf, Zl, Zh, Zs, Zi, Zb, Zk, Zn, Zu, Zq, Zr, Zz]
 simp +decide (disch := first | exact D0 | fail) only [go_sem, ↓reduceIte]
 refine Qck hP (Qde hp.la hp.ld hp.k1 hp.sa hp.sd (by omega)) rfl rfl rfl ?_
 rintro _ ⟨n', a', d', rfl, g1, g2, g3, g4, g5, g6⟩
 simp +decide (disch := first | exact D0 | fail) only [go_sem, ↓reduceIte]
 refine Qck hP (Qde hq.la hq.ld hq.k1 hq.sa hq.sd (by omega)) rfl rfl rfl ?_
 rintro _ ⟨m', b', c', rfl, e1, e2, e3, e4, e5, e6⟩
 simp +decide (disch := first | exact D0 | fail) only [go_sem, ↓reduceIte]
 have hza : nl (zv n' a').natAbs <= k := by rw [Qbb]; exact Nat.le_trans (Qal g1) g3
 have hzb : nl (zv m' b').natAbs <= k := by rw [Qbb]; exact Nat.le_trans (Qal e1) e3
 have hvd : nl (val d') <= k := Nat.le_trans (Qal g2) g4
 have hvc : nl (val c') <= k := Nat.le_trans (Qal e2) e4
 have h3 := Qay (zv n' a') (val c')
 have h6 := Qay (zv m' b') (val d')
 rw [Int.natAbs_natCast] at h3 h6
 have hzb0 : zv m' b' ≠ 0 := fun h => h0 (by rw [<- e6, rv, h, Rat.zero_mkRat])
 have hne : zv m' b' * (val d' : Int) ≠ 0 := Int.mul_ne_zero hzb0 (by omega)
 have hfin := Qaei (n := n') (a := a') (m := m') (b := b') g5 e5 hzb0
 rw [g6, e6] at hfin
 have hm1 := Qdt (n := n') (m := false) g1 e2 (by omega) (by omega)
 have hm2 := Qdt (n := m') (m := false) e1 g2 (by omega) (by omega)
 rw [Qfu] at hm1 hm2
 refine Qa hP (Qed c') rfl rfl rfl ?_
 simp +decide (disch := first | exact D0 | fail) only [go_sem, ↓reduceIte]
 refine Qa hP hm1 rfl rfl rfl ?_
 simp +decide (disch := first | exact D0 | fail) only [go_sem, ↓reduceIte]
 refine Qa hP (Qed d') rfl rfl rfl ?_
 simp +decide (disch := first | exact D0 | fail) only [go_sem, ↓reduceIte]
 refine Qa hP hm2 rfl rfl rfl ?_
 generalize zv n' a' * (val c' : Int) = X at *
 generalize zv m' b' * (val d' : Int) = Y at *
 simp +decide (disch := first | exact D0 | fail) only [go_sem, ↓reduceIte]
 refine Qa hP (Q2q (x := X) (y := Y) (by omega) (by omega) hne) rfl rfl rfl ?_
 rw [hfin]
 generalize rv n a d / rv m b c = Q at *
 simp +decide (disch := first | exact D0 | fail) only [go_sem, ↓reduceIte]
 refine Qdd ?_
 simp +decide (disch := first | exact D0 | fail) only [go_sem, ↓reduceIte]
 exact Qc9 rfl rfl rfl (Qx _) (Qx _)
theorem Qzi {a b : Rat} {k : Nat} (ha : rs a <= k) (hb : rs b <= k) (hk : k < 2 ^ 34) (h0 : b ≠ 0) : Qd Tryz.prog 139 [PV.rat a, PV.rat b] (· = .tup [PV.rat (a / b), .int .i64 0]) := by
 have := Q2r (Qc2 ha) (Qc2 hb) hk (by rw [Qds]; exact h0)
 rwa [Qds, Qds] at this
theorem Q2s {x : Int} (hx : nl x.natAbs < 2 ^ 40) : Qd Tryz.prog 158 [PV.zz x] (· = PV.zz (-x)) := by
 have hs := Qeg (n := !decide (x < 0)) (a := dig x.natAbs) (Qi _) (by show nl _ < _; omega)
 have e : zv (!decide (x < 0)) (dig x.natAbs) = -x := by
  rw [Qg7]; by_cases h : x < 0 <;> simp [h] <;> omega
 rw [e] at hs
 refine Qh Qm Tryz.func158 rfl Qabm (by simp [Q7a]) fun C hP => ?_; simp only [Q7a, Zo, Zg, Zm, Zc, Zf, Zl, Zh, Zs, Zi, Zb, Zk, Zn, Zu, Zq, Zr, Zz]
 simp +decide (disch := first | exact D0 | fail) only [go_sem, ↓reduceIte]
 refine Qa hP hs rfl rfl rfl ?_
 simp +decide (disch := first | exact D0 | fail) only [go_sem, ↓reduceIte]
 refine Qa0 ?_
 simp +decide (disch := first | exact D0 | fail) only [go_sem, ↓reduceIte]
 exact Qc rfl rfl
theorem Qzj {x y : Int} (hx : nl x.natAbs < 2 ^ 35) (hy : nl y.natAbs < 2 ^ 35) (h0 : y ≠ 0) : Qd Tryz.prog 147 [PV.zz x, PV.zz y] (· = .tup [PV.rat ((x : Rat) / (y : Rat)), .int .i64 0]) := by
 have h3 : (y : Rat) ≠ 0 := by rw [Ne, Rat.intCast_eq_zero_iff]; exact h0
 have hnx : nl (-x).natAbs < 2 ^ 35 := by rw [Int.natAbs_neg]; exact hx
 have o1 := Qhc (z := x) (D := y.natAbs) (by omega) (by omega)
 have o2 := Qhc (z := -x) (D := y.natAbs) (by omega) (by omega)
 have e1 : ¬ y < 0 -> mkRat x y.natAbs = (x : Rat) / (y : Rat) := fun h => by
  rw [Rat.mkRat_eq_div, <- Rat.intCast_natCast]
  congr 2; omega
 have e2 : y < 0 -> mkRat (-x) y.natAbs = (x : Rat) / (y : Rat) := fun h => by
  have e : (((y.natAbs : Nat) : Int) : Rat) = - (y : Rat) := by rw [<- Rat.intCast_neg]; congr 1; omega
  rw [Rat.mkRat_eq_div, <- Rat.intCast_natCast, e, Rat.intCast_neg]
  grind
 refine Qh Qm Tryz.func147 rfl Qabr (by simp [Q7f]) fun C hP => ?_; simp only [Q7f, Zo, Zg, Zm, Zc, Zf, Zl, Zh, Zs, Zi, Zb, Zk, Zn, Zu, Zq, Zr, Zz]
 simp +decide (disch := first | exact D0 | fail) only [go_sem, ↓reduceIte]
 refine Qa hP (Qzg (by omega)) rfl rfl rfl ?_
 simp +decide (disch := first | exact D0 | fail) only [go_sem, ↓reduceIte]
 refine Qb (fun h => absurd (Qpm.1 h) h0) (fun _ => ?_)
 simp +decide (disch := first | exact D0 | fail) only [go_sem, ↓reduceIte]
 refine Qb (fun hn => ?_) (fun hn => ?_)
 ·rw [e2 hn] at o2
  generalize (x : Rat) / (y : Rat) = Q at *
  simp +decide (disch := first | exact D0 | fail) only [go_sem, ↓reduceIte]
  refine Qa hP (Q2s (x := x) (by omega)) rfl rfl rfl ?_
  simp +decide (disch := first | exact D0 | fail) only [go_sem, ↓reduceIte]
  refine Qa hP o2 rfl rfl rfl ?_
  simp +decide (disch := first | exact D0 | fail) only [go_sem, ↓reduceIte]
  refine Qdd ?_
  simp +decide (disch := first | exact D0 | fail) only [go_sem, ↓reduceIte]
  exact Qc9 rfl rfl rfl (Qx _) (Qx _)
 ·rw [e1 hn] at o1
  generalize (x : Rat) / (y : Rat) = Q at *
  simp +decide (disch := first | exact D0 | fail) only [go_sem, ↓reduceIte]
  refine Qa hP o1 rfl rfl rfl ?_
  simp +decide (disch := first | exact D0 | fail) only [go_sem, ↓reduceIte]
  refine Qdd ?_
  simp +decide (disch := first | exact D0 | fail) only [go_sem, ↓reduceIte]
  exact Qc9 rfl rfl rfl (Qx _) (Qx _)
theorem Qns {x y : Int} (hx : -9223372036854775808 <= x /\ x <= 9223372036854775807) (hy : -9223372036854775808 <= y /\ y <= 9223372036854775807) (h0 : y ≠ 0) : Qd Tryz.prog 71 [.int .i64 x, .int .i64 y] (· = PV.rat ((x : Rat) / (y : Rat))) := by
 have n1 := Qd3 (n := x.natAbs) (by omega)
 have n2 := Qd3 (n := y.natAbs) (by omega)
 have hm := Qzj (x := x) (y := y) (by omega) (by omega) h0
 generalize (x : Rat) / (y : Rat) = Q at *
 refine Qh Qm Tryz.func71 rfl Qaeb (by simp [c71]) fun C hP => ?_; simp only [c71, Zo, Zg, Zm, Zc, Zf, Zl, Zh, Zs, Zi, Zb, Zk, Zn, Zu, Zq, Zr, Zz]
 simp +decide (disch := first | exact D0 | fail) only [go_sem, ↓reduceIte]
 refine Qa hP (Qmn hx.1 hx.2) rfl rfl rfl ?_
 simp +decide (disch := first | exact D0 | fail) only [go_sem, ↓reduceIte]
 refine Qa hP (Qmn hy.1 hy.2) rfl rfl rfl ?_
 simp +decide (disch := first | exact D0 | fail) only [go_sem, ↓reduceIte]
 refine Qa hP hm rfl rfl rfl ?_
 simp +decide (disch := first | exact D0 | fail) only [go_sem, ↓reduceIte]
 refine Qa0 ?_
 simp +decide (disch := first | exact D0 | fail) only [go_sem, ↓reduceIte]
 exact Qc rfl rfl
end Go.Proofs.YtmnkngmmfnncoaaGreat
namespace Go.Proofs.YtmnkngmmfnncoaaGreat
open Go Go.FW
set_option maxRecDepth 100000
def c25 : SFn := ⟨35, [.t 2], Zr (Zo (.box 1 3 24 (.t 0)) <|
 Zo (.mv 2 (.c (.bool false))) .nil) <| .seq (Zr (Zf 3 0 1 <|
 Zl 4 1 3 <|
 Zk 5 .lss 4 0 <|
 Zm 6 5 <|
 Zg 6 false (.fld 7 0 (.t 1)) <|
 Zg 6 false (.ld 8 1 false (.t 7)) <|
 Zg 6 false (.bin 9 .gtr false (.t 8) (.c (Zz 40))) <|
 Zo (.pick 10 (.t 6) (.c (.bool true)) (.t 9)) <|
 Zm 11 10 <|
 Zg 11 false (.fld 12 1 (.t 1)) <|
 Zg 11 false (.ld 13 1 false (.t 12)) <|
 Zg 11 false (.bin 14 .lss false (.t 13) (.c (Zz 0))) <|
 Zo (.pick 15 (.t 11) (.c (.bool true)) (.t 14)) <|
 Zm 16 15 <|
 Zg 16 false (.fld 17 1 (.t 1)) <|
 Zg 16 false (.ld 18 1 false (.t 17)) <|
 Zg 16 false (.bin 19 .gtr false (.t 18) (.c (Zz 40))) <|
 Zo (.pick 20 (.t 16) (.c (.bool true)) (.t 19)) <|
 Zm 21 20 <|
 Zg 21 false (.fld 22 2 (.t 1)) <|
 Zg 21 false (.ld 23 1 false (.t 22)) <|
 Zg 21 false (.len 24 (.t 23)) <|
 Zg 21 false (.fld 25 0 (.t 1)) <|
 Zg 21 false (.ld 26 1 false (.t 25)) <|
 Zg 21 false (.fld 27 1 (.t 1)) <|
 Zg 21 false (.ld 28 1 false (.t 27)) <|
 Zg 21 false (.bin 29 .mul false (.t 26) (.t 28)) <|
 Zg 21 false (.bin 30 .neq false (.t 24) (.t 29)) <|
 Zo (.pick 31 (.t 21) (.c (.bool true)) (.t 30)) .nil) <| .cond (.t 31) (Zr (Zo (.mv 2 (.c (.bool false))) .nil) .ret) .skip) <| Zr (Zf 32 2 1 <|
 Zl 33 1 32 <|
 Zq 34 false 89 [.t 33] <|
 Zm 2 34 .nil) .ret⟩
theorem Qaej : Qe Tryz.prog Tryz.f25 = some c25 := by kernel_rfl
def c89 : SFn := ⟨15, [.t 2], Zr (Zo (.mv 2 (.c (.bool false))) .nil) <| .seq (Zr (Zm 5 0 <|
 Zn 6 5 <|
 Zc 7 0 .nil) <| .block 0 <| .loop <| Zr (Zb 8 .lss 7 6 .nil) <| .seq (.cond (.t 8) .skip (.exit 0)) <| .seq (.block 1 <| Zr (Zi 9 3 5 7 <|
 Zh 10 3 9 <|
 Zo (.alloc 4 3 32 (.agg [.bool false, .nilS, .nilS])) <|
 Zs 3 4 10 .nil) <| Zr (Zh 11 3 4 <|
 Zq 12 false 163 [.t 11] <|
 Zu 13 12 .nil) <| .cond (.t 13) (Zr (Zo (.mv 2 (.c (.bool false))) .nil) .ret) .skip) <| .rg (Zk 14 .add 7 1 <|
 Zm 7 14 .nil)) <| Zr (Zo (.mv 2 (.c (.bool true))) .nil) .ret⟩
theorem Qaek : Qe Tryz.prog Tryz.f89 = some c89 := by kernel_rfl
def c21 : SFn := ⟨42, [.cell 6 3 true, .t 7], Zr (Zo (.alloc 6 3 24 (.agg [Zz 0, Zz 0, .nilS])) <|
 Zc 7 0 .nil) <| .seq (.block 0 <| Zr (Zm 9 0 <|
 Zk 10 .lss 9 0 <|
 Zm 11 10 <|
 Zg 11 false (.mv 12 (.t 0)) <|
 Zg 11 false (.bin 13 .gtr false (.t 12) (.c (Zz 40))) <|
 Zo (.pick 14 (.t 11) (.c (.bool true)) (.t 13)) <|
 Zm 15 14 <|
 Zg 15 false (.mv 16 (.t 1)) <|
 Zg 15 false (.bin 17 .lss false (.t 16) (.c (Zz 0))) <|
 Zo (.pick 18 (.t 15) (.c (.bool true)) (.t 17)) <|
 Zm 19 18 <|
 Zg 19 false (.mv 20 (.t 1)) <|
 Zg 19 false (.bin 21 .gtr false (.t 20) (.c (Zz 40))) <|
 Zo (.pick 22 (.t 19) (.c (.bool true)) (.t 21)) <|
 Zm 8 22 .nil) <| .cond (.t 8) (Zr (Zo (.bld 23 [Zz 0, Zz 0, .nilS] []) <|
 Zs 3 6 23 <|
 Zc 7 2 .nil) .ret) (Zr (Zm 25 2 <|
 Zn 26 25 <|
 Zm 27 0 <|
 Zm 28 1 <|
 Zb 29 .mul 27 28 <|
 Zb 30 .neq 26 29 <|
 Zm 24 30 .nil) <| .cond (.t 24) (Zr (Zo (.bld 31 [Zz 0, Zz 0, .nilS] []) <|
 Zs 3 6 31 <|
 Zc 7 16 .nil) .ret) (Zr (Zm 33 2 <|
 Zq 34 false 89 [.t 33] <|
 Zu 35 34 <|
 Zm 32 35 .nil) <| .cond (.t 32) (Zr (Zo (.bld 36 [Zz 0, Zz 0, .nilS] []) <|
 Zs 3 6 36 <|
 Zc 7 1 .nil) .ret) .skip))) <| Zr (Zm 37 0 <|
 Zm 38 1 <|
 Zm 39 2 <|
 Zo (.app 40 3 56 32 (.c .nilS) (.t 39)) <|
 Zo (.bld 41 [Zz 0, Zz 0, .nilS] [(0, 1, .t 37), (1, 1, .t 38), (2, 1, .t 40)]) <|
 Zs 3 6 41 <|
 Zc 7 0 .nil) .ret⟩
theorem Qael : Qe Tryz.prog Tryz.f21 = some c21 := by kernel_rfl
def Q7l : SFn := ⟨26, [.cell 4 3 true], Zr (Zo (.alloc 4 3 32 (.agg [.bool false, .nilS, .nilS])) .nil) <| Zr (Zq 7 false 79 [.c (Zz 0)] <|
 Zo (.alloc 5 3 32 (.agg [.bool false, .nilS, .nilS])) <|
 Zs 3 5 7 .nil) <| .seq (Zr (Zm 8 0 <|
 Zn 9 8 <|
 Zc 10 0 .nil) <| .block 0 <| .loop <| Zr (Zb 11 .lss 10 9 .nil) <| .seq (.cond (.t 11) .skip (.exit 0)) <| .seq (.block 1 <| Zr (Zm 12 10 <|
 Zm 6 12 .nil) <| .rg (Zh 13 3 5 <|
 Zm 14 0 <|
 Zm 15 6 <|
 Zi 16 3 14 15 <|
 Zh 17 3 16 <|
 Zm 18 1 <|
 Zm 19 6 <|
 Zi 20 3 18 19 <|
 Zh 21 3 20 <|
 Zq 22 true 38 [.t 17, .t 21] <|
 Zq 23 true 37 [.t 13, .t 22] <|
 Zs 3 5 23 .nil)) <| .rg (Zk 24 .add 10 1 <|
 Zm 10 24 .nil)) <| Zr (Zh 25 3 5 <|
 Zs 3 4 25 .nil) .ret⟩
theorem Qabv : Qe Tryz.prog Tryz.f100 = some Q7l := by kernel_rfl
def c16 : SFn := ⟨29, [.cell 2 3 true, .t 3], Zr (Zo (.box 1 3 24 (.t 0)) <|
 Zo (.alloc 2 3 32 (.agg [.bool false, .nilS, .nilS])) <|
 Zc 3 0 .nil) <| .seq (Zr (Zh 5 3 1 <|
 Zq 6 false 25 [.t 5] <|
 Zu 7 6 .nil) <| .cond (.t 7) (Zr (Zo (.bld 8 [.bool false, .nilS, .nilS] []) <|
 Zs 3 2 8 <|
 Zc 3 1 .nil) .ret) .skip) <| .seq (Zr (Zf 9 0 1 <|
 Zl 10 1 9 <|
 Zf 11 1 1 <|
 Zl 12 1 11 <|
 Zb 13 .neq 10 12 .nil) <| .cond (.t 13) (Zr (Zo (.bld 14 [.bool false, .nilS, .nilS] []) <|
 Zs 3 2 14 <|
 Zc 3 16 .nil) .ret) .skip) <| Zr (Zh 15 3 1 <|
 Zf 17 1 1 <|
 Zl 18 1 17 <|
 .br (Zq 16 true 78 [.t 15] <|
 .br (Zq 19 false 77 [.t 16, .t 18] <|
 Zo (.alloc 4 5 93 (.agg [.nilS, .nilS, .bool false, .nilS, .nilS])) <|
 Zs 5 4 19 .nil) (Zo (.alloc 4 5 93 (.agg [.nilS, .nilS, .bool false, .nilS, .nilS])) <|
 Zq 19 false 77 [.t 16, .t 18] <|
 Zs 5 4 19 .nil)) (Zo (.alloc 4 5 93 (.agg [.nilS, .nilS, .bool false, .nilS, .nilS])) <|
 Zq 16 true 78 [.t 15] <|
 Zq 19 false 77 [.t 16, .t 18] <|
 Zs 5 4 19 .nil)) <| .seq (Zr (Zf 20 1 4 <|
 Zl 21 1 20 <|
 Zn 22 21 <|
 Zf 23 0 1 <|
 Zl 24 1 23 <|
 Zb 25 .lss 22 24 .nil) <| .cond (.t 25) (Zr (Zq 26 false 79 [.c (Zz 0)] <|
 Zs 3 2 26 <|
 Zc 3 0 .nil) .ret) .skip) <| Zr (Zf 27 2 4 <|
 Zh 28 3 27 <|
 Zs 3 2 28 <|
 Zc 3 0 .nil) .ret⟩
theorem Qvn : Qe Tryz.prog Tryz.f16 = some c16 := by kernel_rfl
def c18 : SFn := ⟨14, [.t 2, .t 3], Zr (Zo (.box 1 3 24 (.t 0)) <|
 Zc 2 0 <|
 Zc 3 0 .nil) <| .seq (Zr (Zh 4 3 1 <|
 Zq 5 false 25 [.t 4] <|
 Zu 6 5 .nil) <| .cond (.t 6) (Zr (Zc 2 0 <|
 Zc 3 1 .nil) .ret) .skip) <| Zr (Zh 7 3 1 <|
 Zf 9 1 1 <|
 Zl 10 1 9 <|
 Zq 8 true 78 [.t 7] <|
 Zq 11 false 77 [.t 8, .t 10] <|
 Zo (.fldv 12 1 1 false (.t 11)) <|
 Zn 13 12 <|
 Zm 2 13 <|
 Zc 3 0 .nil) .ret⟩
theorem Qaem : Qe Tryz.prog Tryz.f18 = some c18 := by kernel_rfl
def Qvo : SFn := ⟨18, [.t 2], Zr (Zo (.mv 2 (.c .nilS)) .nil) <| Zr (Zm 5 0 <|
 Zo (.mk 6 3 56 32 (.agg [.bool false, .nilS, .nilS]) (.t 5) (.t 5)) <|
 Zm 3 6 .nil) <| .seq (Zr (Zm 7 3 <|
 Zn 8 7 <|
 Zc 9 0 .nil) <| .block 0 <| .loop <| Zr (Zb 10 .lss 9 8 .nil) <| .seq (.cond (.t 10) .skip (.exit 0)) <| .seq (.block 1 <| Zr (Zm 11 9 <|
 Zm 4 11 .nil) <| .rg (Zm 12 3 <|
 Zm 13 4 <|
 Zq 14 false 79 [.c (Zz 0)] <|
 Zi 15 3 12 13 <|
 Zs 3 15 14 .nil)) <| .rg (Zk 16 .add 9 1 <|
 Zm 9 16 .nil)) <| Zr (Zm 17 3 <|
 Zm 2 17 .nil) .ret⟩
theorem Qxt : Qe Tryz.prog Tryz.f116 = some Qvo := by kernel_rfl
def c26 : SFn := ⟨35, [.t 2], Zr (Zo (.box 1 3 24 (.t 0)) <|
 Zo (.mv 2 (.c (.bool false))) .nil) <| .seq (Zr (Zf 3 0 1 <|
 Zl 4 1 3 <|
 Zk 5 .lss 4 0 <|
 Zm 6 5 <|
 Zg 6 false (.fld 7 0 (.t 1)) <|
 Zg 6 false (.ld 8 1 false (.t 7)) <|
 Zg 6 false (.bin 9 .gtr false (.t 8) (.c (Zz 40))) <|
 Zo (.pick 10 (.t 6) (.c (.bool true)) (.t 9)) <|
 Zm 11 10 <|
 Zg 11 false (.fld 12 1 (.t 1)) <|
 Zg 11 false (.ld 13 1 false (.t 12)) <|
 Zg 11 false (.bin 14 .lss false (.t 13) (.c (Zz 0))) <|
 Zo (.pick 15 (.t 11) (.c (.bool true)) (.t 14)) <|
 Zm 16 15 <|
 Zg 16 false (.fld 17 1 (.t 1)) <|
 Zg 16 false (.ld 18 1 false (.t 17)) <|
 Zg 16 false (.bin 19 .gtr false (.t 18) (.c (Zz 40))) <|
 Zo (.pick 20 (.t 16) (.c (.bool true)) (.t 19)) <|
 Zm 21 20 <|
 Zg 21 false (.fld 22 2 (.t 1)) <|
 Zg 21 false (.ld 23 1 false (.t 22)) <|
 Zg 21 false (.len 24 (.t 23)) <|
 Zg 21 false (.fld 25 0 (.t 1)) <|
 Zg 21 false (.ld 26 1 false (.t 25)) <|
 Zg 21 false (.fld 27 1 (.t 1)) <|
 Zg 21 false (.ld 28 1 false (.t 27)) <|
 Zg 21 false (.bin 29 .mul false (.t 26) (.t 28)) <|
 Zg 21 false (.bin 30 .neq false (.t 24) (.t 29)) <|
 Zo (.pick 31 (.t 21) (.c (.bool true)) (.t 30)) .nil) <| .cond (.t 31) (Zr (Zo (.mv 2 (.c (.bool false))) .nil) .ret) .skip) <| Zr (Zf 32 2 1 <|
 Zl 33 1 32 <|
 Zq 34 false 90 [.t 33] <|
 Zm 2 34 .nil) .ret⟩
theorem Qaen : Qe Tryz.prog Tryz.f26 = some c26 := by kernel_rfl
def c90 : SFn := ⟨16, [.t 2], Zr (Zo (.mv 2 (.c (.bool false))) .nil) <| .seq (Zr (Zc 3 0 .nil) <| .block 0 <| .loop <| .seq (Zr (Zm 4 3 <|
 Zm 5 0 <|
 Zn 6 5 <|
 Zb 7 .lss 4 6 .nil) <| .cond (.t 7) .skip (.exit 0)) <| .seq (.block 1 <| Zr (Zm 10 0 <|
 Zm 11 3 <|
 Zi 12 3 10 11 <|
 Zh 13 3 12 <|
 Zq 14 false 45 [.t 13] <|
 Zu 15 14 .nil) <| .cond (.t 15) (Zr (Zo (.mv 2 (.c (.bool false))) .nil) .ret) .skip) <| .rg (Zm 8 3 <|
 Zk 9 .add 8 1 <|
 Zm 3 9 .nil)) <| Zr (Zo (.mv 2 (.c (.bool true))) .nil) .ret⟩
theorem Qaeo : Qe Tryz.prog Tryz.f90 = some c90 := by kernel_rfl
def c33 : SFn := ⟨27, [.t 4], Zr (Zo (.mv 4 (.c (.bool false))) .nil) <| .seq (Zr (Zm 6 0 <|
 Zn 7 6 <|
 Zm 8 1 <|
 Zn 9 8 <|
 Zb 10 .neq 7 9 .nil) <| .cond (.t 10) (Zr (Zo (.mv 4 (.c (.bool false))) .nil) .ret) .skip) <| .seq (Zr (Zc 5 0 .nil) <| .block 0 <| .loop <| .seq (Zr (Zm 11 5 <|
 Zm 12 0 <|
 Zn 13 12 <|
 Zb 14 .lss 11 13 .nil) <| .cond (.t 14) .skip (.exit 0)) <| .seq (.block 1 <| Zr (Zm 17 0 <|
 Zm 18 5 <|
 Zi 19 3 17 18 <|
 Zh 20 3 19 <|
 Zm 21 1 <|
 Zm 22 5 <|
 Zi 23 3 21 22 <|
 Zh 24 3 23 <|
 Zq 25 false 72 [.t 20, .t 24] <|
 Zu 26 25 .nil) <| .cond (.t 26) (Zr (Zo (.mv 4 (.c (.bool false))) .nil) .ret) .skip) <| .rg (Zm 15 5 <|
 Zk 16 .add 15 1 <|
 Zm 5 16 .nil)) <| Zr (Zo (.mv 4 (.c (.bool true))) .nil) .ret⟩
theorem Qaep : Qe Tryz.prog Tryz.f33 = some c33 := by kernel_rfl
def Q7m : SFn := ⟨26, [.cell 4 3 true], Zr (Zo (.alloc 4 3 32 (.agg [.bool false, .nilS, .nilS])) .nil) <| Zr (Zq 7 false 34 [.c (Zz 0)] <|
 Zo (.alloc 5 3 32 (.agg [.bool false, .nilS, .nilS])) <|
 Zs 3 5 7 .nil) <| .seq (Zr (Zc 6 0 .nil) <| .block 0 <| .loop <| .seq (Zr (Zm 8 6 <|
 Zm 9 0 <|
 Zn 10 9 <|
 Zb 11 .lss 8 10 .nil) <| .cond (.t 11) .skip (.exit 0)) <| .seq (.block 1 <| .rg (Zh 14 3 5 <|
 Zm 15 0 <|
 Zm 16 6 <|
 Zi 17 3 15 16 <|
 Zh 18 3 17 <|
 Zm 19 1 <|
 Zm 20 6 <|
 Zi 21 3 19 20 <|
 Zh 22 3 21 <|
 Zq 23 true 83 [.t 18, .t 22] <|
 Zq 24 true 101 [.t 14, .t 23] <|
 Zs 3 5 24 .nil)) <| .rg (Zm 12 6 <|
 Zk 13 .add 12 1 <|
 Zm 6 13 .nil)) <| Zr (Zh 25 3 5 <|
 Zs 3 4 25 .nil) .ret⟩
theorem Qabw : Qe Tryz.prog Tryz.f102 = some Q7m := by kernel_rfl
def c76 : SFn := ⟨20, [.t 2], Zr (Zo (.mv 2 (.c .nilS)) .nil) <| Zr (Zo (.mv 3 (.c .nilS)) .nil) <| .seq (Zr (Zc 4 0 .nil) <| .block 0 <| .loop <| .seq (Zr (Zm 5 4 <|
 Zm 6 0 <|
 Zn 7 6 <|
 Zb 8 .lss 5 7 .nil) <| .cond (.t 8) .skip (.exit 0)) <| .seq (.block 1 <| .rg (Zm 11 3 <|
 Zm 12 0 <|
 Zm 13 4 <|
 Zi 14 1 12 13 <|
 Zl 15 1 14 <|
 Zq 16 false 34 [.t 15] <|
 Zo (.bs 17 3 32 [.t 16]) <|
 Zo (.app 18 3 56 32 (.t 11) (.t 17)) <|
 Zm 3 18 .nil)) <| .rg (Zm 9 4 <|
 Zk 10 .add 9 1 <|
 Zm 4 10 .nil)) <| Zr (Zm 19 3 <|
 Zm 2 19 .nil) .ret⟩
theorem Qaeq : Qe Tryz.prog Tryz.f76 = some c76 := by kernel_rfl
def c15 : SFn := ⟨54, [.t 0], Zr (Zo (.mv 0 (.c (.bool false))) .nil) <| Zr (Zo (.bs 9 1 3 [.c (Zz 0), .c (Zz 1), .c (Zz 1), .c (Zz 0)]) <|
 Zq 10 false 76 [.t 9] <|
 Zq 11 false 21 [.c (Zz 2), .c (Zz 2), .t 10] <|
 Zm 8 11 <|
 Zo (.ext 12 (.t 8) 0) <|
 Zo (.ext 13 (.t 8) 1) <|
 Zo (.alloc 1 3 24 (.agg [Zz 0, Zz 0, .nilS])) <|
 Zs 3 1 12 <|
 Zm 2 13 .nil) <| Zr (Zh 15 3 1 <|
 Zq 16 false 16 [.t 15] <|
 Zm 14 16 <|
 Zo (.ext 17 (.t 14) 0) <|
 Zo (.ext 18 (.t 14) 1) <|
 Zo (.alloc 3 3 32 (.agg [.bool false, .nilS, .nilS])) <|
 Zs 3 3 17 <|
 Zm 4 18 .nil) <| Zr (Zh 20 3 1 <|
 Zq 21 false 29 [.t 20] <|
 Zm 19 21 <|
 Zo (.ext 22 (.t 19) 0) <|
 Zo (.ext 23 (.t 19) 1) <|
 Zo (.ext 24 (.t 19) 2) <|
 Zo (.alloc 6 3 24 (.agg [Zz 0, Zz 0, .nilS])) <|
 Zm 5 22 <|
 Zs 3 6 23 <|
 Zm 7 24 .nil) <| Zr (Zm 25 2 <|
 Zk 26 .eql 25 0 <|
 Zm 27 26 <|
 Zg 27 true (.mv 28 (.t 4)) <|
 Zg 27 true (.bin 29 .eql false (.t 28) (.c (Zz 0))) <|
 Zo (.pick 30 (.t 27) (.t 29) (.c (.bool false))) <|
 Zm 31 30 <|
 Zg 31 true (.mv 32 (.t 7)) <|
 Zg 31 true (.bin 33 .eql false (.t 32) (.c (Zz 0))) <|
 Zo (.pick 34 (.t 31) (.t 33) (.c (.bool false))) <|
 Zm 35 34 <|
 Zg 35 true (.ld 36 3 true (.t 3)) <|
 Zg 35 true (.call (some 37) true (.c (.fn 34 [] [])) [.c (Zz (-1))]) <|
 Zg 35 true (.call (some 38) true (.c (.fn 72 [] [])) [.t 36, .t 37]) <|
 Zo (.pick 39 (.t 35) (.t 38) (.c (.bool false))) <|
 Zm 40 39 <|
 Zg 40 true (.mv 41 (.t 5)) <|
 Zg 40 true (.call (some 42) true (.c (.fn 71 [] [])) [.c (Zz 1), .c (Zz 2)]) <|
 Zg 40 true (.call (some 43) true (.c (.fn 71 [] [])) [.c (Zz (-1)), .c (Zz 2)]) <|
 Zg 40 true (.bs 44 3 32 [.t 42, .t 43]) <|
 Zg 40 true (.call (some 45) true (.c (.fn 33 [] [])) [.t 41, .t 44]) <|
 Zo (.pick 46 (.t 40) (.t 45) (.c (.bool false))) <|
 Zm 47 46 <|
 Zg 47 true (.fld 48 2 (.t 6)) <|
 Zg 47 true (.ld 49 1 false (.t 48)) <|
 Zg 47 true (.bs 50 1 3 [.c (Zz 1), .c (Zz 1), .c (Zz (-1)), .c (Zz 1)]) <|
 Zg 47 true (.call (some 51) true (.c (.fn 76 [] [])) [.t 50]) <|
 Zg 47 true (.call (some 52) true (.c (.fn 33 [] [])) [.t 49, .t 51]) <|
 Zo (.pick 53 (.t 47) (.t 52) (.c (.bool false))) <|
 Zm 0 53 .nil) .ret⟩
theorem Qaer : Qe Tryz.prog Tryz.f15 = some c15 := by kernel_rfl
def c28 : SFn := ⟨33, [.t 4], Zr (Zo (.mv 4 (.c (.bool false))) .nil) <| .seq (Zr (Zm 6 0 <|
 Zn 7 6 <|
 Zm 8 1 <|
 Zb 9 .gtr 7 8 .nil) <| .cond (.t 9) (Zr (Zo (.mv 4 (.c (.bool false))) .nil) .ret) .skip) <| .seq (Zr (Zc 5 0 .nil) <| .block 0 <| .loop <| .seq (Zr (Zm 10 5 <|
 Zm 11 0 <|
 Zn 12 11 <|
 Zb 13 .lss 10 12 .nil) <| .cond (.t 13) .skip (.exit 0)) <| .seq (.block 1 <| Zr (Zm 16 0 <|
 Zm 17 5 <|
 Zi 18 3 16 17 <|
 Zf 19 0 18 <|
 Zf 20 1 19 <|
 Zl 21 1 20 <|
 Zn 22 21 <|
 Zk 23 .gtr 22 3 <|
 Zm 24 23 <|
 Zg 24 false (.mv 25 (.t 0)) <|
 Zg 24 false (.mv 26 (.t 5)) <|
 Zg 24 false (.idx 27 3 (.t 25) (.t 26)) <|
 Zg 24 false (.fld 28 2 (.t 27)) <|
 Zg 24 false (.ld 29 1 false (.t 28)) <|
 Zg 24 false (.len 30 (.t 29)) <|
 Zg 24 false (.bin 31 .gtr false (.t 30) (.c (Zz 3))) <|
 Zo (.pick 32 (.t 24) (.c (.bool true)) (.t 31)) .nil) <| .cond (.t 32) (Zr (Zo (.mv 4 (.c (.bool false))) .nil) .ret) .skip) <| .rg (Zm 14 5 <|
 Zk 15 .add 14 1 <|
 Zm 5 15 .nil)) <| Zr (Zo (.mv 4 (.c (.bool true))) .nil) .ret⟩
theorem Qaes : Qe Tryz.prog Tryz.f28 = some c28 := by kernel_rfl
def c14 : SFn := ⟨17, [.t 2], Zr (Zo (.mv 2 (.c (.bool false))) .nil) <| .seq (Zr (Zc 3 0 .nil) <| .block 0 <| .loop <| .seq (Zr (Zm 4 3 <|
 Zm 5 0 <|
 Zn 6 5 <|
 Zb 7 .lss 4 6 .nil) <| .cond (.t 7) .skip (.exit 0)) <| .seq (.block 1 <| Zr (Zm 10 0 <|
 Zm 11 3 <|
 Zi 12 3 10 11 <|
 Zf 13 2 12 <|
 Zl 14 1 13 <|
 Zq 15 false 28 [.t 14, .c (Zz 25)] <|
 Zu 16 15 .nil) <| .cond (.t 16) (Zr (Zo (.mv 2 (.c (.bool false))) .nil) .ret) .skip) <| .rg (Zm 8 3 <|
 Zk 9 .add 8 1 <|
 Zm 3 9 .nil)) <| Zr (Zo (.mv 2 (.c (.bool true))) .nil) .ret⟩
theorem Qaet : Qe Tryz.prog Tryz.f14 = some c14 := by kernel_rfl
def c4 : SFn := ⟨82, [.t 6], Zr (Zo (.box 3 3 24 (.t 0)) <|
 Zo (.mv 6 (.c (.bool false))) .nil) <| .seq (Zr (Zh 15 3 3 <|
 Zo (.bs 16 3 24 [.t 15]) <|
 Zq 17 false 14 [.t 16] <|
 Zu 18 17 .nil) <| .cond (.t 18) (Zr (Zq 19 false 15 [] <|
 Zm 6 19 .nil) .ret) .skip) <| Zr (Zf 21 0 3 <|
 Zl 22 1 21 <|
 Zf 23 1 3 <|
 Zl 24 1 23 <|
 Zf 25 2 3 <|
 Zl 26 1 25 <|
 Zq 27 false 21 [.t 22, .t 24, .t 26] <|
 Zm 20 27 <|
 Zo (.ext 28 (.t 20) 0) <|
 Zo (.ext 29 (.t 20) 1) <|
 Zo (.alloc 7 3 24 (.agg [Zz 0, Zz 0, .nilS])) <|
 Zs 3 7 28 <|
 Zm 8 29 .nil) <| Zr (Zf 31 0 3 <|
 Zl 32 1 31 <|
 Zf 33 1 3 <|
 Zl 34 1 33 <|
 Zf 35 2 3 <|
 Zl 36 1 35 <|
 Zq 37 false 22 [.t 32, .t 34, .t 36] <|
 Zm 30 37 <|
 Zo (.ext 38 (.t 30) 0) <|
 Zo (.ext 39 (.t 30) 1) <|
 Zo (.alloc 9 3 24 (.agg [Zz 0, Zz 0, .nilS])) <|
 Zs 3 9 38 <|
 Zm 10 39 .nil) <| Zr (Zh 41 3 3 <|
 Zm 42 1 <|
 Zm 43 2 <|
 Zq 44 false 23 [.t 41, .t 42, .t 43] <|
 Zm 40 44 <|
 Zo (.ext 45 (.t 40) 0) <|
 Zo (.ext 46 (.t 40) 1) <|
 Zo (.alloc 11 3 32 (.agg [.bool false, .nilS, .nilS])) <|
 Zs 3 11 45 <|
 Zm 12 46 .nil) <| Zr (Zh 48 3 3 <|
 Zm 49 1 <|
 Zm 50 2 <|
 Zq 51 false 24 [.t 48, .t 49, .t 50] <|
 Zm 47 51 <|
 Zo (.ext 52 (.t 47) 0) <|
 Zo (.ext 53 (.t 47) 1) <|
 Zo (.alloc 13 3 32 (.agg [.bool false, .nilS, .nilS])) <|
 Zs 3 13 52 <|
 Zm 14 53 .nil) <| Zr (Zh 54 3 3 <|
 Zh 56 3 3 <|
 Zq 55 true 25 [.t 54] <|
 Zq 57 true 26 [.t 56] <|
 Zo (.bin 58 .eql true (.t 55) (.t 57)) <|
 Zm 59 58 <|
 Zg 59 true (.ld 60 3 true (.t 7)) <|
 Zg 59 true (.ld 61 3 true (.t 9)) <|
 Zg 59 true (.call (some 62) true (.c (.fn 27 [] [])) [.t 60, .t 61]) <|
 Zo (.pick 63 (.t 59) (.t 62) (.c (.bool false))) <|
 Zm 64 63 <|
 Zg 64 true (.mv 65 (.t 8)) <|
 Zg 64 true (.mv 66 (.t 10)) <|
 Zg 64 true (.bin 67 .eql false (.t 65) (.t 66)) <|
 Zo (.pick 68 (.t 64) (.t 67) (.c (.bool false))) <|
 Zm 69 68 <|
 Zg 69 true (.ld 70 3 true (.t 11)) <|
 Zg 69 true (.ld 71 3 true (.t 13)) <|
 Zg 69 true (.call (some 72) true (.c (.fn 20 [] [])) [.t 70, .t 71]) <|
 Zo (.pick 73 (.t 69) (.t 72) (.c (.bool false))) <|
 Zm 74 73 <|
 Zg 74 true (.mv 75 (.t 12)) <|
 Zg 74 true (.mv 76 (.t 14)) <|
 Zg 74 true (.bin 77 .eql false (.t 75) (.t 76)) <|
 Zo (.pick 78 (.t 74) (.t 77) (.c (.bool false))) <|
 Zm 79 78 <|
 Zg 79 true (.call (some 80) true (.c (.fn 15 [] [])) []) <|
 Zo (.pick 81 (.t 79) (.t 80) (.c (.bool false))) <|
 Zm 6 81 .nil) .ret⟩
def c3 : SFn := ⟨57, [.t 2], Zr (Zo (.box 1 3 24 (.t 0)) <|
 Zo (.mv 2 (.c (.bool false))) .nil) <| .seq (Zr (Zh 11 3 1 <|
 Zo (.bs 12 3 24 [.t 11]) <|
 Zq 13 false 14 [.t 12] <|
 Zu 14 13 .nil) <| .cond (.t 14) (Zr (Zq 15 false 15 [] <|
 Zm 2 15 .nil) .ret) .skip) <| Zr (Zh 17 3 1 <|
 Zq 18 false 16 [.t 17] <|
 Zm 16 18 <|
 Zo (.ext 19 (.t 16) 0) <|
 Zo (.ext 20 (.t 16) 1) <|
 Zo (.alloc 3 3 32 (.agg [.bool false, .nilS, .nilS])) <|
 Zs 3 3 19 <|
 Zm 4 20 .nil) <| Zr (Zh 22 3 1 <|
 Zq 23 false 17 [.t 22] <|
 Zm 21 23 <|
 Zo (.ext 24 (.t 21) 0) <|
 Zo (.ext 25 (.t 21) 1) <|
 Zo (.alloc 5 3 32 (.agg [.bool false, .nilS, .nilS])) <|
 Zs 3 5 24 <|
 Zm 6 25 .nil) <| Zr (Zh 27 3 1 <|
 Zq 28 false 18 [.t 27] <|
 Zm 26 28 <|
 Zo (.ext 29 (.t 26) 0) <|
 Zo (.ext 30 (.t 26) 1) <|
 Zm 7 29 <|
 Zm 8 30 .nil) <| Zr (Zh 32 3 1 <|
 Zq 33 false 19 [.t 32] <|
 Zm 31 33 <|
 Zo (.ext 34 (.t 31) 0) <|
 Zo (.ext 35 (.t 31) 1) <|
 Zm 9 34 <|
 Zm 10 35 .nil) <| Zr (Zh 36 3 3 <|
 Zh 37 3 5 <|
 Zq 38 false 20 [.t 36, .t 37] <|
 Zm 39 38 <|
 Zg 39 true (.mv 40 (.t 4)) <|
 Zg 39 true (.mv 41 (.t 6)) <|
 Zg 39 true (.bin 42 .eql false (.t 40) (.t 41)) <|
 Zo (.pick 43 (.t 39) (.t 42) (.c (.bool false))) <|
 Zm 44 43 <|
 Zg 44 true (.mv 45 (.t 7)) <|
 Zg 44 true (.mv 46 (.t 9)) <|
 Zg 44 true (.bin 47 .eql false (.t 45) (.t 46)) <|
 Zo (.pick 48 (.t 44) (.t 47) (.c (.bool false))) <|
 Zm 49 48 <|
 Zg 49 true (.mv 50 (.t 8)) <|
 Zg 49 true (.mv 51 (.t 10)) <|
 Zg 49 true (.bin 52 .eql false (.t 50) (.t 51)) <|
 Zo (.pick 53 (.t 49) (.t 52) (.c (.bool false))) <|
 Zm 54 53 <|
 Zg 54 true (.call (some 55) false (.c (.fn 15 [] [])) []) <|
 Zo (.pick 56 (.t 54) (.t 55) (.c (.bool false))) <|
 Zm 2 56 .nil) .ret⟩
def c5 : SFn := ⟨75, [.t 4], Zr (Zo (.box 2 3 24 (.t 0)) <|
 Zo (.mv 4 (.c (.bool false))) .nil) <| .seq (Zr (Zh 15 3 2 <|
 Zo (.bs 16 3 24 [.t 15]) <|
 Zq 17 false 14 [.t 16] <|
 Zu 18 17 <|
 Zm 19 18 <|
 Zg 19 false (.mv 20 (.t 1)) <|
 Zg 19 false (.call (some 21) false (.c (.fn 28 [] [])) [.t 20, .c (Zz 8)]) <|
 Zg 19 false (.un 22 .not (.t 21)) <|
 Zo (.pick 23 (.t 19) (.c (.bool true)) (.t 22)) .nil) <| .cond (.t 23) (Zr (Zq 24 false 15 [] <|
 Zm 4 24 .nil) .ret) .skip) <| Zr (Zh 26 3 2 <|
 Zq 27 false 29 [.t 26] <|
 Zm 25 27 <|
 Zo (.ext 28 (.t 25) 0) <|
 Zo (.ext 29 (.t 25) 1) <|
 Zo (.ext 30 (.t 25) 2) <|
 Zo (.alloc 6 3 24 (.agg [Zz 0, Zz 0, .nilS])) <|
 Zm 5 28 <|
 Zs 3 6 29 <|
 Zm 7 30 .nil) <| Zr (Zh 32 3 2 <|
 Zq 33 false 30 [.t 32] <|
 Zm 31 33 <|
 Zo (.ext 34 (.t 31) 0) <|
 Zo (.ext 35 (.t 31) 1) <|
 Zo (.ext 36 (.t 31) 2) <|
 Zo (.alloc 9 3 24 (.agg [Zz 0, Zz 0, .nilS])) <|
 Zm 8 34 <|
 Zs 3 9 35 <|
 Zm 10 36 .nil) <| Zr (Zh 38 3 2 <|
 Zm 39 1 <|
 Zq 40 false 31 [.t 38, .t 39] <|
 Zm 37 40 <|
 Zo (.ext 41 (.t 37) 0) <|
 Zo (.ext 42 (.t 37) 1) <|
 Zo (.alloc 11 3 32 (.agg [.bool false, .nilS, .nilS])) <|
 Zs 3 11 41 <|
 Zm 12 42 .nil) <| Zr (Zh 44 3 2 <|
 Zm 45 1 <|
 Zq 46 false 32 [.t 44, .t 45] <|
 Zm 43 46 <|
 Zo (.ext 47 (.t 43) 0) <|
 Zo (.ext 48 (.t 43) 1) <|
 Zo (.alloc 13 3 32 (.agg [.bool false, .nilS, .nilS])) <|
 Zs 3 13 47 <|
 Zm 14 48 .nil) <| Zr (Zm 49 5 <|
 Zm 50 8 <|
 Zq 51 false 33 [.t 49, .t 50] <|
 Zm 52 51 <|
 Zg 52 true (.ld 53 3 true (.t 6)) <|
 Zg 52 true (.ld 54 3 true (.t 9)) <|
 Zg 52 true (.call (some 55) false (.c (.fn 27 [] [])) [.t 53, .t 54]) <|
 Zo (.pick 56 (.t 52) (.t 55) (.c (.bool false))) <|
 Zm 57 56 <|
 Zg 57 true (.mv 58 (.t 7)) <|
 Zg 57 true (.mv 59 (.t 10)) <|
 Zg 57 true (.bin 60 .eql false (.t 58) (.t 59)) <|
 Zo (.pick 61 (.t 57) (.t 60) (.c (.bool false))) <|
 Zm 62 61 <|
 Zg 62 true (.ld 63 3 true (.t 11)) <|
 Zg 62 true (.ld 64 3 true (.t 13)) <|
 Zg 62 true (.call (some 65) false (.c (.fn 20 [] [])) [.t 63, .t 64]) <|
 Zo (.pick 66 (.t 62) (.t 65) (.c (.bool false))) <|
 Zm 67 66 <|
 Zg 67 true (.mv 68 (.t 12)) <|
 Zg 67 true (.mv 69 (.t 14)) <|
 Zg 67 true (.bin 70 .eql false (.t 68) (.t 69)) <|
 Zo (.pick 71 (.t 67) (.t 70) (.c (.bool false))) <|
 Zm 72 71 <|
 Zg 72 true (.call (some 73) false (.c (.fn 15 [] [])) []) <|
 Zo (.pick 74 (.t 72) (.t 73) (.c (.bool false))) <|
 Zm 4 74 .nil) .ret⟩
def c11 : SFn := ⟨142, [.t 4], Zr (Zo (.box 2 3 24 (.t 0)) <|
 Zo (.box 3 3 24 (.t 1)) <|
 Zo (.mv 4 (.c (.bool false))) .nil) <| .seq (Zr (Zh 17 3 2 <|
 Zh 18 3 3 <|
 Zo (.bs 19 3 24 [.t 17, .t 18]) <|
 Zq 20 false 14 [.t 19] <|
 Zu 21 20 <|
 Zm 22 21 <|
 Zg 22 false (.ld 23 3 true (.t 2)) <|
 Zg 22 false (.call (some 24) false (.c (.fn 26 [] [])) [.t 23]) <|
 Zg 22 false (.un 25 .not (.t 24)) <|
 Zo (.pick 26 (.t 22) (.c (.bool true)) (.t 25)) <|
 Zm 27 26 <|
 Zg 27 false (.ld 28 3 true (.t 3)) <|
 Zg 27 false (.call (some 29) false (.c (.fn 26 [] [])) [.t 28]) <|
 Zg 27 false (.un 30 .not (.t 29)) <|
 Zo (.pick 31 (.t 27) (.c (.bool true)) (.t 30)) .nil) <| .cond (.t 31) (Zr (Zq 32 false 15 [] <|
 Zm 4 32 .nil) .ret) .skip) <| Zr (Zh 34 3 2 <|
 Zq 35 false 46 [.t 34] <|
 Zm 33 35 <|
 Zo (.ext 36 (.t 33) 0) <|
 Zo (.ext 37 (.t 33) 1) <|
 Zo (.alloc 5 3 24 (.agg [Zz 0, Zz 0, .nilS])) <|
 Zs 3 5 36 <|
 Zm 6 37 .nil) <| Zr (Zh 39 3 2 <|
 Zq 40 false 18 [.t 39] <|
 Zm 38 40 <|
 Zo (.ext 41 (.t 38) 0) <|
 Zo (.ext 42 (.t 38) 1) <|
 Zm 7 41 <|
 Zm 8 42 .nil) <| Zr (Zh 44 3 5 <|
 Zq 45 false 18 [.t 44] <|
 Zm 43 45 <|
 Zo (.ext 46 (.t 43) 0) <|
 Zo (.ext 47 (.t 43) 1) <|
 Zm 9 46 <|
 Zm 10 47 .nil) <| Zr (Zh 49 3 2 <|
 Zq 50 false 42 [.t 49] <|
 Zm 48 50 <|
 Zo (.ext 51 (.t 48) 0) <|
 Zo (.ext 52 (.t 48) 1) <|
 Zm 11 51 <|
 Zm 12 52 .nil) <| .seq (Zr (Zm 53 6 <|
 Zk 54 .neq 53 0 <|
 Zm 55 54 <|
 Zg 55 false (.mv 56 (.t 8)) <|
 Zg 55 false (.bin 57 .neq false (.t 56) (.c (Zz 0))) <|
 Zo (.pick 58 (.t 55) (.c (.bool true)) (.t 57)) <|
 Zm 59 58 <|
 Zg 59 false (.mv 60 (.t 10)) <|
 Zg 59 false (.bin 61 .neq false (.t 60) (.c (Zz 0))) <|
 Zo (.pick 62 (.t 59) (.c (.bool true)) (.t 61)) <|
 Zm 63 62 <|
 Zg 63 false (.mv 64 (.t 12)) <|
 Zg 63 false (.bin 65 .neq false (.t 64) (.c (Zz 0))) <|
 Zo (.pick 66 (.t 63) (.c (.bool true)) (.t 65)) <|
 Zm 67 66 <|
 Zg 67 false (.mv 68 (.t 7)) <|
 Zg 67 false (.mv 69 (.t 9)) <|
 Zg 67 false (.bin 70 .neq false (.t 68) (.t 69)) <|
 Zo (.pick 71 (.t 67) (.c (.bool true)) (.t 70)) <|
 Zm 72 71 <|
 Zg 72 false (.mv 73 (.t 7)) <|
 Zg 72 false (.mv 74 (.t 11)) <|
 Zg 72 false (.len 75 (.t 74)) <|
 Zg 72 false (.bin 76 .add false (.t 73) (.t 75)) <|
 Zg 72 false (.fld 77 1 (.t 2)) <|
 Zg 72 false (.ld 78 1 false (.t 77)) <|
 Zg 72 false (.bin 79 .neq false (.t 76) (.t 78)) <|
 Zo (.pick 80 (.t 72) (.c (.bool true)) (.t 79)) .nil) <| .cond (.t 80) (Zr (Zo (.mv 4 (.c (.bool false))) .nil) .ret) .skip) <| Zr (Zh 82 3 2 <|
 Zq 83 false 16 [.t 82] <|
 Zm 81 83 <|
 Zo (.ext 84 (.t 81) 0) <|
 Zo (.ext 85 (.t 81) 1) <|
 Zo (.alloc 13 3 32 (.agg [.bool false, .nilS, .nilS])) <|
 Zs 3 13 84 <|
 Zm 6 85 .nil) <| Zr (Zh 87 3 3 <|
 Zq 88 false 16 [.t 87] <|
 Zm 86 88 <|
 Zo (.ext 89 (.t 86) 0) <|
 Zo (.ext 90 (.t 86) 1) <|
 Zo (.alloc 14 3 32 (.agg [.bool false, .nilS, .nilS])) <|
 Zs 3 14 89 <|
 Zm 8 90 .nil) <| .seq (Zr (Zm 91 6 <|
 Zk 92 .neq 91 0 <|
 Zm 93 92 <|
 Zg 93 false (.mv 94 (.t 8)) <|
 Zg 93 false (.bin 95 .neq false (.t 94) (.c (Zz 0))) <|
 Zo (.pick 96 (.t 93) (.c (.bool true)) (.t 95)) <|
 Zm 97 96 <|
 Zg 97 false (.fld 98 0 (.t 2)) <|
 Zg 97 false (.ld 99 1 false (.t 98)) <|
 Zg 97 false (.fld 100 0 (.t 3)) <|
 Zg 97 false (.ld 101 1 false (.t 100)) <|
 Zg 97 false (.bin 102 .neq false (.t 99) (.t 101)) <|
 Zo (.pick 103 (.t 97) (.c (.bool true)) (.t 102)) .nil) <| .cond (.t 103) (Zr (Zq 104 false 15 [] <|
 Zm 4 104 .nil) .ret) .skip) <| Zr (Zh 106 3 2 <|
 Zh 107 3 3 <|
 Zq 108 false 48 [.t 106, .t 107] <|
 Zm 105 108 <|
 Zo (.ext 109 (.t 105) 0) <|
 Zo (.ext 110 (.t 105) 1) <|
 Zo (.alloc 15 3 24 (.agg [Zz 0, Zz 0, .nilS])) <|
 Zs 3 15 109 <|
 Zm 10 110 .nil) <| Zr (Zh 112 3 15 <|
 Zq 113 false 16 [.t 112] <|
 Zm 111 113 <|
 Zo (.ext 114 (.t 111) 0) <|
 Zo (.ext 115 (.t 111) 1) <|
 Zo (.alloc 16 3 32 (.agg [.bool false, .nilS, .nilS])) <|
 Zs 3 16 114 <|
 Zm 12 115 .nil) <| Zr (Zm 116 10 <|
 Zk 117 .eql 116 0 <|
 Zm 118 117 <|
 Zg 118 true (.mv 119 (.t 12)) <|
 Zg 118 true (.bin 120 .eql false (.t 119) (.c (Zz 0))) <|
 Zo (.pick 121 (.t 118) (.t 120) (.c (.bool false))) <|
 Zm 122 121 <|
 Zg 122 true (.ld 123 3 true (.t 16)) <|
 Zg 122 true (.ld 124 3 true (.t 13)) <|
 Zg 122 true (.ld 125 3 true (.t 14)) <|
 Zg 122 true (.call (some 126) true (.c (.fn 38 [] [])) [.t 124, .t 125]) <|
 Zg 122 true (.call (some 127) true (.c (.fn 39 [] [])) [.t 123, .t 126]) <|
 Zo (.pick 128 (.t 122) (.t 127) (.c (.bool false))) <|
 Zm 129 128 <|
 Zg 129 true (.ld 130 3 true (.t 13)) <|
 Zg 129 true (.mv 133 (.t 7)) <|
 Zg 129 true (.fld 134 0 (.t 2)) <|
 Zg 129 true (.ld 135 1 false (.t 134)) <|
 Zg 129 true (.bin 136 .eql false (.t 133) (.t 135)) <|
 Zg 129 true (.call (some 131) true (.c (.fn 36 [] [])) [.t 130]) <|
 Zg 129 true (.bin 132 .neq false (.t 131) (.c (Zz 0))) <|
 Zg 129 true (.bin 137 .eql true (.t 132) (.t 136)) <|
 Zo (.pick 138 (.t 129) (.t 137) (.c (.bool false))) <|
 Zm 139 138 <|
 Zg 139 true (.call (some 140) true (.c (.fn 15 [] [])) []) <|
 Zo (.pick 141 (.t 139) (.t 140) (.c (.bool false))) <|
 Zm 4 141 .nil) .ret⟩
theorem Qnt : Qe Tryz.prog Tryz.f11 = some c11 := by kernel_rfl
def c6 : SFn := ⟨154, [.t 4], Zr (Zo (.box 2 3 24 (.t 0)) <|
 Zo (.mv 4 (.c (.bool false))) .nil) <| .seq (Zr (Zh 16 3 2 <|
 Zo (.bs 17 3 24 [.t 16]) <|
 Zq 18 false 14 [.t 17] <|
 Zu 19 18 <|
 Zm 20 19 <|
 Zg 20 false (.ld 21 3 true (.t 2)) <|
 Zg 20 false (.call (some 22) false (.c (.fn 26 [] [])) [.t 21]) <|
 Zg 20 false (.un 23 .not (.t 22)) <|
 Zo (.pick 24 (.t 20) (.c (.bool true)) (.t 23)) <|
 Zm 25 24 <|
 Zg 25 false (.mv 26 (.t 1)) <|
 Zg 25 false (.call (some 27) false (.c (.fn 28 [] [])) [.t 26, .c (Zz 8)]) <|
 Zg 25 false (.un 28 .not (.t 27)) <|
 Zo (.pick 29 (.t 25) (.c (.bool true)) (.t 28)) <|
 Zm 30 29 <|
 Zg 30 false (.mv 31 (.t 1)) <|
 Zg 30 false (.len 32 (.t 31)) <|
 Zg 30 false (.fld 33 1 (.t 2)) <|
 Zg 30 false (.ld 34 1 false (.t 33)) <|
 Zg 30 false (.bin 35 .neq false (.t 32) (.t 34)) <|
 Zo (.pick 36 (.t 30) (.c (.bool true)) (.t 35)) .nil) <| .cond (.t 36) (Zr (Zq 37 false 15 [] <|
 Zm 4 37 .nil) .ret) .skip) <| Zr (Zh 39 3 2 <|
 Zq 40 false 29 [.t 39] <|
 Zm 38 40 <|
 Zo (.ext 41 (.t 38) 0) <|
 Zo (.ext 42 (.t 38) 1) <|
 Zo (.ext 43 (.t 38) 2) <|
 Zo (.alloc 6 3 24 (.agg [Zz 0, Zz 0, .nilS])) <|
 Zm 5 41 <|
 Zs 3 6 42 <|
 Zm 7 43 .nil) <| .seq (Zr (Zm 44 7 <|
 Zk 45 .neq 44 0 .nil) <| .cond (.t 45) (Zr (Zm 46 5 <|
 Zn 47 46 <|
 Zk 48 .eql 47 0 <|
 Zm 49 48 <|
 Zg 49 true (.call (some 50) false (.c (.fn 15 [] [])) []) <|
 Zo (.pick 51 (.t 49) (.t 50) (.c (.bool false))) <|
 Zm 4 51 .nil) .ret) .skip) <| Zr (Zh 53 3 2 <|
 Zq 54 false 18 [.t 53] <|
 Zm 52 54 <|
 Zo (.ext 55 (.t 52) 0) <|
 Zo (.ext 56 (.t 52) 1) <|
 Zm 8 55 <|
 Zm 9 56 .nil) <| Zr (Zh 58 3 2 <|
 Zm 59 1 <|
 Zq 60 false 31 [.t 58, .t 59] <|
 Zm 57 60 <|
 Zo (.ext 61 (.t 57) 0) <|
 Zo (.ext 62 (.t 57) 1) <|
 Zo (.alloc 10 3 32 (.agg [.bool false, .nilS, .nilS])) <|
 Zs 3 10 61 <|
 Zm 11 62 .nil) <| .seq (Zr (Zm 63 11 <|
 Zk 64 .eql 63 1 .nil) <| .cond (.t 64) (Zr (Zq 65 false 15 [] <|
 Zm 4 65 .nil) .ret) .skip) <| .seq (Zr (Zm 66 9 <|
 Zk 67 .neq 66 0 <|
 Zm 68 67 <|
 Zg 68 false (.mv 69 (.t 11)) <|
 Zg 68 false (.bin 70 .neq false (.t 69) (.c (Zz 0))) <|
 Zo (.pick 71 (.t 68) (.c (.bool true)) (.t 70)) <|
 Zm 72 71 <|
 Zg 72 false (.mv 73 (.t 5)) <|
 Zg 72 false (.len 74 (.t 73)) <|
 Zg 72 false (.mv 75 (.t 8)) <|
 Zg 72 false (.bin 76 .neq false (.t 74) (.t 75)) <|
 Zo (.pick 77 (.t 72) (.c (.bool true)) (.t 76)) <|
 Zm 78 77 <|
 Zg 78 false (.fld 79 0 (.t 6)) <|
 Zg 78 false (.ld 80 1 false (.t 79)) <|
 Zg 78 false (.mv 81 (.t 8)) <|
 Zg 78 false (.bin 82 .neq false (.t 80) (.t 81)) <|
 Zo (.pick 83 (.t 78) (.c (.bool true)) (.t 82)) <|
 Zm 84 83 <|
 Zg 84 false (.fld 85 1 (.t 6)) <|
 Zg 84 false (.ld 86 1 false (.t 85)) <|
 Zg 84 false (.fld 87 1 (.t 2)) <|
 Zg 84 false (.ld 88 1 false (.t 87)) <|
 Zg 84 false (.bin 89 .neq false (.t 86) (.t 88)) <|
 Zo (.pick 90 (.t 84) (.c (.bool true)) (.t 89)) <|
 Zm 91 90 <|
 Zg 91 false (.ld 92 3 true (.t 6)) <|
 Zg 91 false (.call (some 93) false (.c (.fn 26 [] [])) [.t 92]) <|
 Zg 91 false (.un 94 .not (.t 93)) <|
 Zo (.pick 95 (.t 91) (.c (.bool true)) (.t 94)) .nil) <| .cond (.t 95) (Zr (Zo (.mv 4 (.c (.bool false))) .nil) .ret) .skip) <| Zr (Zq 96 false 34 [.c (Zz 0)] <|
 Zq 97 false 34 [.c (Zz 0)] <|
 Zo (.alloc 12 3 32 (.agg [.bool false, .nilS, .nilS])) <|
 Zo (.alloc 13 3 32 (.agg [.bool false, .nilS, .nilS])) <|
 Zs 3 12 96 <|
 Zs 3 13 97 .nil) <| Zr (Zh 98 3 6 <|
 Zm 99 1 <|
 Zq 100 false 35 [.t 98, .t 99] <|
 Zm 14 100 .nil) <| .seq (Zr (Zc 15 0 .nil) <| .block 0 <| .loop <| .seq (Zr (Zm 101 15 <|
 Zm 102 8 <|
 Zb 103 .lss 101 102 .nil) <| .cond (.t 103) .skip (.exit 0)) <| .seq (.block 1 <| .seq (Zr (Zm 106 5 <|
 Zm 107 15 <|
 Zi 108 3 106 107 <|
 Zh 109 3 108 <|
 Zq 110 false 36 [.t 109] <|
 Zk 111 .eql 110 0 .nil) <| .cond (.t 111) (Zr (Zo (.mv 4 (.c (.bool false))) .nil) .ret) .skip) <| .seq (Zr (Zm 112 5 <|
 Zm 113 15 <|
 Zi 114 3 112 113 <|
 Zh 115 3 114 <|
 Zq 116 false 36 [.t 115] <|
 Zk 117 .lss 116 0 .nil) <| .cond (.t 117) (.rg (Zm 118 5 <|
 Zm 119 15 <|
 Zi 120 3 118 119 <|
 Zh 121 3 120 <|
 Zs 3 13 121 .nil)) .skip) <| .rg (Zh 122 3 12 <|
 Zm 123 5 <|
 Zm 124 15 <|
 Zi 125 3 123 124 <|
 Zh 126 3 125 <|
 Zm 127 14 <|
 Zm 128 15 <|
 Zi 129 3 127 128 <|
 Zh 130 3 129 <|
 Zm 131 14 <|
 Zm 132 15 <|
 Zi 133 3 131 132 <|
 Zh 134 3 133 <|
 Zq 135 true 38 [.t 130, .t 134] <|
 Zq 136 true 38 [.t 126, .t 135] <|
 Zq 137 true 37 [.t 122, .t 136] <|
 Zs 3 12 137 .nil)) <| .rg (Zm 104 15 <|
 Zk 105 .add 104 1 <|
 Zm 15 105 .nil)) <| Zr (Zh 138 3 12 <|
 Zh 139 3 10 <|
 Zq 140 false 39 [.t 138, .t 139] <|
 Zm 141 140 <|
 Zg 141 true (.ld 142 3 true (.t 10)) <|
 Zg 141 true (.call (some 143) false (.c (.fn 36 [] [])) [.t 142]) <|
 Zg 141 true (.bin 144 .geq false (.t 143) (.c (Zz 0))) <|
 Zg 141 true (.mv 145 (.t 144)) <|
 Zg 145 false (.ld 146 3 true (.t 13)) <|
 Zg 145 false (.call (some 147) false (.c (.fn 36 [] [])) [.t 146]) <|
 Zg 145 false (.bin 148 .lss false (.t 147) (.c (Zz 0))) <|
 Zg 141 true (.pick 149 (.t 145) (.c (.bool true)) (.t 148)) <|
 Zo (.pick 150 (.t 141) (.t 149) (.c (.bool false))) <|
 Zm 151 150 <|
 Zg 151 true (.call (some 152) false (.c (.fn 15 [] [])) []) <|
 Zo (.pick 153 (.t 151) (.t 152) (.c (.bool false))) <|
 Zm 4 153 .nil) .ret⟩
def c78 : SFn := ⟨38, [.t 2], Zr (Zo (.box 1 3 24 (.t 0)) <|
 Zo (.mv 2 (.c .nilS)) .nil) <| Zr (Zf 5 0 1 <|
 Zl 6 1 5 <|
 Zo (.mk 7 1 24 22 .nilS (.t 6) (.t 6)) <|
 .wk <| .wk <| Zm 3 7 .nil) <| .seq (Zr (Zf 8 0 1 <|
 Zl 9 1 8 <|
 Zc 10 0 .nil) <| .block 0 <| .loop <| Zr (Zb 11 .lss 10 9 .nil) <| .seq (.cond (.t 11) .skip (.exit 0)) <| .seq (.block 1 <| Zr (Zm 12 10 <|
 Zm 4 12 .nil) <| Zr (Zm 13 3 <|
 Zm 14 4 <|
 Zf 15 1 1 <|
 Zl 16 1 15 <|
 Zo (.mk 17 3 56 32 (.agg [.bool false, .nilS, .nilS]) (.t 16) (.t 16)) <|
 .wk <| Zi 18 1 13 14 <|
 Zs 1 18 17 .nil) <| .rg (Zm 19 3 <|
 Zm 20 4 <|
 Zi 21 1 19 20 <|
 Zl 22 1 21 <|
 Zf 23 2 1 <|
 Zl 24 1 23 <|
 Zm 25 4 <|
 Zf 26 1 1 <|
 Zl 27 1 26 <|
 Zb 28 .mul 25 27 <|
 Zm 29 4 <|
 Zk 30 .add 29 1 <|
 Zf 31 1 1 <|
 Zl 32 1 31 <|
 Zb 33 .mul 30 32 <|
 Zo (.sl 34 3 (.t 24) (some (.t 28)) (some (.t 33)) none) <|
 Zo (.cpy 35 3 (.t 22) (.t 34)) .nil)) <| .rg (Zk 36 .add 10 1 <|
 Zm 10 36 .nil)) <| Zr (Zm 37 3 <|
 Zm 2 37 .nil) .ret⟩
theorem Q2t : Qe Tryz.prog Tryz.f78 = some c78.strip := by kernel_rfl
def c94 : SFn := ⟨30, [], Zr (Zo (.box 5 3 32 (.t 2)) .nil) <| .seq (Zr (Zh 7 3 5 <|
 Zq 8 false 36 [.t 7] <|
 Zk 9 .eql 8 0 .nil) <| .cond (.t 9) .ret .skip) <| Zr (Zm 10 0 <|
 Zn 11 10 <|
 Zc 12 0 .nil) <| .block 0 <| .loop <| Zr (Zb 13 .lss 12 11 .nil) <| .seq (.cond (.t 13) .skip (.exit 0)) <| .seq (.block 1 <| Zr (Zm 14 12 <|
 Zm 6 14 .nil) <| .rg (Zm 15 0 <|
 Zm 16 6 <|
 Zm 17 0 <|
 Zm 18 6 <|
 Zi 19 3 17 18 <|
 Zh 20 3 19 <|
 Zh 21 3 5 <|
 Zm 22 1 <|
 Zm 23 6 <|
 Zi 24 3 22 23 <|
 Zh 25 3 24 <|
 Zq 26 true 38 [.t 21, .t 25] <|
 Zq 27 true 165 [.t 20, .t 26] <|
 Zi 28 3 15 16 <|
 Zs 3 28 27 .nil)) <| .rg (Zk 29 .add 12 1 <|
 Zm 12 29 .nil)⟩
theorem Q2u : Qe Tryz.prog Tryz.f94 = some c94.strip := by kernel_rfl
def Qvp : SFn := ⟨33, [.t 6], Zr (Zo (.box 5 3 32 (.t 2)) <|
 Zo (.mv 6 (.c .nilS)) .nil) <| Zr (Zm 9 0 <|
 Zn 10 9 <|
 Zo (.mk 11 3 56 32 (.agg [.bool false, .nilS, .nilS]) (.t 10) (.t 10)) <|
 Zm 7 11 .nil) <| .seq (Zr (Zm 12 0 <|
 Zn 13 12 <|
 Zc 14 0 .nil) <| .block 0 <| .loop <| Zr (Zb 15 .lss 14 13 .nil) <| .seq (.cond (.t 15) .skip (.exit 0)) <| .seq (.block 1 <| Zr (Zm 16 14 <|
 Zm 8 16 .nil) <| .rg (Zm 17 7 <|
 Zm 18 8 <|
 Zm 19 0 <|
 Zm 20 8 <|
 Zi 21 3 19 20 <|
 Zh 22 3 21 <|
 Zh 23 3 5 <|
 Zm 24 1 <|
 Zm 25 8 <|
 Zi 26 3 24 25 <|
 Zh 27 3 26 <|
 Zq 28 true 38 [.t 23, .t 27] <|
 Zq 29 true 37 [.t 22, .t 28] <|
 Zi 30 3 17 18 <|
 Zs 3 30 29 .nil)) <| .rg (Zk 31 .add 14 1 <|
 Zm 14 31 .nil)) <| Zr (Zm 32 7 <|
 Zm 6 32 .nil) .ret⟩
theorem Qxu : Qe Tryz.prog Tryz.f164 = some Qvp.strip := by kernel_rfl
def c92 : SFn := ⟨32, [.t 2], Zr (Zo (.mv 2 (.c (.bool false))) .nil) <| .seq (Zr (Zm 5 0 <|
 Zn 6 5 <|
 Zc 7 0 .nil) <| .block 0 <| .loop <| Zr (Zb 8 .lss 7 6 .nil) <| .seq (.cond (.t 8) .skip (.exit 0)) <| .seq (.block 1 <| Zr (Zm 9 7 <|
 Zm 3 9 .nil) <| Zr (Zm 10 3 <|
 Zc 11 0 .nil) <| .block 2 <| .loop <| Zr (Zb 12 .lss 11 10 .nil) <| .seq (.cond (.t 12) .skip (.exit 2)) <| .seq (.block 3 <| Zr (Zm 13 11 <|
 Zm 4 13 .nil) <| Zr (Zm 14 0 <|
 Zm 15 3 <|
 Zi 16 1 14 15 <|
 Zl 17 1 16 <|
 Zm 18 4 <|
 Zi 19 3 17 18 <|
 Zh 20 3 19 <|
 Zm 21 0 <|
 Zm 22 4 <|
 Zi 23 1 21 22 <|
 Zl 24 1 23 <|
 Zm 25 3 <|
 Zi 26 3 24 25 <|
 Zh 27 3 26 <|
 Zq 28 false 39 [.t 20, .t 27] <|
 Zu 29 28 .nil) <| .cond (.t 29) (Zr (Zo (.mv 2 (.c (.bool false))) .nil) .ret) .skip) <| .rg (Zk 30 .add 11 1 <|
 Zm 11 30 .nil)) <| .rg (Zk 31 .add 7 1 <|
 Zm 7 31 .nil)) <| Zr (Zo (.mv 2 (.c (.bool true))) .nil) .ret⟩
theorem Qaeu : Qe Tryz.prog Tryz.f92 = some c92.strip := by kernel_rfl
def c93 : SFn := ⟨102, [.t 2], Zr (Zo (.mv 2 (.c .nilS)) .nil) <| Zr (Zq 13 false 79 [.c (Zz 1)] <|
 Zo (.alloc 3 3 32 (.agg [.bool false, .nilS, .nilS])) <|
 Zs 3 3 13 .nil) <| .seq (Zr (Zm 14 0 <|
 Zn 15 14 <|
 Zc 16 0 .nil) <| .block 0 <| .loop <| Zr (Zb 17 .lss 16 15 .nil) <| .seq (.cond (.t 17) .skip (.exit 0)) <| .seq (.block 1 <| Zr (Zm 18 16 <|
 Zm 4 18 .nil) <| Zr (Zm 19 0 <|
 Zm 20 4 <|
 Zi 21 1 19 20 <|
 Zl 22 1 21 <|
 Zm 23 4 <|
 Zi 24 3 22 23 <|
 Zh 25 3 24 <|
 Zo (.alloc 5 3 32 (.agg [.bool false, .nilS, .nilS])) <|
 Zs 3 5 25 .nil) <| Zr (Zh 26 3 5 <|
 Zq 27 false 36 [.t 26] <|
 Zk 28 .neq 27 0 .nil) <| .cond (.t 28) (Zr (Zh 30 3 3 <|
 Zh 31 3 5 <|
 Zq 32 false 139 [.t 30, .t 31] <|
 Zm 29 32 <|
 Zo (.ext 33 (.t 29) 0) <|
 Zo (.ext 34 (.t 29) 1) <|
 Zo (.alloc 6 3 32 (.agg [.bool false, .nilS, .nilS])) <|
 Zs 3 6 33 <|
 Zm 7 34 .nil) <| Zr (Zh 35 3 5 <|
 Zm 36 0 <|
 Zn 37 36 <|
 Zm 39 0 <|
 Zm 40 4 <|
 Zi 41 1 39 40 <|
 Zl 42 1 41 <|
 Zh 43 3 6 <|
 Zq 38 true 116 [.t 37] <|
 Zq 44 true 164 [.t 38, .t 42, .t 43] <|
 Zo (.bld 45 [.bool false, .nilS, .nilS, .nilS] [(0, 3, .t 35), (3, 1, .t 44)]) <|
 Zo (.bs 46 4 109 [.t 45]) <|
 Zm 2 46 .nil) .ret) .skip) <| .rg (Zk 47 .add 16 1 <|
 Zm 16 47 .nil)) <| .seq (Zr (Zm 48 0 <|
 Zn 49 48 <|
 Zc 50 0 .nil) <| .block 2 <| .loop <| Zr (Zb 51 .lss 50 49 .nil) <| .seq (.cond (.t 51) .skip (.exit 2)) <| .seq (.block 3 <| Zr (Zm 52 50 <|
 Zm 8 52 .nil) <| Zr (Zm 53 0 <|
 Zm 54 8 <|
 Zi 55 1 53 54 <|
 Zl 56 1 55 <|
 Zn 57 56 <|
 Zc 58 0 .nil) <| .block 4 <| .loop <| Zr (Zb 59 .lss 58 57 .nil) <| .seq (.cond (.t 59) .skip (.exit 4)) <| .seq (.block 5 <| Zr (Zm 60 58 <|
 Zi 61 3 56 58 <|
 Zh 62 3 61 <|
 Zo (.alloc 10 3 32 (.agg [.bool false, .nilS, .nilS])) <|
 Zm 9 60 <|
 Zs 3 10 62 .nil) <| Zr (Zh 63 3 10 <|
 Zq 64 false 36 [.t 63] <|
 Zk 65 .neq 64 0 .nil) <| .cond (.t 65) (Zr (Zh 67 3 3 <|
 Zh 68 3 10 <|
 Zh 69 3 10 <|
 .br (Zq 70 true 37 [.t 68, .t 69] <|
 .br (Zq 71 true 139 [.t 67, .t 70] <|
 Zm 66 71 <|
 Zo (.ext 72 (.t 66) 0) <|
 Zo (.ext 73 (.t 66) 1) <|
 Zo (.alloc 11 3 32 (.agg [.bool false, .nilS, .nilS])) <|
 Zs 3 11 72 <|
 Zm 12 73 .nil) (Zo (.alloc 11 3 32 (.agg [.bool false, .nilS, .nilS])) <|
 Zq 71 true 139 [.t 67, .t 70] <|
 Zm 66 71 <|
 Zo (.ext 72 (.t 66) 0) <|
 Zo (.ext 73 (.t 66) 1) <|
 Zs 3 11 72 <|
 Zm 12 73 .nil)) (Zo (.alloc 11 3 32 (.agg [.bool false, .nilS, .nilS])) <|
 Zq 70 true 37 [.t 68, .t 69] <|
 Zq 71 true 139 [.t 67, .t 70] <|
 Zm 66 71 <|
 Zo (.ext 72 (.t 66) 0) <|
 Zo (.ext 73 (.t 66) 1) <|
 Zs 3 11 72 <|
 Zm 12 73 .nil)) <| Zr (Zh 74 3 11 <|
 Zm 75 0 <|
 Zm 76 8 <|
 Zi 77 1 75 76 <|
 Zl 78 1 77 <|
 Zm 79 0 <|
 Zm 80 9 <|
 Zi 81 1 79 80 <|
 Zl 82 1 81 <|
 Zh 83 3 3 <|
 Zh 86 3 11 <|
 Zm 88 0 <|
 Zm 89 8 <|
 Zi 90 1 88 89 <|
 Zl 91 1 90 <|
 Zm 92 0 <|
 Zm 93 9 <|
 Zi 94 1 92 93 <|
 Zl 95 1 94 <|
 Zq 84 true 164 [.t 78, .t 82, .t 83] <|
 Zo (.bld 85 [.bool false, .nilS, .nilS, .nilS] [(0, 3, .t 74), (3, 1, .t 84)]) <|
 Zq 87 true 117 [.t 86] <|
 Zq 96 true 79 [.c (Zz (-1))] <|
 Zq 97 true 164 [.t 91, .t 95, .t 96] <|
 Zo (.bld 98 [.bool false, .nilS, .nilS, .nilS] [(0, 3, .t 87), (3, 1, .t 97)]) <|
 Zo (.bs 99 4 109 [.t 85, .t 98]) <|
 Zm 2 99 .nil) .ret) .skip) <| .rg (Zk 100 .add 58 1 <|
 Zm 58 100 .nil)) <| .rg (Zk 101 .add 50 1 <|
 Zm 50 101 .nil)) <| Zr (Zo (.mv 2 (.c .nilS)) .nil) .ret⟩
theorem Qaev : Qe Tryz.prog Tryz.f93 = some c93.strip := by kernel_rfl
def c77 : SFn := ⟨137, [.cell 4 5 true], Zr (Zo (.alloc 4 5 93 (.agg [.nilS, .nilS, .bool false, .nilS, .nilS])) .nil) <| Zr (Zm 12 0 <|
 Zq 13 false 79 [.c (Zz 1)] <|
 Zo (.bld 14 [.nilS, .nilS, .bool false, .nilS, .nilS] [(0, 1, .t 12), (2, 3, .t 13)]) <|
 Zo (.alloc 5 5 93 (.agg [.nilS, .nilS, .bool false, .nilS, .nilS])) <|
 .wk <| .wk <| Zs 5 5 14 .nil) <| .seq (Zr (Zm 15 1 <|
 .wk <| Zc 16 0 .nil) <| .block 0 <| .loop <| Zr (Zb 17 .lss 16 15 .nil) <| .seq (.cond (.t 17) .skip (.exit 0)) <| .seq (.block 1 <| Zr (Zm 18 16 <|
 Zm 6 18 .nil) <| Zr (Zf 19 1 5 <|
 Zl 20 1 19 <|
 Zn 21 20 <|
 Zm 7 21 .nil) <| Zr (Zm 22 7 <|
 Zm 8 22 .nil) <| .seq (.block 2 <| .loop <| .seq (Zr (Zm 23 8 <|
 Zm 24 0 <|
 Zn 25 24 <|
 Zb 26 .lss 23 25 <|
 Zm 27 26 <|
 Zg 27 true (.mv 28 (.t 0)) <|
 Zg 27 true (.mv 29 (.t 8)) <|
 Zg 27 true (.idx 30 1 (.t 28) (.t 29)) <|
 Zg 27 true (.ld 31 1 false (.t 30)) <|
 Zg 27 true (.mv 32 (.t 6)) <|
 Zg 27 true (.idx 33 3 (.t 31) (.t 32)) <|
 Zg 27 true (.ld 34 3 true (.t 33)) <|
 Zg 27 true (.call (some 35) false (.c (.fn 36 [] [])) [.t 34]) <|
 Zg 27 true (.bin 36 .eql false (.t 35) (.c (Zz 0))) <|
 Zo (.pick 37 (.t 27) (.t 36) (.c (.bool false))) .nil) <| .cond (.t 37) .skip (.exit 2)) <| .block 3 <| .rg (Zm 38 8 <|
 Zk 39 .add 38 1 <|
 Zm 8 39 .nil)) <| .seq (Zr (Zm 40 8 <|
 Zm 41 0 <|
 Zn 42 41 <|
 Zb 43 .eql 40 42 .nil) <| .cond (.t 43) (.exit 1) .skip) <| .seq (Zr (Zm 44 8 <|
 Zm 45 7 <|
 Zb 46 .neq 44 45 .nil) <| .cond (.t 46) (Zr (Zm 47 0 <|
 Zm 48 8 <|
 Zm 49 0 <|
 Zm 50 7 <|
 Zm 51 0 <|
 Zm 52 7 <|
 Zi 53 1 51 52 <|
 Zl 54 1 53 <|
 Zm 55 0 <|
 Zm 56 8 <|
 Zi 57 1 55 56 <|
 Zl 58 1 57 <|
 Zi 59 1 47 48 <|
 Zs 1 59 54 <|
 Zi 60 1 49 50 <|
 Zs 1 60 58 .nil) <| .rg (Zf 61 2 5 <|
 Zh 62 3 61 <|
 Zq 63 false 117 [.t 62] <|
 Zf 64 2 5 <|
 Zs 3 64 63 .nil)) .skip) <| Zr (Zm 65 0 <|
 Zm 66 7 <|
 Zi 67 1 65 66 <|
 Zl 68 1 67 <|
 Zm 69 6 <|
 Zi 70 3 68 69 <|
 Zh 71 3 70 <|
 Zo (.alloc 9 3 32 (.agg [.bool false, .nilS, .nilS])) <|
 Zs 3 9 71 .nil) <| Zr (Zf 72 2 5 <|
 Zh 73 3 72 <|
 Zh 74 3 9 <|
 Zq 75 false 38 [.t 73, .t 74] <|
 Zf 76 2 5 <|
 Zs 3 76 75 .nil) <| .seq (Zr (Zm 77 0 <|
 Zm 78 7 <|
 Zi 79 1 77 78 <|
 Zl 80 1 79 <|
 Zn 81 80 <|
 Zc 82 0 .nil) <| .block 4 <| .loop <| Zr (Zb 83 .lss 82 81 .nil) <| .seq (.cond (.t 83) .skip (.exit 4)) <| .seq (.block 5 <| Zr (Zm 84 82 <|
 Zm 10 84 .nil) <| .rg (Zm 86 0 <|
 Zm 87 7 <|
 Zi 88 1 86 87 <|
 Zl 89 1 88 <|
 Zm 90 10 <|
 Zm 91 0 <|
 Zm 92 7 <|
 Zi 93 1 91 92 <|
 Zl 94 1 93 <|
 Zm 95 10 <|
 Zi 96 3 94 95 <|
 Zh 97 3 96 <|
 Zh 98 3 9 <|
 Zq 99 true 139 [.t 97, .t 98] <|
 Zm 85 99 <|
 Zo (.ext 100 (.t 85) 0) <|
 Zo (.ext 101 (.t 85) 1) <|
 Zi 102 3 89 90 <|
 Zs 3 102 100 .nil)) <| .rg (Zk 103 .add 82 1 <|
 Zm 82 103 .nil)) <| .seq (Zr (Zm 104 0 <|
 Zn 105 104 <|
 Zc 106 0 .nil) <| .block 6 <| .loop <| Zr (Zb 107 .lss 106 105 .nil) <| .seq (.cond (.t 107) .skip (.exit 6)) <| .seq (.block 7 <| Zr (Zm 108 106 <|
 Zm 11 108 .nil) <| Zr (Zm 109 11 <|
 Zm 110 7 <|
 Zb 111 .neq 109 110 .nil) <| .cond (.t 111) (.rg (Zm 112 0 <|
 Zm 113 11 <|
 Zi 114 1 112 113 <|
 Zl 115 1 114 <|
 Zm 116 0 <|
 Zm 117 7 <|
 Zi 118 1 116 117 <|
 Zl 119 1 118 <|
 Zm 120 0 <|
 Zm 121 11 <|
 Zi 122 1 120 121 <|
 Zl 123 1 122 <|
 Zm 124 6 <|
 Zi 125 3 123 124 <|
 Zh 126 3 125 <|
 Zq 127 false 94 [.t 115, .t 119, .t 126] .nil)) .skip) <| .rg (Zk 128 .add 106 1 <|
 Zm 106 128 .nil)) <| .rg (Zf 129 1 5 <|
 Zl 130 1 129 <|
 Zm 131 6 <|
 Zo (.bs 132 1 3 [.t 131]) <|
 Zo (.app 133 1 8 3 (.t 130) (.t 132)) <|
 Zf 134 1 5 <|
 Zs 1 134 133 .nil)) <| .rg (Zk 135 .add 16 1 <|
 Zm 16 135 .nil)) <| Zr (Zh 136 5 5 <|
 .wk <| Zs 5 4 136 .nil) .ret⟩
theorem Q2v : Qe Tryz.prog Tryz.f77 = some c77.strip := by kernel_rfl
end Go.Proofs.YtmnkngmmfnncoaaGreat
namespace Go.Proofs.YtmnkngmmfnncoaaGreat
open Go Go.FW
set_option linter.unusedSimpArgs false
set_option linter.unusedVariables false
set_option maxRecDepth 100000
theorem Q2w (n : Bool) (a d : List Nat) : rv (!n) a d = -rv n a d := by
 have e : zv (!n) a = -zv n a := by unfold zv; cases n <;> simp
 unfold rv; rw [e, Rat.neg_mkRat]
theorem Raw.not {n : Bool} {a d : List Nat} {k : Nat} (h : Raw k n a d) : Raw k (!n) a d := ⟨h.la, h.ld, h.sa, h.sd, h.k1⟩
theorem Q2x {n m : Bool} {a d b c : List Nat} {k : Nat} (hp : Raw k n a d) (hq : Raw k m b c) (hk : k < 2 ^ 36) : Qd Tryz.prog 165 [PV.rr n a d, PV.rr m b c] (· = PV.rat (rv n a d - rv m b c)) := by
 have h := Qst hp hq.not hk
 rw [Q2w, <- Rat.sub_eq_add_neg] at h
 refine Qh Qm Tryz.func165 rfl Qaac (by simp [Q53]) fun C hP => ?_; simp only [Q53, Zo, Zg, Zm, Zc, Zf, Zl, Zh, Zs, Zi, Zb, Zk, Zn, Zu, Zq, Zr, Zz]
 simp +decide (disch := first | exact D0 | fail) only [go_sem, ↓reduceIte]
 refine Qa hP h rfl rfl rfl ?_
 simp +decide (disch := first | exact D0 | fail) only [go_sem, ↓reduceIte]
 refine Qa0 ?_
 simp +decide (disch := first | exact D0 | fail) only [go_sem, ↓reduceIte]
 exact Qc rfl rfl
theorem Q8j {a b : Rat} {k : Nat} (ha : rs a <= k) (hb : rs b <= k) (hk : k < 2 ^ 36) : Qd Tryz.prog 165 [PV.rat a, PV.rat b] (· = PV.rat (a - b)) := by
 have := Q2x (Qc2 ha) (Qc2 hb) hk
 rwa [Qds, Qds] at this
theorem Q2y {n : Bool} {a d : List Nat} {k : Nat} (hp : Raw k n a d) (hk : k < 2 ^ 36) : Qd Tryz.prog 117 [PV.rr n a d] (· = PV.rat (-rv n a d)) := by
 refine Qh Qm Tryz.func117 rfl Qaad (by simp [Q54]) fun C hP => ?_; simp only [Q54, Zo, Zg, Zm, Zc, Zf, Zl, Zh, Zs, Zi, Zb, Zk, Zn, Zu, Zq, Zr, Zz]
 simp +decide (disch := first | exact D0 | fail) only [go_sem, ↓reduceIte]
 refine Qck hP (Qde hp.la hp.ld hp.k1 hp.sa hp.sd (by omega)) rfl rfl rfl ?_
 rintro _ ⟨n', a', d', rfl, g1, g2, g3, g4, g5, g6⟩
 simp +decide (disch := first | exact D0 | fail) only [go_sem, ↓reduceIte]
 refine Qa hP (Qjp (n := !n') g1 g2 (by omega) (by omega)) rfl rfl rfl ?_
 rw [Q2w, g6]
 simp +decide (disch := first | exact D0 | fail) only [go_sem, ↓reduceIte]
 refine Qa0 ?_
 simp +decide (disch := first | exact D0 | fail) only [go_sem, ↓reduceIte]
 exact Qc rfl rfl
theorem Qzk {a : Rat} {k : Nat} (ha : rs a <= k) (hk : k < 2 ^ 36) : Qd Tryz.prog 117 [PV.rat a] (· = PV.rat (-a)) := by
 have := Q2y (Qc2 ha) hk
 rwa [Qds] at this
theorem Qmp {x : Int} (h1 : -9223372036854775808 <= x) (h2 : x <= 9223372036854775807) : Qd Tryz.prog 79 [.int .i64 x] (· = PV.rat (x : Rat)) := Q2n h1 h2
end Go.Proofs.YtmnkngmmfnncoaaGreat
namespace Go.Proofs.YtmnkngmmfnncoaaGreat
open Go Go.FW
set_option linter.unusedSimpArgs false
set_option linter.unusedVariables false
set_option maxRecDepth 100000
theorem Qq0 {l : List Rat} {R m : Nat} (hl : l.length = R * m) (hR : 0 < R) (hR2 : R <= 40) (hm : m <= 40) :
  Qb9 Tryz.prog 78 [PV.mat R m l] (fun _ => .undef) hp0 (fun r F H => r = .nso 2000000 0 R /\ F 2000000 = .nst 2000000 1 22 (Qaf (rws 3000000 R fun _ => m)) /\ H 2000000 = some ⟨1, 22, [], false⟩ /\
   ∀ i, i < R -> H (3000000 + i) = some ⟨3, 32, Q5 PV.rat (Qw l m i) m, false⟩) := by
 refine Qef Qm Tryz.func78 rfl Q2t (by simp [c78]) fun C hP => ?_; simp only [c78, Zo, Zg, Zm, Zc, Zf, Zl, Zh, Zs, Zi, Zb, Zk, Zn, Zu, Zq, Zr, Zz]
 simp +decide (disch := first | exact D0 | fail) only [go_sem, ↓reduceIte]
 refine Qcb (Qg8 7 2000000 rfl (by omega) rfl (by omega)) ?_
 simp +decide (disch := first | exact D0 | fail) only [go_sem, ↓reduceIte]
 refine Qcb (Qli (γ := 2000000) (e := 1) (ty := 22) (xs := List.replicate R .nilS) (fz := false) T0 (by intro h; have := congrArg List.length h; simp at this; omega) (by omega) (fun x hx => by rw [List.eq_of_mem_replicate hx]; rfl)) ?_
 rw [Q2b 3000000 R fun _ => m]
 simp +decide (disch := first | exact D0 | fail) only [go_sem, ↓reduceIte]
 refine Qbz (by repeat (first | exact Q2 | exact Qp | exact Qq | exact Qr | exact Qt | apply Qo | apply Qz | apply Q6 | apply Qac | apply Qad | apply Ql)) [(3, 4), (10, 36), (2000000, 2000000)] [17] (fun n J hp => ∃ i, n = R - i /\ i <= R /\ J 3 = .nso 2000000 0 R /\ J 10 = .int .i64 (i : Nat) /\ J 2000000 = .nst 2000000 1 22 (Qdn 3000000 i R fun _ => m) /\
   hp 1 = some ⟨3, 24, [PV.mat R m l], false⟩ /\ hp 2000000 = some ⟨1, 22, [], false⟩ /\ (∀ j, j < i -> hp (3000000 + j) = some ⟨3, 32, Q5 PV.rat (Qw l m j) m, false⟩) /\ ∀ j, i <= j -> hp (3000000 + j) = none) R ?_ ?_
 ·refine ⟨0, rfl, by omega, ?_⟩
  simp +decide (disch := first | exact D0 | fail) only [go_sem, ↓reduceIte]
  exact ⟨rfl, (fun j hj => by omega), fun j hj => trivial⟩
 rintro _ J h ⟨i, rfl, hi, h3, h10, hg, h1, hh, hrow, hno⟩
 simp +decide (disch := first | exact D2 h3 h10 | fail) only [go_sem, ↓reduceIte, h3, h10]
 refine Qb (fun hc => ?_) (fun hc => ?_)
 ·have hi' : i < R := by omega
  have hfr := hno i (Nat.le_refl _)
  simp +decide (disch := first | exact D4 h3 h10 h1 hg | fail) only [go_sem, ↓reduceIte, h3, h10, h1, hg]
  refine Qcb (Qg8 17 (3000000 + i) (T1 hfr) (by omega) rfl (by omega)) ?_
  have hgm : ∀ L, rnP (mvN 17 (3000000 + i)) (.nst 2000000 1 22 (Qdn 3000000 i R L)) = .nst 2000000 1 22 (Qdn 3000000 i R L) := fun L => Qaa2 (by omega) (by omega) (by omega)
  simp +decide (disch := first | exact D6 h3 h10 h1 hg hh hgm | fail) only [go_sem, ↓reduceIte, h3, h10, h1, hg, hh, hgm]
  rw [Qaa0 (ty := 22) (B := 3000000) (i := i) (n := R) (L := fun _ => m) (e0 := 1) (ty0 := 22) (xs0 := []) (T2 hg hgm) (T1 hh) hi' (by omega) rfl]
  have hld := fun (K : Qf) (fr : Fr) (hp : HP) d => Qaa1 (d := d) (fr := fr) (hp := hp) (K := K) (γ := 2000000) (j := i) (i := i + 1) (n := R) (ty := 22) (B := 3000000) (L := fun _ => m)
  have hb1 : (i + 1) * m <= R * m := Nat.mul_le_mul_right _ hi'
  have hb2 : i * m <= (i + 1) * m := Nat.mul_le_mul_right _ (by omega)
  have e1 : (i : Int) * (m : Int) = ((i * m : Nat) : Int) := by rw [Int.natCast_mul]
  have e2 : ((i : Int) + 1) * (m : Int) = (((i + 1) * m : Nat) : Int) := by rw [Int.natCast_mul]; rfl
  have hcr := Q2d hl hi'
  have hRm : R * m <= 40 * 40 := Nat.mul_le_mul hR2 hm
  simp +decide (disch := first | exact D9 h3 h10 h1 hg hh hgm hld e1 e2 | fail) only [go_sem, ↓reduceIte, h3, h10, h1, hg, hh, hgm, hld, e1, e2]
  rw [Qaf6 (xs := List.replicate m (.agg [.bool false, .nilS, .nilS])) (ty := 32) T0 (by omega) (by simp) (by rw [hcr, Qao])]
  rw [hcr]
  simp +decide (disch := first | exact D2 h3 h10 | fail) only [go_sem, ↓reduceIte, h3, h10]
  refine Qa5 (R - (i + 1)) (by omega) ⟨i + 1, rfl, by omega, ?_⟩
  simp +decide (disch := first | exact D4 h3 h10 h1 hh | fail) only [go_sem, ↓reduceIte, h3, h10, h1, hh]
  refine ⟨fun j hj => ?_, fun j hj => ?_⟩
  ·by_cases e : j = i
   ·subst e; simp +decide (disch := first | exact D0 | fail) only [go_sem, ↓reduceIte]
   ·simp +decide (disch := first | exact D1 e | fail) only [go_sem, ↓reduceIte, e]
    exact hrow j (by omega)
  ·have e : ¬ j = i := by omega
   simp +decide (disch := first | exact D1 e | fail) only [go_sem, ↓reduceIte, e]
   exact hno j (by omega)
 ·obtain rfl : i = R := by omega
  rw [Q2c] at hg
  simp +decide (disch := first | exact D1 h3 | fail) only [go_sem, ↓reduceIte, h3]
  refine Qvd ?_
  simp +decide (disch := first | exact D2 hg hh | fail) only [go_sem, ↓reduceIte, hg, hh]
  exact hrow
end Go.Proofs.YtmnkngmmfnncoaaGreat
namespace Go.FW
open Go
variable {C : Ctx} {ρ : Nat -> Option Nat} {fr fr' : Fr} {hp : HP} {w : World} {K R : Qf}
theorem Qb9.data {P : Program} {f : FuncId} {args : List PV} {Post : PV -> Fr -> HP -> Prop} {Rr : PV -> Prop} (k : Nat) (h : Qb9 P f args (fun _ => .undef) hp0 Post) (hl : args.length <= 1000000)
  (hpost : ∀ r F H, Post r F H -> Qnm (Qe6 r F) k r /\ Rr (Qjq (Qe6 r F) H k r)) : Qd P f args Rr := by
 refine ⟨h.1, fun w X vals hX hsz hrep => ?_⟩
 let C : Ctx := Ctx.plain P args.length w X hX hl
 have hsim : Q3 C (fun _ => none) (Qkt args fun _ => .undef) hp0 vals w := by
  refine ⟨hsz, Ext.refl _ _, (fun _ _ h => by cases h), by simp [hp0], by simp [hp0], fun i => ?_⟩
  unfold Qkt
  split
  ·cases hi : args[i]? with
   | none => trivial
   | some p =>
    simp only [Option.getD_some]
    refine Qk.ofData ((hrep i p hi).mono (fun _ _ _ => rfl) (fun b _ hn hx => ?_) (Nat.le_refl _))
    rcases hx with hx | ⟨_, _, h1, _⟩
    ·exact hn hx
    ·simp [hp0] at h1
  ·trivial
 refine (h.2 C _ vals w rfl rfl rfl hsim).mono ?_
 rintro e w' ⟨v, ρ', r, F, H, rfl, hs, hp⟩
 obtain ⟨h1, h2⟩ := hpost r F H hp
 have hr0 : Qe6 r F 0 = r := rfl
 obtain ⟨ρ2, hs2⟩ := Qvc (fr := Qe6 r F) (hp := H) 0 k (by rw [hr0]; exact h1) (C.setN 1 (by decide)) #[v] w' ⟨ρ', hs⟩
 refine ⟨v, _, rfl, Ctx.plain_ext hs2.ext, ?_, h2⟩
 have hsl := hs2.slots 0
 rw [hr0] at hsl
 have e1 : upd (Qe6 r F) 0 (Qjq (Qe6 r F) H k r) 0 = Qjq (Qe6 r F) H k r := by simp [upd]
 rw [e1] at hsl
 have hd : Qch w' (Xof C ρ2 (Q8 H (Qrw (Qe6 r F) k r))) (Qjq (Qe6 r F) H k r) v := by
  cases r with
  | rag cs => exact hsl
  | nso γ o n =>
   cases k with
   | zero => cases h1
   | succ k =>
    simp only [Qnm, okD] at h1
    split at h1
    ·rename_i hγ
     simp only [Qjq, dsn, hγ] at hsl ⊢
     exact hsl
    ·exact h1.elim
  | _ => cases h1
 exact hd.mono (fun _ _ _ => rfl) (fun b _ hn hx => hn (.inl hx)) (Nat.le_refl _)
theorem Qs2 {γ ty n : Nat} {l : List (Nat × Nat)} (hγ : fr γ = .nst γ 1 ty (Qaf l)) (hn : n = l.length) (h2 : 2000000 <= γ) (hl : ∀ x ∈ l, 2000000 <= x.1) : Qnm fr 2 (.nso γ 0 n) := by
 simp only [Qnm, okD, hγ]
 refine ⟨trivial, by simp [isY]; omega, by simp [Qaf, hn], fun x hx c hc => ?_⟩
 obtain ⟨y, hy, rfl⟩ := List.mem_map.1 (List.mem_of_mem_drop (List.mem_of_mem_take hx))
 obtain rfl : c = .mso y.1 0 y.2 := by simpa [PV.ncells, PV.cells] using hc
 have := hl y hy
 simp only [okD, isY]; simp; omega
theorem Qvq {γ ty n e' : Nat} {l : List (Nat × Nat)} (hγ : fr γ = .nst γ 1 ty (Qaf l)) (hn : n = l.length) (ys : Nat -> List PV) (hh : ∀ x ∈ l, ∃ ty' fz, hp x.1 = some ⟨e', ty', ys x.1, fz⟩) :
  Qjq fr hp 2 (.nso γ 0 n) = .sl 1 (l.map fun x => .sl e' ((ys x.1).take x.2)) := by
 simp only [Qjq, dsn, hγ, List.drop_zero]
 rw [List.take_of_length_le (by simp [Qaf, hn])]
 simp only [Qaf, List.map_map]
 congr 1
 refine List.map_congr_left fun x hx => ?_
 obtain ⟨ty', fz, h⟩ := hh x hx
 simp [Function.comp, PV.ncells, PV.cells, mkA, dsn, h]
theorem Qgq {P : Program} {f : FuncId} {fn : Func} {sf : SFn} {args : List PV} {Rr : PV -> Prop} (hm : P.follows .mixedOrders = true) (hf : P.funcs[f]? = some fn) (hname : (fn.name != "runtime.NumGoroutine") = true) (hc : Qe P fn = some sf.strip) (hn : args.length <= sf.n /\ sf.n <= 1000000)
  (hv : ∀ C : Ctx, C.P = P -> vc C (Qnl (Qc8 sf.rs Rr)) [.c sf.body] (Qfp args) hp0) : Qd P f args Rr := by
 simp only [Qe, Option.bind_eq_some_iff, Option.map_eq_some_iff] at hc
 obtain ⟨c, hb, sb, hcb, rs, hrs, hsf⟩ := hc
 obtain ⟨n, rs', body⟩ := sf
 simp only [SFn.strip, SFn.mk.injEq] at hsf
 obtain ⟨rfl, rfl, rfl⟩ := hsf
 refine ⟨by simp [Qjk, hf, hb]; simpa using hname, fun w X vals hX hsz hrep => ?_⟩
 let C : Ctx := Ctx.plain P fn.ntmps w X hX hn.2
 refine calls_of_wp hf hb ?_
 have hsz' : (vals ++ Array.replicate (fn.ntmps - vals.size) undef).size = fn.ntmps := by simp at hn ⊢; omega
 have hsim : Sim C (Qfp args) hp0 (vals ++ Array.replicate (fn.ntmps - vals.size) undef) w := by
  refine ⟨fun _ => none, hsz', Ext.refl _ _, (fun _ _ h => by cases h), by simp [hp0], by simp [hp0], fun i => ?_⟩
  unfold Qfp
  cases hi : args[i]? with
  | none => trivial
  | some p =>
   simp only [Option.getD_some]
   have hil : i < vals.size := by rw [hsz]; exact (List.getElem?_eq_some_iff.1 hi).1
   have hr := hrep i p hi
   have e : (vals ++ Array.replicate (fn.ntmps - vals.size) undef).getD i undef = vals.getD i undef := by
    rw [Qbt, if_pos hil]
   rw [e]
   refine Qk.ofData (hr.mono (fun _ _ _ => rfl) (fun b _ hn hx => ?_) (Nat.le_refl _))
   rcases hx with hx | ⟨_, _, h1, _⟩
   ·exact hn hx
   ·simp [hp0] at h1
 have fin : ∀ (fr : Fr) (hp : HP) (a : Act) (w' : World), a.defers = [] -> Sim C fr hp a.tmps w' -> Qnl (Qc8 rs Rr) fr hp ->
   a.defers = [] /\ ∃ v, (results fn a.tmps).run P w' = .ok v w' /\ ∃ v' r, Ending.returned v = .returned v' /\ Ext Qbh w w' /\ Qch w' X r v' /\ Rr r := by
  rintro fr hp a w' hd hs0 ⟨fr1, hp1, hw, hr⟩
  obtain ⟨ρ, hs⟩ := hw C _ _ hs0
  obtain ⟨v, r, h1, h2, h3⟩ := Qsd (C := C) rfl hrs hs hr
  exact ⟨hd, v, h1, v, r, rfl, Ctx.plain_ext hs.ext, h2, h3⟩
 exact Qkn (C := C) (R := Qnl (Qc8 rs Rr)) hm c body [] _ (Qfp args) hp0 _ w hcb ⟨fun fr hp a w' hd hs hv => (by rw [Qh5] at hv; exact fin fr hp a w' hd hs hv), fun id sk' he => (by simp [FW.Qag] at he), fin⟩ rfl hsim (hv C rfl)
theorem Qke {Post : PV -> Fr -> HP -> Prop} (h : Post (.tup []) fr hp) : Qjr [] Post fr hp := by
 refine Qee ?_
 simp only [Qc8, List.flatMap_nil, Qp8]
 exact ⟨by simp, _, Q3x _, h⟩
theorem Qabx {ty w i d : Nat} {fz : Bool} {f : Nat -> Rat} (h : i < w) : ldM (some ⟨3, ty, Q5 PV.rat f w, fz⟩) 3 true i 0 d fr hp K = K (upd fr d (PV.rat (f i))) hp := by
 rw [Qh7 (by rw [Qao]; exact h) (by omega) (by simp), Qeq]; rfl
theorem Qlp {ty β w i : Nat} {f : Nat -> Rat} {v : Rat} (h : i < w) : stM (some ⟨3, ty, Q5 PV.rat f w, false⟩) β 3 i 0 (PV.rat v) fr hp K = K fr (Qj hp β ⟨3, ty, Q5 PV.rat (fun c => if c = i then v else f c) w, false⟩) := by
 have e := Qfq (fr := fr) (hp := hp) (K := K) (n := 3) (ty := ty) (β := β) (i := i) (xs := Q5 PV.rat f w) (v := PV.rat v) (by rw [Qao]; exact h) rfl rfl
 rw [Q6m (g := fun c => if c = i then v else f c) fun k _ => rfl] at e
 exact e
theorem Qq1 {e ty : Nat} {xs ys : List PV} {fz : Bool} (h : xs = ys) : HB.mk e ty xs fz = HB.mk e ty ys fz := by rw [h]
theorem Qvr : (Qfl (.tup []) = True) /\ (∀ (k : IntKind) (n : Int), Qfl (.int k n) = True) /\ (∀ b : Bool, Qfl (.bool b) = True) /\ (∀ (e : Nat) (xs : List PV), Qfl (.sl e xs) = True) /\ (∀ cs : List PV, Qfl (.agg cs) = True) /\ (∀ cs : List PV, Qfl (.tup cs) = True) := by
 refine ⟨?_, ?_, ?_, ?_, ?_, ?_⟩ <;> intros <;> simp [Qfl, PV.refs, PV.sref, rnP, rn1]
attribute [go_sem] Qvr Qabx
end Go.FW
