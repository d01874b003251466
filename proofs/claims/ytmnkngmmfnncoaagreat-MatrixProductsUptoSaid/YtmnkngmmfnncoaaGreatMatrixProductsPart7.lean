/- Part 7 of the proof of MatrixProducts: W6, CA, A1, A2, FwNH. Own lemmas; no conditions. -/
import Derived.Test.YtmnkngmmfnncoaaGreatMatrixProductsPart6
set_option linter.unusedSimpArgs false
set_option linter.unnecessarySimpa false
set_option linter.unusedVariables false
namespace Go.Proofs.YtmnkngmmfnncoaaGreat
open Go Go.FW
set_option linter.unusedSimpArgs false
set_option linter.unusedVariables false
set_option maxRecDepth 100000
theorem Q0y {x y : Int} (hx : nl x.natAbs < 2 ^ 38) (hy : nl y.natAbs < 2 ^ 38) (h0 : y ≠ 0) : Qd Tryz.prog 146 [PV.zz x, PV.zz y] (· = .tup [PV.rat ((x : Rat) / (y : Rat)), .int .i64 0]) := by
 have hv := Qp0 x y h0
 have hr := Qiw (n := decide (x < 0) != decide (y < 0)) (a := dig x.natAbs) (d := dig y.natAbs) (Qj _) (Qj _) hx hy
 rw [rv, Qy, hv] at hr
 have hs := Qg9 (n := decide (y < 0)) (a := dig y.natAbs) (Qj _) (by show nl _ < _; omega)
 rw [Qeo] at hs
 generalize (x : Rat) / (y : Rat) = Q at *
 refine Qi Qm Tryz.func146 rfl Q8d (by simp [Q4b]) fun C hP => ?_; simp only [Q4b]
 simp +decide (disch := first | omega | rfl | (simp +decide only [go_sem, ↓reduceIte] <;> rfl) | fail) only [go_sem, ↓reduceIte]
 refine Qa hP hs rfl rfl rfl ?_
 simp +decide (disch := first | omega | rfl | (simp +decide only [go_sem, ↓reduceIte] <;> rfl) | fail) only [go_sem, ↓reduceIte]
 refine Qb (fun h => absurd (Qon.1 h) h0) (fun _ => ?_)
 simp +decide (disch := first | omega | rfl | (simp +decide only [go_sem, ↓reduceIte] <;> rfl) | fail) only [go_sem, ↓reduceIte]
 refine Qa hP hr rfl rfl rfl ?_
 simp +decide (disch := first | omega | rfl | (simp +decide only [go_sem, ↓reduceIte] <;> rfl) | fail) only [go_sem, ↓reduceIte]
 refine Qb1 ?_
 simp +decide (disch := first | omega | rfl | (simp +decide only [go_sem, ↓reduceIte] <;> rfl) | fail) only [go_sem, ↓reduceIte]
 exact Qcc rfl rfl rfl (Qv _) (Qv _)
theorem Q0z {n m : Bool} {a d b c : List Nat} {k : Nat} (hp : Raw k n a d) (hq : Raw k m b c) (hk : k < 2 ^ 34) (h0 : rv m b c ≠ 0) : Qd Tryz.prog 139 [PV.rr n a d, PV.rr m b c] (· = .tup [PV.rat (rv n a d / rv m b c), .int .i64 0]) := by
 refine Qi Qm Tryz.func139 rfl Q8e (by simp [Q4c]) fun C hP => ?_; simp only [Q4c]
 simp +decide (disch := first | omega | rfl | (simp +decide only [go_sem, ↓reduceIte] <;> rfl) | fail) only [go_sem, ↓reduceIte]
 refine Qcd hP (Qc2 hp.la hp.ld hp.k1 hp.sa hp.sd (by omega)) rfl rfl rfl ?_
 rintro _ ⟨n', a', d', rfl, g1, g2, g3, g4, g5, g6⟩
 simp +decide (disch := first | omega | rfl | (simp +decide only [go_sem, ↓reduceIte] <;> rfl) | fail) only [go_sem, ↓reduceIte]
 refine Qcd hP (Qc2 hq.la hq.ld hq.k1 hq.sa hq.sd (by omega)) rfl rfl rfl ?_
 rintro _ ⟨m', b', c', rfl, e1, e2, e3, e4, e5, e6⟩
 simp +decide (disch := first | omega | rfl | (simp +decide only [go_sem, ↓reduceIte] <;> rfl) | fail) only [go_sem, ↓reduceIte]
 have hza : nl (zv n' a').natAbs <= k := by rw [Qa5]; exact Nat.le_trans (Qai g1) g3
 have hzb : nl (zv m' b').natAbs <= k := by rw [Qa5]; exact Nat.le_trans (Qai e1) e3
 have hvd : nl (val d') <= k := Nat.le_trans (Qai g2) g4
 have hvc : nl (val c') <= k := Nat.le_trans (Qai e2) e4
 have h3 := Qat (zv n' a') (val c')
 have h6 := Qat (zv m' b') (val d')
 rw [Int.natAbs_natCast] at h3 h6
 have hzb0 : zv m' b' ≠ 0 := fun h => h0 (by rw [<- e6, rv, h, Rat.zero_mkRat])
 have hne : zv m' b' * (val d' : Int) ≠ 0 := Int.mul_ne_zero hzb0 (by omega)
 have hfin := Qaci (n := n') (a := a') (m := m') (b := b') g5 e5 hzb0
 rw [g6, e6] at hfin
 have hm1 := Qdi (n := n') (m := false) g1 e2 (by omega) (by omega)
 have hm2 := Qdi (n := m') (m := false) e1 g2 (by omega) (by omega)
 rw [Qfc] at hm1 hm2
 refine Qa hP (Qd0 c') rfl rfl rfl ?_
 simp +decide (disch := first | omega | rfl | (simp +decide only [go_sem, ↓reduceIte] <;> rfl) | fail) only [go_sem, ↓reduceIte]
 refine Qa hP hm1 rfl rfl rfl ?_
 simp +decide (disch := first | omega | rfl | (simp +decide only [go_sem, ↓reduceIte] <;> rfl) | fail) only [go_sem, ↓reduceIte]
 refine Qa hP (Qd0 d') rfl rfl rfl ?_
 simp +decide (disch := first | omega | rfl | (simp +decide only [go_sem, ↓reduceIte] <;> rfl) | fail) only [go_sem, ↓reduceIte]
 refine Qa hP hm2 rfl rfl rfl ?_
 generalize zv n' a' * (val c' : Int) = X at *
 generalize zv m' b' * (val d' : Int) = Y at *
 simp +decide (disch := first | omega | rfl | (simp +decide only [go_sem, ↓reduceIte] <;> rfl) | fail) only [go_sem, ↓reduceIte]
 refine Qa hP (Q0y (x := X) (y := Y) (by omega) (by omega) hne) rfl rfl rfl ?_
 rw [hfin]
 generalize rv n a d / rv m b c = Q at *
 simp +decide (disch := first | omega | rfl | (simp +decide only [go_sem, ↓reduceIte] <;> rfl) | fail) only [go_sem, ↓reduceIte]
 refine Qb1 ?_
 simp +decide (disch := first | omega | rfl | (simp +decide only [go_sem, ↓reduceIte] <;> rfl) | fail) only [go_sem, ↓reduceIte]
 exact Qcc rfl rfl rfl (Qv _) (Qv _)
theorem Qxu {a b : Rat} {k : Nat} (ha : rs a <= k) (hb : rs b <= k) (hk : k < 2 ^ 34) (h0 : b ≠ 0) : Qd Tryz.prog 139 [PV.rat a, PV.rat b] (· = .tup [PV.rat (a / b), .int .i64 0]) := by
 have := Q0z (Qct ha) (Qct hb) hk (by rw [Qdh]; exact h0)
 rwa [Qdh, Qdh] at this
theorem Q00 {x : Int} (hx : nl x.natAbs < 2 ^ 40) : Qd Tryz.prog 158 [PV.zz x] (· = PV.zz (-x)) := by
 have hs := Qd2 (n := !decide (x < 0)) (a := dig x.natAbs) (Qj _) (by show nl _ < _; omega)
 have e : zv (!decide (x < 0)) (dig x.natAbs) = -x := by
  rw [Qgk]; by_cases h : x < 0 <;> simp [h] <;> omega
 rw [e] at hs
 refine Qi Qm Tryz.func158 rfl Q9m (by simp [Q5h]) fun C hP => ?_; simp only [Q5h]
 simp +decide (disch := first | omega | rfl | (simp +decide only [go_sem, ↓reduceIte] <;> rfl) | fail) only [go_sem, ↓reduceIte]
 refine Qa hP hs rfl rfl rfl ?_
 simp +decide (disch := first | omega | rfl | (simp +decide only [go_sem, ↓reduceIte] <;> rfl) | fail) only [go_sem, ↓reduceIte]
 refine Qaw ?_
 simp +decide (disch := first | omega | rfl | (simp +decide only [go_sem, ↓reduceIte] <;> rfl) | fail) only [go_sem, ↓reduceIte]
 exact Qc rfl rfl
theorem Qxv {x y : Int} (hx : nl x.natAbs < 2 ^ 35) (hy : nl y.natAbs < 2 ^ 35) (h0 : y ≠ 0) : Qd Tryz.prog 147 [PV.zz x, PV.zz y] (· = .tup [PV.rat ((x : Rat) / (y : Rat)), .int .i64 0]) := by
 have h3 : (y : Rat) ≠ 0 := by rw [Ne, Rat.intCast_eq_zero_iff]; exact h0
 have hnx : nl (-x).natAbs < 2 ^ 35 := by rw [Int.natAbs_neg]; exact hx
 have o1 := Qgq (z := x) (D := y.natAbs) (by omega) (by omega)
 have o2 := Qgq (z := -x) (D := y.natAbs) (by omega) (by omega)
 have e1 : ¬ y < 0 -> mkRat x y.natAbs = (x : Rat) / (y : Rat) := fun h => by
  rw [Rat.mkRat_eq_div, <- Rat.intCast_natCast]
  congr 2; omega
 have e2 : y < 0 -> mkRat (-x) y.natAbs = (x : Rat) / (y : Rat) := fun h => by
  have e : (((y.natAbs : Nat) : Int) : Rat) = - (y : Rat) := by rw [<- Rat.intCast_neg]; congr 1; omega
  rw [Rat.mkRat_eq_div, <- Rat.intCast_natCast, e, Rat.intCast_neg]
  grind
 refine Qi Qm Tryz.func147 rfl Q9r (by simp [Q5m]) fun C hP => ?_; simp only [Q5m]
 simp +decide (disch := first | omega | rfl | (simp +decide only [go_sem, ↓reduceIte] <;> rfl) | fail) only [go_sem, ↓reduceIte]
 refine Qa hP (Qxs (by omega)) rfl rfl rfl ?_
 simp +decide (disch := first | omega | rfl | (simp +decide only [go_sem, ↓reduceIte] <;> rfl) | fail) only [go_sem, ↓reduceIte]
 refine Qb (fun h => absurd (Qon.1 h) h0) (fun _ => ?_)
 simp +decide (disch := first | omega | rfl | (simp +decide only [go_sem, ↓reduceIte] <;> rfl) | fail) only [go_sem, ↓reduceIte]
 refine Qb (fun hn => ?_) (fun hn => ?_)
 ·rw [e2 hn] at o2
  generalize (x : Rat) / (y : Rat) = Q at *
  simp +decide (disch := first | omega | rfl | (simp +decide only [go_sem, ↓reduceIte] <;> rfl) | fail) only [go_sem, ↓reduceIte]
  refine Qa hP (Q00 (x := x) (by omega)) rfl rfl rfl ?_
  simp +decide (disch := first | omega | rfl | (simp +decide only [go_sem, ↓reduceIte] <;> rfl) | fail) only [go_sem, ↓reduceIte]
  refine Qa hP o2 rfl rfl rfl ?_
  simp +decide (disch := first | omega | rfl | (simp +decide only [go_sem, ↓reduceIte] <;> rfl) | fail) only [go_sem, ↓reduceIte]
  refine Qb1 ?_
  simp +decide (disch := first | omega | rfl | (simp +decide only [go_sem, ↓reduceIte] <;> rfl) | fail) only [go_sem, ↓reduceIte]
  exact Qcc rfl rfl rfl (Qv _) (Qv _)
 ·rw [e1 hn] at o1
  generalize (x : Rat) / (y : Rat) = Q at *
  simp +decide (disch := first | omega | rfl | (simp +decide only [go_sem, ↓reduceIte] <;> rfl) | fail) only [go_sem, ↓reduceIte]
  refine Qa hP o1 rfl rfl rfl ?_
  simp +decide (disch := first | omega | rfl | (simp +decide only [go_sem, ↓reduceIte] <;> rfl) | fail) only [go_sem, ↓reduceIte]
  refine Qb1 ?_
  simp +decide (disch := first | omega | rfl | (simp +decide only [go_sem, ↓reduceIte] <;> rfl) | fail) only [go_sem, ↓reduceIte]
  exact Qcc rfl rfl rfl (Qv _) (Qv _)
theorem Qmv {x y : Int} (hx : -9223372036854775808 <= x /\ x <= 9223372036854775807) (hy : -9223372036854775808 <= y /\ y <= 9223372036854775807) (h0 : y ≠ 0) : Qd Tryz.prog 71 [.int .i64 x, .int .i64 y] (· = PV.rat ((x : Rat) / (y : Rat))) := by
 have n1 := Qdt (n := x.natAbs) (by omega)
 have n2 := Qdt (n := y.natAbs) (by omega)
 have hm := Qxv (x := x) (y := y) (by omega) (by omega) h0
 generalize (x : Rat) / (y : Rat) = Q at *
 refine Qi Qm Tryz.func71 rfl Qacb (by simp [c71]) fun C hP => ?_; simp only [c71]
 simp +decide (disch := first | omega | rfl | (simp +decide only [go_sem, ↓reduceIte] <;> rfl) | fail) only [go_sem, ↓reduceIte]
 refine Qa hP (Qlt hx.1 hx.2) rfl rfl rfl ?_
 simp +decide (disch := first | omega | rfl | (simp +decide only [go_sem, ↓reduceIte] <;> rfl) | fail) only [go_sem, ↓reduceIte]
 refine Qa hP (Qlt hy.1 hy.2) rfl rfl rfl ?_
 simp +decide (disch := first | omega | rfl | (simp +decide only [go_sem, ↓reduceIte] <;> rfl) | fail) only [go_sem, ↓reduceIte]
 refine Qa hP hm rfl rfl rfl ?_
 simp +decide (disch := first | omega | rfl | (simp +decide only [go_sem, ↓reduceIte] <;> rfl) | fail) only [go_sem, ↓reduceIte]
 refine Qaw ?_
 simp +decide (disch := first | omega | rfl | (simp +decide only [go_sem, ↓reduceIte] <;> rfl) | fail) only [go_sem, ↓reduceIte]
 exact Qc rfl rfl
end Go.Proofs.YtmnkngmmfnncoaaGreat
namespace Go.Proofs.YtmnkngmmfnncoaaGreat
open Go Go.FW
set_option maxRecDepth 100000
def c25 : SFn := ⟨35, [.t 2], .seq (.rg (.o none (.box 1 3 24 (.t 0)) <|
 .o none (.mv 2 (.c (.bool false))) .nil)) <| .seq (.seq (.rg (.o none (.fld 3 0 (.t 1)) <|
 .o none (.ld 4 1 false (.t 3)) <|
 .o none (.bin 5 .lss false (.t 4) (.c (.int .i64 0))) <|
 .o none (.mv 6 (.t 5)) <|
 .o (some (6, false)) (.fld 7 0 (.t 1)) <|
 .o (some (6, false)) (.ld 8 1 false (.t 7)) <|
 .o (some (6, false)) (.bin 9 .gtr false (.t 8) (.c (.int .i64 40))) <|
 .o none (.pick 10 (.t 6) (.c (.bool true)) (.t 9)) <|
 .o none (.mv 11 (.t 10)) <|
 .o (some (11, false)) (.fld 12 1 (.t 1)) <|
 .o (some (11, false)) (.ld 13 1 false (.t 12)) <|
 .o (some (11, false)) (.bin 14 .lss false (.t 13) (.c (.int .i64 0))) <|
 .o none (.pick 15 (.t 11) (.c (.bool true)) (.t 14)) <|
 .o none (.mv 16 (.t 15)) <|
 .o (some (16, false)) (.fld 17 1 (.t 1)) <|
 .o (some (16, false)) (.ld 18 1 false (.t 17)) <|
 .o (some (16, false)) (.bin 19 .gtr false (.t 18) (.c (.int .i64 40))) <|
 .o none (.pick 20 (.t 16) (.c (.bool true)) (.t 19)) <|
 .o none (.mv 21 (.t 20)) <|
 .o (some (21, false)) (.fld 22 2 (.t 1)) <|
 .o (some (21, false)) (.ld 23 1 false (.t 22)) <|
 .o (some (21, false)) (.len 24 (.t 23)) <|
 .o (some (21, false)) (.fld 25 0 (.t 1)) <|
 .o (some (21, false)) (.ld 26 1 false (.t 25)) <|
 .o (some (21, false)) (.fld 27 1 (.t 1)) <|
 .o (some (21, false)) (.ld 28 1 false (.t 27)) <|
 .o (some (21, false)) (.bin 29 .mul false (.t 26) (.t 28)) <|
 .o (some (21, false)) (.bin 30 .neq false (.t 24) (.t 29)) <|
 .o none (.pick 31 (.t 21) (.c (.bool true)) (.t 30)) .nil)) <| .cond (.t 31) (.seq (.rg (.o none (.mv 2 (.c (.bool false))) .nil)) <| .ret) (.skip)) <| .seq (.rg (.o none (.fld 32 2 (.t 1)) <|
 .o none (.ld 33 1 false (.t 32)) <|
 .o none (.call (some 34) false (.c (.fn 89 [] [])) [(.t 33)]) <|
 .o none (.mv 2 (.t 34)) .nil)) <| .ret⟩
theorem Qacj : Qf Tryz.prog Tryz.f25 = some c25 := by kernel_rfl
def c89 : SFn := ⟨15, [.t 2], .seq (.rg (.o none (.mv 2 (.c (.bool false))) .nil)) <| .seq (.seq (.rg (.o none (.mv 5 (.t 0)) <|
 .o none (.len 6 (.t 5)) <|
 .o none (.mv 7 (.c (.int .i64 0))) .nil)) <| .block 0 (.loop (.seq (.rg (.o none (.bin 8 .lss false (.t 7) (.t 6)) .nil)) <| .seq (.cond (.t 8) (.skip) (.exit 0)) <| .seq (.block 1 (.seq (.rg (.o none (.idx 9 3 (.t 5) (.t 7)) <|
 .o none (.ld 10 3 true (.t 9)) <|
 .o none (.alloc 4 3 32 (.agg [(.bool false), .nilS, .nilS])) <|
 .o none (.st 3 (.t 4) (.t 10)) .nil)) <| .seq (.rg (.o none (.ld 11 3 true (.t 4)) <|
 .o none (.call (some 12) false (.c (.fn 163 [] [])) [(.t 11)]) <|
 .o none (.un 13 .not (.t 12)) .nil)) <| .cond (.t 13) (.seq (.rg (.o none (.mv 2 (.c (.bool false))) .nil)) <| .ret) (.skip))) <| .rg (.o none (.bin 14 .add false (.t 7) (.c (.int .i64 1))) <|
 .o none (.mv 7 (.t 14)) .nil)))) <| .seq (.rg (.o none (.mv 2 (.c (.bool true))) .nil)) <| .ret⟩
theorem Qack : Qf Tryz.prog Tryz.f89 = some c89 := by kernel_rfl
def c21 : SFn := ⟨42, [.cell 6 3 true, .t 7], .seq (.rg (.o none (.alloc 6 3 24 (.agg [(.int .i64 0), (.int .i64 0), .nilS])) <|
 .o none (.mv 7 (.c (.int .i64 0))) .nil)) <| .seq (.block 0 (.seq (.rg (.o none (.mv 9 (.t 0)) <|
 .o none (.bin 10 .lss false (.t 9) (.c (.int .i64 0))) <|
 .o none (.mv 11 (.t 10)) <|
 .o (some (11, false)) (.mv 12 (.t 0)) <|
 .o (some (11, false)) (.bin 13 .gtr false (.t 12) (.c (.int .i64 40))) <|
 .o none (.pick 14 (.t 11) (.c (.bool true)) (.t 13)) <|
 .o none (.mv 15 (.t 14)) <|
 .o (some (15, false)) (.mv 16 (.t 1)) <|
 .o (some (15, false)) (.bin 17 .lss false (.t 16) (.c (.int .i64 0))) <|
 .o none (.pick 18 (.t 15) (.c (.bool true)) (.t 17)) <|
 .o none (.mv 19 (.t 18)) <|
 .o (some (19, false)) (.mv 20 (.t 1)) <|
 .o (some (19, false)) (.bin 21 .gtr false (.t 20) (.c (.int .i64 40))) <|
 .o none (.pick 22 (.t 19) (.c (.bool true)) (.t 21)) <|
 .o none (.mv 8 (.t 22)) .nil)) <| .cond (.t 8) (.seq (.rg (.o none (.bld 23 [(.int .i64 0), (.int .i64 0), .nilS] []) <|
 .o none (.st 3 (.t 6) (.t 23)) <|
 .o none (.mv 7 (.c (.int .i64 2))) .nil)) <| .ret) (.seq (.rg (.o none (.mv 25 (.t 2)) <|
 .o none (.len 26 (.t 25)) <|
 .o none (.mv 27 (.t 0)) <|
 .o none (.mv 28 (.t 1)) <|
 .o none (.bin 29 .mul false (.t 27) (.t 28)) <|
 .o none (.bin 30 .neq false (.t 26) (.t 29)) <|
 .o none (.mv 24 (.t 30)) .nil)) <| .cond (.t 24) (.seq (.rg (.o none (.bld 31 [(.int .i64 0), (.int .i64 0), .nilS] []) <|
 .o none (.st 3 (.t 6) (.t 31)) <|
 .o none (.mv 7 (.c (.int .i64 16))) .nil)) <| .ret) (.seq (.rg (.o none (.mv 33 (.t 2)) <|
 .o none (.call (some 34) false (.c (.fn 89 [] [])) [(.t 33)]) <|
 .o none (.un 35 .not (.t 34)) <|
 .o none (.mv 32 (.t 35)) .nil)) <| .cond (.t 32) (.seq (.rg (.o none (.bld 36 [(.int .i64 0), (.int .i64 0), .nilS] []) <|
 .o none (.st 3 (.t 6) (.t 36)) <|
 .o none (.mv 7 (.c (.int .i64 1))) .nil)) <| .ret) (.skip))))) <| .seq (.rg (.o none (.mv 37 (.t 0)) <|
 .o none (.mv 38 (.t 1)) <|
 .o none (.mv 39 (.t 2)) <|
 .o none (.app 40 3 56 32 (.c .nilS) (.t 39)) <|
 .o none (.bld 41 [(.int .i64 0), (.int .i64 0), .nilS] [(0, 1, (.t 37)), (1, 1, (.t 38)), (2, 1, (.t 40))]) <|
 .o none (.st 3 (.t 6) (.t 41)) <|
 .o none (.mv 7 (.c (.int .i64 0))) .nil)) <| .ret⟩
theorem Qacl : Qf Tryz.prog Tryz.f21 = some c21 := by kernel_rfl
def c50 : SFn := ⟨46, [.t 4], .seq (.rg (.o none (.box 2 3 24 (.t 0)) <|
 .o none (.box 3 3 24 (.t 1)) <|
 .o none (.mv 4 (.c (.bool false))) .nil)) <| .seq (.seq (.rg (.o none (.fld 6 0 (.t 2)) <|
 .o none (.ld 7 1 false (.t 6)) <|
 .o none (.fld 8 0 (.t 3)) <|
 .o none (.ld 9 1 false (.t 8)) <|
 .o none (.bin 10 .neq false (.t 7) (.t 9)) <|
 .o none (.mv 11 (.t 10)) <|
 .o (some (11, false)) (.fld 12 1 (.t 2)) <|
 .o (some (11, false)) (.ld 13 1 false (.t 12)) <|
 .o (some (11, false)) (.fld 14 1 (.t 3)) <|
 .o (some (11, false)) (.ld 15 1 false (.t 14)) <|
 .o (some (11, false)) (.bin 16 .neq false (.t 13) (.t 15)) <|
 .o none (.pick 17 (.t 11) (.c (.bool true)) (.t 16)) <|
 .o none (.mv 18 (.t 17)) <|
 .o (some (18, false)) (.fld 19 2 (.t 2)) <|
 .o (some (18, false)) (.ld 20 1 false (.t 19)) <|
 .o (some (18, false)) (.len 21 (.t 20)) <|
 .o (some (18, false)) (.fld 22 2 (.t 3)) <|
 .o (some (18, false)) (.ld 23 1 false (.t 22)) <|
 .o (some (18, false)) (.len 24 (.t 23)) <|
 .o (some (18, false)) (.bin 25 .neq false (.t 21) (.t 24)) <|
 .o none (.pick 26 (.t 18) (.c (.bool true)) (.t 25)) .nil)) <| .cond (.t 26) (.seq (.rg (.o none (.mv 4 (.c (.bool false))) .nil)) <| .ret) (.skip)) <| .seq (.seq (.rg (.o none (.fld 27 2 (.t 2)) <|
 .o none (.ld 28 1 false (.t 27)) <|
 .o none (.len 29 (.t 28)) <|
 .o none (.mv 30 (.c (.int .i64 0))) .nil)) <| .block 0 (.loop (.seq (.rg (.o none (.bin 31 .lss false (.t 30) (.t 29)) .nil)) <| .seq (.cond (.t 31) (.skip) (.exit 0)) <| .seq (.block 1 (.seq (.rg (.o none (.mv 32 (.t 30)) <|
 .o none (.mv 5 (.t 32)) .nil)) <| .seq (.rg (.o none (.fld 33 2 (.t 2)) <|
 .o none (.ld 34 1 false (.t 33)) <|
 .o none (.mv 35 (.t 5)) <|
 .o none (.idx 36 3 (.t 34) (.t 35)) <|
 .o none (.ld 37 3 true (.t 36)) <|
 .o none (.fld 38 2 (.t 3)) <|
 .o none (.ld 39 1 false (.t 38)) <|
 .o none (.mv 40 (.t 5)) <|
 .o none (.idx 41 3 (.t 39) (.t 40)) <|
 .o none (.ld 42 3 true (.t 41)) <|
 .o none (.call (some 43) false (.c (.fn 39 [] [])) [(.t 37), (.t 42)]) <|
 .o none (.un 44 .not (.t 43)) .nil)) <| .cond (.t 44) (.seq (.rg (.o none (.mv 4 (.c (.bool false))) .nil)) <| .ret) (.skip))) <| .rg (.o none (.bin 45 .add false (.t 30) (.c (.int .i64 1))) <|
 .o none (.mv 30 (.t 45)) .nil)))) <| .seq (.rg (.o none (.mv 4 (.c (.bool true))) .nil)) <| .ret⟩
theorem Qacm : Qf Tryz.prog Tryz.f50 = some c50 := by kernel_rfl
def Q5s : SFn := ⟨26, [.cell 4 3 true], .seq (.rg (.o none (.alloc 4 3 32 (.agg [(.bool false), .nilS, .nilS])) .nil)) <| .seq (.rg (.o none (.call (some 7) false (.c (.fn 79 [] [])) [(.c (.int .i64 0))]) <|
 .o none (.alloc 5 3 32 (.agg [(.bool false), .nilS, .nilS])) <|
 .o none (.st 3 (.t 5) (.t 7)) .nil)) <| .seq (.seq (.rg (.o none (.mv 8 (.t 0)) <|
 .o none (.len 9 (.t 8)) <|
 .o none (.mv 10 (.c (.int .i64 0))) .nil)) <| .block 0 (.loop (.seq (.rg (.o none (.bin 11 .lss false (.t 10) (.t 9)) .nil)) <| .seq (.cond (.t 11) (.skip) (.exit 0)) <| .seq (.block 1 (.seq (.rg (.o none (.mv 12 (.t 10)) <|
 .o none (.mv 6 (.t 12)) .nil)) <| .rg (.o none (.ld 13 3 true (.t 5)) <|
 .o none (.mv 14 (.t 0)) <|
 .o none (.mv 15 (.t 6)) <|
 .o none (.idx 16 3 (.t 14) (.t 15)) <|
 .o none (.ld 17 3 true (.t 16)) <|
 .o none (.mv 18 (.t 1)) <|
 .o none (.mv 19 (.t 6)) <|
 .o none (.idx 20 3 (.t 18) (.t 19)) <|
 .o none (.ld 21 3 true (.t 20)) <|
 .o none (.call (some 22) true (.c (.fn 38 [] [])) [(.t 17), (.t 21)]) <|
 .o none (.call (some 23) true (.c (.fn 37 [] [])) [(.t 13), (.t 22)]) <|
 .o none (.st 3 (.t 5) (.t 23)) .nil))) <| .rg (.o none (.bin 24 .add false (.t 10) (.c (.int .i64 1))) <|
 .o none (.mv 10 (.t 24)) .nil)))) <| .seq (.rg (.o none (.ld 25 3 true (.t 5)) <|
 .o none (.st 3 (.t 4) (.t 25)) .nil)) <| .ret⟩
theorem Q9v : Qf Tryz.prog Tryz.f100 = some Q5s := by kernel_rfl
def c16 : SFn := ⟨29, [.cell 2 3 true, .t 3], .seq (.rg (.o none (.box 1 3 24 (.t 0)) <|
 .o none (.alloc 2 3 32 (.agg [(.bool false), .nilS, .nilS])) <|
 .o none (.mv 3 (.c (.int .i64 0))) .nil)) <| .seq (.seq (.rg (.o none (.ld 5 3 true (.t 1)) <|
 .o none (.call (some 6) false (.c (.fn 25 [] [])) [(.t 5)]) <|
 .o none (.un 7 .not (.t 6)) .nil)) <| .cond (.t 7) (.seq (.rg (.o none (.bld 8 [(.bool false), .nilS, .nilS] []) <|
 .o none (.st 3 (.t 2) (.t 8)) <|
 .o none (.mv 3 (.c (.int .i64 1))) .nil)) <| .ret) (.skip)) <| .seq (.seq (.rg (.o none (.fld 9 0 (.t 1)) <|
 .o none (.ld 10 1 false (.t 9)) <|
 .o none (.fld 11 1 (.t 1)) <|
 .o none (.ld 12 1 false (.t 11)) <|
 .o none (.bin 13 .neq false (.t 10) (.t 12)) .nil)) <| .cond (.t 13) (.seq (.rg (.o none (.bld 14 [(.bool false), .nilS, .nilS] []) <|
 .o none (.st 3 (.t 2) (.t 14)) <|
 .o none (.mv 3 (.c (.int .i64 16))) .nil)) <| .ret) (.skip)) <| .seq (.rg (.o none (.ld 15 3 true (.t 1)) <|
 .o none (.fld 17 1 (.t 1)) <|
 .o none (.ld 18 1 false (.t 17)) <|
 .br (.o none (.call (some 16) true (.c (.fn 78 [] [])) [(.t 15)]) <|
 .br (.o none (.call (some 19) false (.c (.fn 77 [] [])) [(.t 16), (.t 18)]) <|
 .o none (.alloc 4 5 93 (.agg [.nilS, .nilS, (.bool false), .nilS, .nilS])) <|
 .o none (.st 5 (.t 4) (.t 19)) .nil) (.o none (.alloc 4 5 93 (.agg [.nilS, .nilS, (.bool false), .nilS, .nilS])) <|
 .o none (.call (some 19) false (.c (.fn 77 [] [])) [(.t 16), (.t 18)]) <|
 .o none (.st 5 (.t 4) (.t 19)) .nil)) (.o none (.alloc 4 5 93 (.agg [.nilS, .nilS, (.bool false), .nilS, .nilS])) <|
 .o none (.call (some 16) true (.c (.fn 78 [] [])) [(.t 15)]) <|
 .o none (.call (some 19) false (.c (.fn 77 [] [])) [(.t 16), (.t 18)]) <|
 .o none (.st 5 (.t 4) (.t 19)) .nil))) <| .seq (.seq (.rg (.o none (.fld 20 1 (.t 4)) <|
 .o none (.ld 21 1 false (.t 20)) <|
 .o none (.len 22 (.t 21)) <|
 .o none (.fld 23 0 (.t 1)) <|
 .o none (.ld 24 1 false (.t 23)) <|
 .o none (.bin 25 .lss false (.t 22) (.t 24)) .nil)) <| .cond (.t 25) (.seq (.rg (.o none (.call (some 26) false (.c (.fn 79 [] [])) [(.c (.int .i64 0))]) <|
 .o none (.st 3 (.t 2) (.t 26)) <|
 .o none (.mv 3 (.c (.int .i64 0))) .nil)) <| .ret) (.skip)) <| .seq (.rg (.o none (.fld 27 2 (.t 4)) <|
 .o none (.ld 28 3 true (.t 27)) <|
 .o none (.st 3 (.t 2) (.t 28)) <|
 .o none (.mv 3 (.c (.int .i64 0))) .nil)) <| .ret⟩
theorem Qacn : Qf Tryz.prog Tryz.f16 = some c16 := by kernel_rfl
def Q5t : SFn := ⟨18, [.t 2], .seq (.rg (.o none (.mv 2 (.c .nilS)) .nil)) <| .seq (.rg (.o none (.mv 5 (.t 0)) <|
 .o none (.mk 6 3 56 32 (.agg [(.bool false), .nilS, .nilS]) (.t 5) (.t 5)) <|
 .o none (.mv 3 (.t 6)) .nil)) <| .seq (.seq (.rg (.o none (.mv 7 (.t 3)) <|
 .o none (.len 8 (.t 7)) <|
 .o none (.mv 9 (.c (.int .i64 0))) .nil)) <| .block 0 (.loop (.seq (.rg (.o none (.bin 10 .lss false (.t 9) (.t 8)) .nil)) <| .seq (.cond (.t 10) (.skip) (.exit 0)) <| .seq (.block 1 (.seq (.rg (.o none (.mv 11 (.t 9)) <|
 .o none (.mv 4 (.t 11)) .nil)) <| .rg (.o none (.mv 12 (.t 3)) <|
 .o none (.mv 13 (.t 4)) <|
 .o none (.call (some 14) false (.c (.fn 79 [] [])) [(.c (.int .i64 0))]) <|
 .o none (.idx 15 3 (.t 12) (.t 13)) <|
 .o none (.st 3 (.t 15) (.t 14)) .nil))) <| .rg (.o none (.bin 16 .add false (.t 9) (.c (.int .i64 1))) <|
 .o none (.mv 9 (.t 16)) .nil)))) <| .seq (.rg (.o none (.mv 17 (.t 3)) <|
 .o none (.mv 2 (.t 17)) .nil)) <| .ret⟩
theorem Q9w : Qf Tryz.prog Tryz.f116 = some Q5t := by kernel_rfl
def c26 : SFn := ⟨35, [.t 2], .seq (.rg (.o none (.box 1 3 24 (.t 0)) <|
 .o none (.mv 2 (.c (.bool false))) .nil)) <| .seq (.seq (.rg (.o none (.fld 3 0 (.t 1)) <|
 .o none (.ld 4 1 false (.t 3)) <|
 .o none (.bin 5 .lss false (.t 4) (.c (.int .i64 0))) <|
 .o none (.mv 6 (.t 5)) <|
 .o (some (6, false)) (.fld 7 0 (.t 1)) <|
 .o (some (6, false)) (.ld 8 1 false (.t 7)) <|
 .o (some (6, false)) (.bin 9 .gtr false (.t 8) (.c (.int .i64 40))) <|
 .o none (.pick 10 (.t 6) (.c (.bool true)) (.t 9)) <|
 .o none (.mv 11 (.t 10)) <|
 .o (some (11, false)) (.fld 12 1 (.t 1)) <|
 .o (some (11, false)) (.ld 13 1 false (.t 12)) <|
 .o (some (11, false)) (.bin 14 .lss false (.t 13) (.c (.int .i64 0))) <|
 .o none (.pick 15 (.t 11) (.c (.bool true)) (.t 14)) <|
 .o none (.mv 16 (.t 15)) <|
 .o (some (16, false)) (.fld 17 1 (.t 1)) <|
 .o (some (16, false)) (.ld 18 1 false (.t 17)) <|
 .o (some (16, false)) (.bin 19 .gtr false (.t 18) (.c (.int .i64 40))) <|
 .o none (.pick 20 (.t 16) (.c (.bool true)) (.t 19)) <|
 .o none (.mv 21 (.t 20)) <|
 .o (some (21, false)) (.fld 22 2 (.t 1)) <|
 .o (some (21, false)) (.ld 23 1 false (.t 22)) <|
 .o (some (21, false)) (.len 24 (.t 23)) <|
 .o (some (21, false)) (.fld 25 0 (.t 1)) <|
 .o (some (21, false)) (.ld 26 1 false (.t 25)) <|
 .o (some (21, false)) (.fld 27 1 (.t 1)) <|
 .o (some (21, false)) (.ld 28 1 false (.t 27)) <|
 .o (some (21, false)) (.bin 29 .mul false (.t 26) (.t 28)) <|
 .o (some (21, false)) (.bin 30 .neq false (.t 24) (.t 29)) <|
 .o none (.pick 31 (.t 21) (.c (.bool true)) (.t 30)) .nil)) <| .cond (.t 31) (.seq (.rg (.o none (.mv 2 (.c (.bool false))) .nil)) <| .ret) (.skip)) <| .seq (.rg (.o none (.fld 32 2 (.t 1)) <|
 .o none (.ld 33 1 false (.t 32)) <|
 .o none (.call (some 34) false (.c (.fn 90 [] [])) [(.t 33)]) <|
 .o none (.mv 2 (.t 34)) .nil)) <| .ret⟩
theorem Qaco : Qf Tryz.prog Tryz.f26 = some c26 := by kernel_rfl
def c90 : SFn := ⟨16, [.t 2], .seq (.rg (.o none (.mv 2 (.c (.bool false))) .nil)) <| .seq (.seq (.rg (.o none (.mv 3 (.c (.int .i64 0))) .nil)) <| .block 0 (.loop (.seq (.seq (.rg (.o none (.mv 4 (.t 3)) <|
 .o none (.mv 5 (.t 0)) <|
 .o none (.len 6 (.t 5)) <|
 .o none (.bin 7 .lss false (.t 4) (.t 6)) .nil)) <| .cond (.t 7) (.skip) (.exit 0)) <| .seq (.block 1 (.seq (.rg (.o none (.mv 10 (.t 0)) <|
 .o none (.mv 11 (.t 3)) <|
 .o none (.idx 12 3 (.t 10) (.t 11)) <|
 .o none (.ld 13 3 true (.t 12)) <|
 .o none (.call (some 14) false (.c (.fn 45 [] [])) [(.t 13)]) <|
 .o none (.un 15 .not (.t 14)) .nil)) <| .cond (.t 15) (.seq (.rg (.o none (.mv 2 (.c (.bool false))) .nil)) <| .ret) (.skip))) <| .rg (.o none (.mv 8 (.t 3)) <|
 .o none (.bin 9 .add false (.t 8) (.c (.int .i64 1))) <|
 .o none (.mv 3 (.t 9)) .nil)))) <| .seq (.rg (.o none (.mv 2 (.c (.bool true))) .nil)) <| .ret⟩
theorem Qacp : Qf Tryz.prog Tryz.f90 = some c90 := by kernel_rfl
def c91 : SFn := ⟨17, [.cell 6 3 true], .seq (.rg (.o none (.box 3 3 24 (.t 0)) <|
 .o none (.alloc 6 3 32 (.agg [(.bool false), .nilS, .nilS])) .nil)) <| .seq (.rg (.o none (.fld 7 2 (.t 3)) <|
 .o none (.ld 8 1 false (.t 7)) <|
 .o none (.mv 9 (.t 1)) <|
 .o none (.fld 10 1 (.t 3)) <|
 .o none (.ld 11 1 false (.t 10)) <|
 .o none (.bin 12 .mul false (.t 9) (.t 11)) <|
 .o none (.mv 13 (.t 2)) <|
 .o none (.bin 14 .add false (.t 12) (.t 13)) <|
 .o none (.idx 15 3 (.t 8) (.t 14)) <|
 .o none (.ld 16 3 true (.t 15)) <|
 .o none (.st 3 (.t 6) (.t 16)) .nil)) <| .ret⟩
theorem Qacq : Qf Tryz.prog Tryz.f91 = some c91 := by kernel_rfl
def c27 : SFn := ⟨31, [.t 4], .seq (.rg (.o none (.box 2 3 24 (.t 0)) <|
 .o none (.box 3 3 24 (.t 1)) <|
 .o none (.mv 4 (.c (.bool false))) .nil)) <| .seq (.seq (.rg (.o none (.fld 5 0 (.t 2)) <|
 .o none (.ld 6 1 false (.t 5)) <|
 .o none (.fld 7 0 (.t 3)) <|
 .o none (.ld 8 1 false (.t 7)) <|
 .o none (.bin 9 .neq false (.t 6) (.t 8)) <|
 .o none (.mv 10 (.t 9)) <|
 .o (some (10, false)) (.fld 11 1 (.t 2)) <|
 .o (some (10, false)) (.ld 12 1 false (.t 11)) <|
 .o (some (10, false)) (.fld 13 1 (.t 3)) <|
 .o (some (10, false)) (.ld 14 1 false (.t 13)) <|
 .o (some (10, false)) (.bin 15 .neq false (.t 12) (.t 14)) <|
 .o none (.pick 16 (.t 10) (.c (.bool true)) (.t 15)) <|
 .o none (.mv 17 (.t 16)) <|
 .o (some (17, false)) (.fld 18 2 (.t 2)) <|
 .o (some (17, false)) (.ld 19 1 false (.t 18)) <|
 .o (some (17, false)) (.len 20 (.t 19)) <|
 .o (some (17, false)) (.fld 21 2 (.t 3)) <|
 .o (some (17, false)) (.ld 22 1 false (.t 21)) <|
 .o (some (17, false)) (.len 23 (.t 22)) <|
 .o (some (17, false)) (.bin 24 .neq false (.t 20) (.t 23)) <|
 .o none (.pick 25 (.t 17) (.c (.bool true)) (.t 24)) .nil)) <| .cond (.t 25) (.seq (.rg (.o none (.mv 4 (.c (.bool false))) .nil)) <| .ret) (.skip)) <| .seq (.rg (.o none (.fld 26 2 (.t 2)) <|
 .o none (.ld 27 1 false (.t 26)) <|
 .o none (.fld 28 2 (.t 3)) <|
 .o none (.ld 29 1 false (.t 28)) <|
 .o none (.call (some 30) false (.c (.fn 33 [] [])) [(.t 27), (.t 29)]) <|
 .o none (.mv 4 (.t 30)) .nil)) <| .ret⟩
theorem Qacr : Qf Tryz.prog Tryz.f27 = some c27 := by kernel_rfl
def c33 : SFn := ⟨27, [.t 4], .seq (.rg (.o none (.mv 4 (.c (.bool false))) .nil)) <| .seq (.seq (.rg (.o none (.mv 6 (.t 0)) <|
 .o none (.len 7 (.t 6)) <|
 .o none (.mv 8 (.t 1)) <|
 .o none (.len 9 (.t 8)) <|
 .o none (.bin 10 .neq false (.t 7) (.t 9)) .nil)) <| .cond (.t 10) (.seq (.rg (.o none (.mv 4 (.c (.bool false))) .nil)) <| .ret) (.skip)) <| .seq (.seq (.rg (.o none (.mv 5 (.c (.int .i64 0))) .nil)) <| .block 0 (.loop (.seq (.seq (.rg (.o none (.mv 11 (.t 5)) <|
 .o none (.mv 12 (.t 0)) <|
 .o none (.len 13 (.t 12)) <|
 .o none (.bin 14 .lss false (.t 11) (.t 13)) .nil)) <| .cond (.t 14) (.skip) (.exit 0)) <| .seq (.block 1 (.seq (.rg (.o none (.mv 17 (.t 0)) <|
 .o none (.mv 18 (.t 5)) <|
 .o none (.idx 19 3 (.t 17) (.t 18)) <|
 .o none (.ld 20 3 true (.t 19)) <|
 .o none (.mv 21 (.t 1)) <|
 .o none (.mv 22 (.t 5)) <|
 .o none (.idx 23 3 (.t 21) (.t 22)) <|
 .o none (.ld 24 3 true (.t 23)) <|
 .o none (.call (some 25) false (.c (.fn 72 [] [])) [(.t 20), (.t 24)]) <|
 .o none (.un 26 .not (.t 25)) .nil)) <| .cond (.t 26) (.seq (.rg (.o none (.mv 4 (.c (.bool false))) .nil)) <| .ret) (.skip))) <| .rg (.o none (.mv 15 (.t 5)) <|
 .o none (.bin 16 .add false (.t 15) (.c (.int .i64 1))) <|
 .o none (.mv 5 (.t 16)) .nil)))) <| .seq (.rg (.o none (.mv 4 (.c (.bool true))) .nil)) <| .ret⟩
theorem Qacs : Qf Tryz.prog Tryz.f33 = some c33 := by kernel_rfl
def Q5u : SFn := ⟨26, [.cell 4 3 true], .seq (.rg (.o none (.alloc 4 3 32 (.agg [(.bool false), .nilS, .nilS])) .nil)) <| .seq (.rg (.o none (.call (some 7) false (.c (.fn 34 [] [])) [(.c (.int .i64 0))]) <|
 .o none (.alloc 5 3 32 (.agg [(.bool false), .nilS, .nilS])) <|
 .o none (.st 3 (.t 5) (.t 7)) .nil)) <| .seq (.seq (.rg (.o none (.mv 6 (.c (.int .i64 0))) .nil)) <| .block 0 (.loop (.seq (.seq (.rg (.o none (.mv 8 (.t 6)) <|
 .o none (.mv 9 (.t 0)) <|
 .o none (.len 10 (.t 9)) <|
 .o none (.bin 11 .lss false (.t 8) (.t 10)) .nil)) <| .cond (.t 11) (.skip) (.exit 0)) <| .seq (.block 1 (.rg (.o none (.ld 14 3 true (.t 5)) <|
 .o none (.mv 15 (.t 0)) <|
 .o none (.mv 16 (.t 6)) <|
 .o none (.idx 17 3 (.t 15) (.t 16)) <|
 .o none (.ld 18 3 true (.t 17)) <|
 .o none (.mv 19 (.t 1)) <|
 .o none (.mv 20 (.t 6)) <|
 .o none (.idx 21 3 (.t 19) (.t 20)) <|
 .o none (.ld 22 3 true (.t 21)) <|
 .o none (.call (some 23) true (.c (.fn 83 [] [])) [(.t 18), (.t 22)]) <|
 .o none (.call (some 24) true (.c (.fn 101 [] [])) [(.t 14), (.t 23)]) <|
 .o none (.st 3 (.t 5) (.t 24)) .nil))) <| .rg (.o none (.mv 12 (.t 6)) <|
 .o none (.bin 13 .add false (.t 12) (.c (.int .i64 1))) <|
 .o none (.mv 6 (.t 13)) .nil)))) <| .seq (.rg (.o none (.ld 25 3 true (.t 5)) <|
 .o none (.st 3 (.t 4) (.t 25)) .nil)) <| .ret⟩
theorem Q9x : Qf Tryz.prog Tryz.f102 = some Q5u := by kernel_rfl
def Q5v : SFn := ⟨17, [.t 4], .seq (.rg (.o none (.box 2 3 24 (.t 0)) <|
 .o none (.mv 4 (.c .nilS)) .nil)) <| .seq (.rg (.o none (.fld 5 2 (.t 2)) <|
 .o none (.ld 6 1 false (.t 5)) <|
 .o none (.mv 7 (.t 1)) <|
 .o none (.fld 8 1 (.t 2)) <|
 .o none (.ld 9 1 false (.t 8)) <|
 .o none (.bin 10 .mul false (.t 7) (.t 9)) <|
 .o none (.mv 11 (.t 1)) <|
 .o none (.bin 12 .add false (.t 11) (.c (.int .i64 1))) <|
 .o none (.fld 13 1 (.t 2)) <|
 .o none (.ld 14 1 false (.t 13)) <|
 .o none (.bin 15 .mul false (.t 12) (.t 14)) <|
 .o none (.sl 16 3 (.t 6) (some (.t 10)) (some (.t 15)) none) <|
 .o none (.mv 4 (.t 16)) .nil)) <| .ret⟩
theorem Q9y : Qf Tryz.prog Tryz.f103 = some Q5v := by kernel_rfl
def c76 : SFn := ⟨20, [.t 2], .seq (.rg (.o none (.mv 2 (.c .nilS)) .nil)) <| .seq (.rg (.o none (.mv 3 (.c .nilS)) .nil)) <| .seq (.seq (.rg (.o none (.mv 4 (.c (.int .i64 0))) .nil)) <| .block 0 (.loop (.seq (.seq (.rg (.o none (.mv 5 (.t 4)) <|
 .o none (.mv 6 (.t 0)) <|
 .o none (.len 7 (.t 6)) <|
 .o none (.bin 8 .lss false (.t 5) (.t 7)) .nil)) <| .cond (.t 8) (.skip) (.exit 0)) <| .seq (.block 1 (.rg (.o none (.mv 11 (.t 3)) <|
 .o none (.mv 12 (.t 0)) <|
 .o none (.mv 13 (.t 4)) <|
 .o none (.idx 14 1 (.t 12) (.t 13)) <|
 .o none (.ld 15 1 false (.t 14)) <|
 .o none (.call (some 16) false (.c (.fn 34 [] [])) [(.t 15)]) <|
 .o none (.bs 17 3 32 [(.t 16)]) <|
 .o none (.app 18 3 56 32 (.t 11) (.t 17)) <|
 .o none (.mv 3 (.t 18)) .nil))) <| .rg (.o none (.mv 9 (.t 4)) <|
 .o none (.bin 10 .add false (.t 9) (.c (.int .i64 1))) <|
 .o none (.mv 4 (.t 10)) .nil)))) <| .seq (.rg (.o none (.mv 19 (.t 3)) <|
 .o none (.mv 2 (.t 19)) .nil)) <| .ret⟩
theorem Qact : Qf Tryz.prog Tryz.f76 = some c76 := by kernel_rfl
def c15 : SFn := ⟨54, [.t 0], .seq (.rg (.o none (.mv 0 (.c (.bool false))) .nil)) <| .seq (.rg (.o none (.bs 9 1 3 [(.c (.int .i64 0)), (.c (.int .i64 1)), (.c (.int .i64 1)), (.c (.int .i64 0))]) <|
 .o none (.call (some 10) false (.c (.fn 76 [] [])) [(.t 9)]) <|
 .o none (.call (some 11) false (.c (.fn 21 [] [])) [(.c (.int .i64 2)), (.c (.int .i64 2)), (.t 10)]) <|
 .o none (.mv 8 (.t 11)) <|
 .o none (.ext 12 (.t 8) 0) <|
 .o none (.ext 13 (.t 8) 1) <|
 .o none (.alloc 1 3 24 (.agg [(.int .i64 0), (.int .i64 0), .nilS])) <|
 .o none (.st 3 (.t 1) (.t 12)) <|
 .o none (.mv 2 (.t 13)) .nil)) <| .seq (.rg (.o none (.ld 15 3 true (.t 1)) <|
 .o none (.call (some 16) false (.c (.fn 16 [] [])) [(.t 15)]) <|
 .o none (.mv 14 (.t 16)) <|
 .o none (.ext 17 (.t 14) 0) <|
 .o none (.ext 18 (.t 14) 1) <|
 .o none (.alloc 3 3 32 (.agg [(.bool false), .nilS, .nilS])) <|
 .o none (.st 3 (.t 3) (.t 17)) <|
 .o none (.mv 4 (.t 18)) .nil)) <| .seq (.rg (.o none (.ld 20 3 true (.t 1)) <|
 .o none (.call (some 21) false (.c (.fn 29 [] [])) [(.t 20)]) <|
 .o none (.mv 19 (.t 21)) <|
 .o none (.ext 22 (.t 19) 0) <|
 .o none (.ext 23 (.t 19) 1) <|
 .o none (.ext 24 (.t 19) 2) <|
 .o none (.alloc 6 3 24 (.agg [(.int .i64 0), (.int .i64 0), .nilS])) <|
 .o none (.mv 5 (.t 22)) <|
 .o none (.st 3 (.t 6) (.t 23)) <|
 .o none (.mv 7 (.t 24)) .nil)) <| .seq (.rg (.o none (.mv 25 (.t 2)) <|
 .o none (.bin 26 .eql false (.t 25) (.c (.int .i64 0))) <|
 .o none (.mv 27 (.t 26)) <|
 .o (some (27, true)) (.mv 28 (.t 4)) <|
 .o (some (27, true)) (.bin 29 .eql false (.t 28) (.c (.int .i64 0))) <|
 .o none (.pick 30 (.t 27) (.t 29) (.c (.bool false))) <|
 .o none (.mv 31 (.t 30)) <|
 .o (some (31, true)) (.mv 32 (.t 7)) <|
 .o (some (31, true)) (.bin 33 .eql false (.t 32) (.c (.int .i64 0))) <|
 .o none (.pick 34 (.t 31) (.t 33) (.c (.bool false))) <|
 .o none (.mv 35 (.t 34)) <|
 .o (some (35, true)) (.ld 36 3 true (.t 3)) <|
 .o (some (35, true)) (.call (some 37) true (.c (.fn 34 [] [])) [(.c (.int .i64 (-1)))]) <|
 .o (some (35, true)) (.call (some 38) true (.c (.fn 72 [] [])) [(.t 36), (.t 37)]) <|
 .o none (.pick 39 (.t 35) (.t 38) (.c (.bool false))) <|
 .o none (.mv 40 (.t 39)) <|
 .o (some (40, true)) (.mv 41 (.t 5)) <|
 .o (some (40, true)) (.call (some 42) true (.c (.fn 71 [] [])) [(.c (.int .i64 1)), (.c (.int .i64 2))]) <|
 .o (some (40, true)) (.call (some 43) true (.c (.fn 71 [] [])) [(.c (.int .i64 (-1))), (.c (.int .i64 2))]) <|
 .o (some (40, true)) (.bs 44 3 32 [(.t 42), (.t 43)]) <|
 .o (some (40, true)) (.call (some 45) true (.c (.fn 33 [] [])) [(.t 41), (.t 44)]) <|
 .o none (.pick 46 (.t 40) (.t 45) (.c (.bool false))) <|
 .o none (.mv 47 (.t 46)) <|
 .o (some (47, true)) (.fld 48 2 (.t 6)) <|
 .o (some (47, true)) (.ld 49 1 false (.t 48)) <|
 .o (some (47, true)) (.bs 50 1 3 [(.c (.int .i64 1)), (.c (.int .i64 1)), (.c (.int .i64 (-1))), (.c (.int .i64 1))]) <|
 .o (some (47, true)) (.call (some 51) true (.c (.fn 76 [] [])) [(.t 50)]) <|
 .o (some (47, true)) (.call (some 52) true (.c (.fn 33 [] [])) [(.t 49), (.t 51)]) <|
 .o none (.pick 53 (.t 47) (.t 52) (.c (.bool false))) <|
 .o none (.mv 0 (.t 53)) .nil)) <| .ret⟩
theorem Qacu : Qf Tryz.prog Tryz.f15 = some c15 := by kernel_rfl
def c28 : SFn := ⟨33, [.t 4], .seq (.rg (.o none (.mv 4 (.c (.bool false))) .nil)) <| .seq (.seq (.rg (.o none (.mv 6 (.t 0)) <|
 .o none (.len 7 (.t 6)) <|
 .o none (.mv 8 (.t 1)) <|
 .o none (.bin 9 .gtr false (.t 7) (.t 8)) .nil)) <| .cond (.t 9) (.seq (.rg (.o none (.mv 4 (.c (.bool false))) .nil)) <| .ret) (.skip)) <| .seq (.seq (.rg (.o none (.mv 5 (.c (.int .i64 0))) .nil)) <| .block 0 (.loop (.seq (.seq (.rg (.o none (.mv 10 (.t 5)) <|
 .o none (.mv 11 (.t 0)) <|
 .o none (.len 12 (.t 11)) <|
 .o none (.bin 13 .lss false (.t 10) (.t 12)) .nil)) <| .cond (.t 13) (.skip) (.exit 0)) <| .seq (.block 1 (.seq (.rg (.o none (.mv 16 (.t 0)) <|
 .o none (.mv 17 (.t 5)) <|
 .o none (.idx 18 3 (.t 16) (.t 17)) <|
 .o none (.fld 19 0 (.t 18)) <|
 .o none (.fld 20 1 (.t 19)) <|
 .o none (.ld 21 1 false (.t 20)) <|
 .o none (.len 22 (.t 21)) <|
 .o none (.bin 23 .gtr false (.t 22) (.c (.int .i64 3))) <|
 .o none (.mv 24 (.t 23)) <|
 .o (some (24, false)) (.mv 25 (.t 0)) <|
 .o (some (24, false)) (.mv 26 (.t 5)) <|
 .o (some (24, false)) (.idx 27 3 (.t 25) (.t 26)) <|
 .o (some (24, false)) (.fld 28 2 (.t 27)) <|
 .o (some (24, false)) (.ld 29 1 false (.t 28)) <|
 .o (some (24, false)) (.len 30 (.t 29)) <|
 .o (some (24, false)) (.bin 31 .gtr false (.t 30) (.c (.int .i64 3))) <|
 .o none (.pick 32 (.t 24) (.c (.bool true)) (.t 31)) .nil)) <| .cond (.t 32) (.seq (.rg (.o none (.mv 4 (.c (.bool false))) .nil)) <| .ret) (.skip))) <| .rg (.o none (.mv 14 (.t 5)) <|
 .o none (.bin 15 .add false (.t 14) (.c (.int .i64 1))) <|
 .o none (.mv 5 (.t 15)) .nil)))) <| .seq (.rg (.o none (.mv 4 (.c (.bool true))) .nil)) <| .ret⟩
theorem Qacv : Qf Tryz.prog Tryz.f28 = some c28 := by kernel_rfl
def c14 : SFn := ⟨17, [.t 2], .seq (.rg (.o none (.mv 2 (.c (.bool false))) .nil)) <| .seq (.seq (.rg (.o none (.mv 3 (.c (.int .i64 0))) .nil)) <| .block 0 (.loop (.seq (.seq (.rg (.o none (.mv 4 (.t 3)) <|
 .o none (.mv 5 (.t 0)) <|
 .o none (.len 6 (.t 5)) <|
 .o none (.bin 7 .lss false (.t 4) (.t 6)) .nil)) <| .cond (.t 7) (.skip) (.exit 0)) <| .seq (.block 1 (.seq (.rg (.o none (.mv 10 (.t 0)) <|
 .o none (.mv 11 (.t 3)) <|
 .o none (.idx 12 3 (.t 10) (.t 11)) <|
 .o none (.fld 13 2 (.t 12)) <|
 .o none (.ld 14 1 false (.t 13)) <|
 .o none (.call (some 15) false (.c (.fn 28 [] [])) [(.t 14), (.c (.int .i64 25))]) <|
 .o none (.un 16 .not (.t 15)) .nil)) <| .cond (.t 16) (.seq (.rg (.o none (.mv 2 (.c (.bool false))) .nil)) <| .ret) (.skip))) <| .rg (.o none (.mv 8 (.t 3)) <|
 .o none (.bin 9 .add false (.t 8) (.c (.int .i64 1))) <|
 .o none (.mv 3 (.t 9)) .nil)))) <| .seq (.rg (.o none (.mv 2 (.c (.bool true))) .nil)) <| .ret⟩
theorem Qacw : Qf Tryz.prog Tryz.f14 = some c14 := by kernel_rfl
def c51 : SFn := ⟨12, [.t 4], .seq (.rg (.o none (.box 2 3 24 (.t 0)) <|
 .o none (.box 3 3 24 (.t 1)) <|
 .o none (.mv 4 (.c (.bool false))) .nil)) <| .seq (.rg (.o none (.ld 5 3 true (.t 2)) <|
 .o none (.ld 6 3 true (.t 3)) <|
 .o none (.call (some 7) false (.c (.fn 27 [] [])) [(.t 5), (.t 6)]) <|
 .o none (.mv 8 (.t 7)) <|
 .o (some (8, true)) (.ld 9 3 true (.t 2)) <|
 .o (some (8, true)) (.call (some 10) false (.c (.fn 26 [] [])) [(.t 9)]) <|
 .o none (.pick 11 (.t 8) (.t 10) (.c (.bool false))) <|
 .o none (.mv 4 (.t 11)) .nil)) <| .ret⟩
theorem Qacx : Qf Tryz.prog Tryz.f51 = some c51 := by kernel_rfl
def c4 : SFn := ⟨82, [.t 6], .seq (.rg (.o none (.box 3 3 24 (.t 0)) <|
 .o none (.mv 6 (.c (.bool false))) .nil)) <| .seq (.seq (.rg (.o none (.ld 15 3 true (.t 3)) <|
 .o none (.bs 16 3 24 [(.t 15)]) <|
 .o none (.call (some 17) false (.c (.fn 14 [] [])) [(.t 16)]) <|
 .o none (.un 18 .not (.t 17)) .nil)) <| .cond (.t 18) (.seq (.rg (.o none (.call (some 19) false (.c (.fn 15 [] [])) []) <|
 .o none (.mv 6 (.t 19)) .nil)) <| .ret) (.skip)) <| .seq (.rg (.o none (.fld 21 0 (.t 3)) <|
 .o none (.ld 22 1 false (.t 21)) <|
 .o none (.fld 23 1 (.t 3)) <|
 .o none (.ld 24 1 false (.t 23)) <|
 .o none (.fld 25 2 (.t 3)) <|
 .o none (.ld 26 1 false (.t 25)) <|
 .o none (.call (some 27) false (.c (.fn 21 [] [])) [(.t 22), (.t 24), (.t 26)]) <|
 .o none (.mv 20 (.t 27)) <|
 .o none (.ext 28 (.t 20) 0) <|
 .o none (.ext 29 (.t 20) 1) <|
 .o none (.alloc 7 3 24 (.agg [(.int .i64 0), (.int .i64 0), .nilS])) <|
 .o none (.st 3 (.t 7) (.t 28)) <|
 .o none (.mv 8 (.t 29)) .nil)) <| .seq (.rg (.o none (.fld 31 0 (.t 3)) <|
 .o none (.ld 32 1 false (.t 31)) <|
 .o none (.fld 33 1 (.t 3)) <|
 .o none (.ld 34 1 false (.t 33)) <|
 .o none (.fld 35 2 (.t 3)) <|
 .o none (.ld 36 1 false (.t 35)) <|
 .o none (.call (some 37) false (.c (.fn 22 [] [])) [(.t 32), (.t 34), (.t 36)]) <|
 .o none (.mv 30 (.t 37)) <|
 .o none (.ext 38 (.t 30) 0) <|
 .o none (.ext 39 (.t 30) 1) <|
 .o none (.alloc 9 3 24 (.agg [(.int .i64 0), (.int .i64 0), .nilS])) <|
 .o none (.st 3 (.t 9) (.t 38)) <|
 .o none (.mv 10 (.t 39)) .nil)) <| .seq (.rg (.o none (.ld 41 3 true (.t 3)) <|
 .o none (.mv 42 (.t 1)) <|
 .o none (.mv 43 (.t 2)) <|
 .o none (.call (some 44) false (.c (.fn 23 [] [])) [(.t 41), (.t 42), (.t 43)]) <|
 .o none (.mv 40 (.t 44)) <|
 .o none (.ext 45 (.t 40) 0) <|
 .o none (.ext 46 (.t 40) 1) <|
 .o none (.alloc 11 3 32 (.agg [(.bool false), .nilS, .nilS])) <|
 .o none (.st 3 (.t 11) (.t 45)) <|
 .o none (.mv 12 (.t 46)) .nil)) <| .seq (.rg (.o none (.ld 48 3 true (.t 3)) <|
 .o none (.mv 49 (.t 1)) <|
 .o none (.mv 50 (.t 2)) <|
 .o none (.call (some 51) false (.c (.fn 24 [] [])) [(.t 48), (.t 49), (.t 50)]) <|
 .o none (.mv 47 (.t 51)) <|
 .o none (.ext 52 (.t 47) 0) <|
 .o none (.ext 53 (.t 47) 1) <|
 .o none (.alloc 13 3 32 (.agg [(.bool false), .nilS, .nilS])) <|
 .o none (.st 3 (.t 13) (.t 52)) <|
 .o none (.mv 14 (.t 53)) .nil)) <| .seq (.rg (.o none (.ld 54 3 true (.t 3)) <|
 .o none (.ld 56 3 true (.t 3)) <|
 .o none (.call (some 55) true (.c (.fn 25 [] [])) [(.t 54)]) <|
 .o none (.call (some 57) true (.c (.fn 26 [] [])) [(.t 56)]) <|
 .o none (.bin 58 .eql true (.t 55) (.t 57)) <|
 .o none (.mv 59 (.t 58)) <|
 .o (some (59, true)) (.ld 60 3 true (.t 7)) <|
 .o (some (59, true)) (.ld 61 3 true (.t 9)) <|
 .o (some (59, true)) (.call (some 62) true (.c (.fn 27 [] [])) [(.t 60), (.t 61)]) <|
 .o none (.pick 63 (.t 59) (.t 62) (.c (.bool false))) <|
 .o none (.mv 64 (.t 63)) <|
 .o (some (64, true)) (.mv 65 (.t 8)) <|
 .o (some (64, true)) (.mv 66 (.t 10)) <|
 .o (some (64, true)) (.bin 67 .eql false (.t 65) (.t 66)) <|
 .o none (.pick 68 (.t 64) (.t 67) (.c (.bool false))) <|
 .o none (.mv 69 (.t 68)) <|
 .o (some (69, true)) (.ld 70 3 true (.t 11)) <|
 .o (some (69, true)) (.ld 71 3 true (.t 13)) <|
 .o (some (69, true)) (.call (some 72) true (.c (.fn 20 [] [])) [(.t 70), (.t 71)]) <|
 .o none (.pick 73 (.t 69) (.t 72) (.c (.bool false))) <|
 .o none (.mv 74 (.t 73)) <|
 .o (some (74, true)) (.mv 75 (.t 12)) <|
 .o (some (74, true)) (.mv 76 (.t 14)) <|
 .o (some (74, true)) (.bin 77 .eql false (.t 75) (.t 76)) <|
 .o none (.pick 78 (.t 74) (.t 77) (.c (.bool false))) <|
 .o none (.mv 79 (.t 78)) <|
 .o (some (79, true)) (.call (some 80) true (.c (.fn 15 [] [])) []) <|
 .o none (.pick 81 (.t 79) (.t 80) (.c (.bool false))) <|
 .o none (.mv 6 (.t 81)) .nil)) <| .ret⟩
def c9 : SFn := ⟨82, [.t 4], .seq (.rg (.o none (.box 2 3 24 (.t 0)) <|
 .o none (.box 3 3 24 (.t 1)) <|
 .o none (.mv 4 (.c (.bool false))) .nil)) <| .seq (.seq (.rg (.o none (.ld 14 3 true (.t 2)) <|
 .o none (.ld 15 3 true (.t 3)) <|
 .o none (.bs 16 3 24 [(.t 14), (.t 15)]) <|
 .o none (.call (some 17) false (.c (.fn 14 [] [])) [(.t 16)]) <|
 .o none (.un 18 .not (.t 17)) .nil)) <| .cond (.t 18) (.seq (.rg (.o none (.call (some 19) false (.c (.fn 15 [] [])) []) <|
 .o none (.mv 4 (.t 19)) .nil)) <| .ret) (.skip)) <| .seq (.rg (.o none (.ld 21 3 true (.t 2)) <|
 .o none (.call (some 22) false (.c (.fn 46 [] [])) [(.t 21)]) <|
 .o none (.mv 20 (.t 22)) <|
 .o none (.ext 23 (.t 20) 0) <|
 .o none (.ext 24 (.t 20) 1) <|
 .o none (.alloc 5 3 24 (.agg [(.int .i64 0), (.int .i64 0), .nilS])) <|
 .o none (.st 3 (.t 5) (.t 23)) <|
 .o none (.mv 6 (.t 24)) .nil)) <| .seq (.rg (.o none (.ld 26 3 true (.t 2)) <|
 .o none (.call (some 27) false (.c (.fn 47 [] [])) [(.t 26)]) <|
 .o none (.mv 25 (.t 27)) <|
 .o none (.ext 28 (.t 25) 0) <|
 .o none (.ext 29 (.t 25) 1) <|
 .o none (.alloc 7 3 24 (.agg [(.int .i64 0), (.int .i64 0), .nilS])) <|
 .o none (.st 3 (.t 7) (.t 28)) <|
 .o none (.mv 8 (.t 29)) .nil)) <| .seq (.rg (.o none (.ld 31 3 true (.t 2)) <|
 .o none (.ld 32 3 true (.t 3)) <|
 .o none (.call (some 33) false (.c (.fn 48 [] [])) [(.t 31), (.t 32)]) <|
 .o none (.mv 30 (.t 33)) <|
 .o none (.ext 34 (.t 30) 0) <|
 .o none (.ext 35 (.t 30) 1) <|
 .o none (.alloc 9 3 24 (.agg [(.int .i64 0), (.int .i64 0), .nilS])) <|
 .o none (.st 3 (.t 9) (.t 34)) <|
 .o none (.mv 10 (.t 35)) .nil)) <| .seq (.rg (.o none (.ld 37 3 true (.t 2)) <|
 .o none (.ld 38 3 true (.t 3)) <|
 .o none (.call (some 39) false (.c (.fn 49 [] [])) [(.t 37), (.t 38)]) <|
 .o none (.mv 36 (.t 39)) <|
 .o none (.ext 40 (.t 36) 0) <|
 .o none (.ext 41 (.t 36) 1) <|
 .o none (.alloc 11 3 24 (.agg [(.int .i64 0), (.int .i64 0), .nilS])) <|
 .o none (.st 3 (.t 11) (.t 40)) <|
 .o none (.mv 12 (.t 41)) .nil)) <| .seq (.rg (.o none (.ld 42 3 true (.t 2)) <|
 .o none (.call (some 43) false (.c (.fn 26 [] [])) [(.t 42)]) <|
 .o none (.mv 44 (.t 43)) <|
 .o (some (44, true)) (.ld 45 3 true (.t 3)) <|
 .o (some (44, true)) (.call (some 46) false (.c (.fn 26 [] [])) [(.t 45)]) <|
 .o none (.pick 47 (.t 44) (.t 46) (.c (.bool false))) <|
 .o none (.mv 13 (.t 47)) .nil)) <| .seq (.rg (.o none (.mv 48 (.t 13)) <|
 .o none (.un 49 .not (.t 48)) <|
 .o none (.mv 50 (.t 49)) <|
 .o (some (50, false)) (.ld 51 3 true (.t 2)) <|
 .o (some (50, false)) (.ld 52 3 true (.t 3)) <|
 .o (some (50, false)) (.ld 54 3 true (.t 2)) <|
 .o (some (50, false)) (.ld 55 3 true (.t 3)) <|
 .o (some (50, false)) (.call (some 53) true (.c (.fn 50 [] [])) [(.t 51), (.t 52)]) <|
 .o (some (50, false)) (.call (some 56) true (.c (.fn 27 [] [])) [(.t 54), (.t 55)]) <|
 .o (some (50, false)) (.bin 57 .eql true (.t 53) (.t 56)) <|
 .o none (.pick 58 (.t 50) (.c (.bool true)) (.t 57)) <|
 .o none (.mv 59 (.t 58)) <|
 .o (some (59, true)) (.ld 60 3 true (.t 5)) <|
 .o (some (59, true)) (.ld 61 3 true (.t 7)) <|
 .o (some (59, true)) (.call (some 62) true (.c (.fn 51 [] [])) [(.t 60), (.t 61)]) <|
 .o none (.pick 63 (.t 59) (.t 62) (.c (.bool false))) <|
 .o none (.mv 64 (.t 63)) <|
 .o (some (64, true)) (.mv 65 (.t 6)) <|
 .o (some (64, true)) (.mv 66 (.t 8)) <|
 .o (some (64, true)) (.bin 67 .eql false (.t 65) (.t 66)) <|
 .o none (.pick 68 (.t 64) (.t 67) (.c (.bool false))) <|
 .o none (.mv 69 (.t 68)) <|
 .o (some (69, true)) (.ld 70 3 true (.t 9)) <|
 .o (some (69, true)) (.ld 71 3 true (.t 11)) <|
 .o (some (69, true)) (.call (some 72) true (.c (.fn 51 [] [])) [(.t 70), (.t 71)]) <|
 .o none (.pick 73 (.t 69) (.t 72) (.c (.bool false))) <|
 .o none (.mv 74 (.t 73)) <|
 .o (some (74, true)) (.mv 75 (.t 10)) <|
 .o (some (74, true)) (.mv 76 (.t 12)) <|
 .o (some (74, true)) (.bin 77 .eql false (.t 75) (.t 76)) <|
 .o none (.pick 78 (.t 74) (.t 77) (.c (.bool false))) <|
 .o none (.mv 79 (.t 78)) <|
 .o (some (79, true)) (.call (some 80) true (.c (.fn 15 [] [])) []) <|
 .o none (.pick 81 (.t 79) (.t 80) (.c (.bool false))) <|
 .o none (.mv 4 (.t 81)) .nil)) <| .ret⟩
theorem Qsl : Qf Tryz.prog Tryz.f9 = some c9 := by kernel_rfl
def c3 : SFn := ⟨57, [.t 2], .seq (.rg (.o none (.box 1 3 24 (.t 0)) <|
 .o none (.mv 2 (.c (.bool false))) .nil)) <| .seq (.seq (.rg (.o none (.ld 11 3 true (.t 1)) <|
 .o none (.bs 12 3 24 [(.t 11)]) <|
 .o none (.call (some 13) false (.c (.fn 14 [] [])) [(.t 12)]) <|
 .o none (.un 14 .not (.t 13)) .nil)) <| .cond (.t 14) (.seq (.rg (.o none (.call (some 15) false (.c (.fn 15 [] [])) []) <|
 .o none (.mv 2 (.t 15)) .nil)) <| .ret) (.skip)) <| .seq (.rg (.o none (.ld 17 3 true (.t 1)) <|
 .o none (.call (some 18) false (.c (.fn 16 [] [])) [(.t 17)]) <|
 .o none (.mv 16 (.t 18)) <|
 .o none (.ext 19 (.t 16) 0) <|
 .o none (.ext 20 (.t 16) 1) <|
 .o none (.alloc 3 3 32 (.agg [(.bool false), .nilS, .nilS])) <|
 .o none (.st 3 (.t 3) (.t 19)) <|
 .o none (.mv 4 (.t 20)) .nil)) <| .seq (.rg (.o none (.ld 22 3 true (.t 1)) <|
 .o none (.call (some 23) false (.c (.fn 17 [] [])) [(.t 22)]) <|
 .o none (.mv 21 (.t 23)) <|
 .o none (.ext 24 (.t 21) 0) <|
 .o none (.ext 25 (.t 21) 1) <|
 .o none (.alloc 5 3 32 (.agg [(.bool false), .nilS, .nilS])) <|
 .o none (.st 3 (.t 5) (.t 24)) <|
 .o none (.mv 6 (.t 25)) .nil)) <| .seq (.rg (.o none (.ld 27 3 true (.t 1)) <|
 .o none (.call (some 28) false (.c (.fn 18 [] [])) [(.t 27)]) <|
 .o none (.mv 26 (.t 28)) <|
 .o none (.ext 29 (.t 26) 0) <|
 .o none (.ext 30 (.t 26) 1) <|
 .o none (.mv 7 (.t 29)) <|
 .o none (.mv 8 (.t 30)) .nil)) <| .seq (.rg (.o none (.ld 32 3 true (.t 1)) <|
 .o none (.call (some 33) false (.c (.fn 19 [] [])) [(.t 32)]) <|
 .o none (.mv 31 (.t 33)) <|
 .o none (.ext 34 (.t 31) 0) <|
 .o none (.ext 35 (.t 31) 1) <|
 .o none (.mv 9 (.t 34)) <|
 .o none (.mv 10 (.t 35)) .nil)) <| .seq (.rg (.o none (.ld 36 3 true (.t 3)) <|
 .o none (.ld 37 3 true (.t 5)) <|
 .o none (.call (some 38) false (.c (.fn 20 [] [])) [(.t 36), (.t 37)]) <|
 .o none (.mv 39 (.t 38)) <|
 .o (some (39, true)) (.mv 40 (.t 4)) <|
 .o (some (39, true)) (.mv 41 (.t 6)) <|
 .o (some (39, true)) (.bin 42 .eql false (.t 40) (.t 41)) <|
 .o none (.pick 43 (.t 39) (.t 42) (.c (.bool false))) <|
 .o none (.mv 44 (.t 43)) <|
 .o (some (44, true)) (.mv 45 (.t 7)) <|
 .o (some (44, true)) (.mv 46 (.t 9)) <|
 .o (some (44, true)) (.bin 47 .eql false (.t 45) (.t 46)) <|
 .o none (.pick 48 (.t 44) (.t 47) (.c (.bool false))) <|
 .o none (.mv 49 (.t 48)) <|
 .o (some (49, true)) (.mv 50 (.t 8)) <|
 .o (some (49, true)) (.mv 51 (.t 10)) <|
 .o (some (49, true)) (.bin 52 .eql false (.t 50) (.t 51)) <|
 .o none (.pick 53 (.t 49) (.t 52) (.c (.bool false))) <|
 .o none (.mv 54 (.t 53)) <|
 .o (some (54, true)) (.call (some 55) false (.c (.fn 15 [] [])) []) <|
 .o none (.pick 56 (.t 54) (.t 55) (.c (.bool false))) <|
 .o none (.mv 2 (.t 56)) .nil)) <| .ret⟩
def c5 : SFn := ⟨75, [.t 4], .seq (.rg (.o none (.box 2 3 24 (.t 0)) <|
 .o none (.mv 4 (.c (.bool false))) .nil)) <| .seq (.seq (.rg (.o none (.ld 15 3 true (.t 2)) <|
 .o none (.bs 16 3 24 [(.t 15)]) <|
 .o none (.call (some 17) false (.c (.fn 14 [] [])) [(.t 16)]) <|
 .o none (.un 18 .not (.t 17)) <|
 .o none (.mv 19 (.t 18)) <|
 .o (some (19, false)) (.mv 20 (.t 1)) <|
 .o (some (19, false)) (.call (some 21) false (.c (.fn 28 [] [])) [(.t 20), (.c (.int .i64 8))]) <|
 .o (some (19, false)) (.un 22 .not (.t 21)) <|
 .o none (.pick 23 (.t 19) (.c (.bool true)) (.t 22)) .nil)) <| .cond (.t 23) (.seq (.rg (.o none (.call (some 24) false (.c (.fn 15 [] [])) []) <|
 .o none (.mv 4 (.t 24)) .nil)) <| .ret) (.skip)) <| .seq (.rg (.o none (.ld 26 3 true (.t 2)) <|
 .o none (.call (some 27) false (.c (.fn 29 [] [])) [(.t 26)]) <|
 .o none (.mv 25 (.t 27)) <|
 .o none (.ext 28 (.t 25) 0) <|
 .o none (.ext 29 (.t 25) 1) <|
 .o none (.ext 30 (.t 25) 2) <|
 .o none (.alloc 6 3 24 (.agg [(.int .i64 0), (.int .i64 0), .nilS])) <|
 .o none (.mv 5 (.t 28)) <|
 .o none (.st 3 (.t 6) (.t 29)) <|
 .o none (.mv 7 (.t 30)) .nil)) <| .seq (.rg (.o none (.ld 32 3 true (.t 2)) <|
 .o none (.call (some 33) false (.c (.fn 30 [] [])) [(.t 32)]) <|
 .o none (.mv 31 (.t 33)) <|
 .o none (.ext 34 (.t 31) 0) <|
 .o none (.ext 35 (.t 31) 1) <|
 .o none (.ext 36 (.t 31) 2) <|
 .o none (.alloc 9 3 24 (.agg [(.int .i64 0), (.int .i64 0), .nilS])) <|
 .o none (.mv 8 (.t 34)) <|
 .o none (.st 3 (.t 9) (.t 35)) <|
 .o none (.mv 10 (.t 36)) .nil)) <| .seq (.rg (.o none (.ld 38 3 true (.t 2)) <|
 .o none (.mv 39 (.t 1)) <|
 .o none (.call (some 40) false (.c (.fn 31 [] [])) [(.t 38), (.t 39)]) <|
 .o none (.mv 37 (.t 40)) <|
 .o none (.ext 41 (.t 37) 0) <|
 .o none (.ext 42 (.t 37) 1) <|
 .o none (.alloc 11 3 32 (.agg [(.bool false), .nilS, .nilS])) <|
 .o none (.st 3 (.t 11) (.t 41)) <|
 .o none (.mv 12 (.t 42)) .nil)) <| .seq (.rg (.o none (.ld 44 3 true (.t 2)) <|
 .o none (.mv 45 (.t 1)) <|
 .o none (.call (some 46) false (.c (.fn 32 [] [])) [(.t 44), (.t 45)]) <|
 .o none (.mv 43 (.t 46)) <|
 .o none (.ext 47 (.t 43) 0) <|
 .o none (.ext 48 (.t 43) 1) <|
 .o none (.alloc 13 3 32 (.agg [(.bool false), .nilS, .nilS])) <|
 .o none (.st 3 (.t 13) (.t 47)) <|
 .o none (.mv 14 (.t 48)) .nil)) <| .seq (.rg (.o none (.mv 49 (.t 5)) <|
 .o none (.mv 50 (.t 8)) <|
 .o none (.call (some 51) false (.c (.fn 33 [] [])) [(.t 49), (.t 50)]) <|
 .o none (.mv 52 (.t 51)) <|
 .o (some (52, true)) (.ld 53 3 true (.t 6)) <|
 .o (some (52, true)) (.ld 54 3 true (.t 9)) <|
 .o (some (52, true)) (.call (some 55) false (.c (.fn 27 [] [])) [(.t 53), (.t 54)]) <|
 .o none (.pick 56 (.t 52) (.t 55) (.c (.bool false))) <|
 .o none (.mv 57 (.t 56)) <|
 .o (some (57, true)) (.mv 58 (.t 7)) <|
 .o (some (57, true)) (.mv 59 (.t 10)) <|
 .o (some (57, true)) (.bin 60 .eql false (.t 58) (.t 59)) <|
 .o none (.pick 61 (.t 57) (.t 60) (.c (.bool false))) <|
 .o none (.mv 62 (.t 61)) <|
 .o (some (62, true)) (.ld 63 3 true (.t 11)) <|
 .o (some (62, true)) (.ld 64 3 true (.t 13)) <|
 .o (some (62, true)) (.call (some 65) false (.c (.fn 20 [] [])) [(.t 63), (.t 64)]) <|
 .o none (.pick 66 (.t 62) (.t 65) (.c (.bool false))) <|
 .o none (.mv 67 (.t 66)) <|
 .o (some (67, true)) (.mv 68 (.t 12)) <|
 .o (some (67, true)) (.mv 69 (.t 14)) <|
 .o (some (67, true)) (.bin 70 .eql false (.t 68) (.t 69)) <|
 .o none (.pick 71 (.t 67) (.t 70) (.c (.bool false))) <|
 .o none (.mv 72 (.t 71)) <|
 .o (some (72, true)) (.call (some 73) false (.c (.fn 15 [] [])) []) <|
 .o none (.pick 74 (.t 72) (.t 73) (.c (.bool false))) <|
 .o none (.mv 4 (.t 74)) .nil)) <| .ret⟩
def c6 : SFn := ⟨154, [.t 4], .seq (.rg (.o none (.box 2 3 24 (.t 0)) <|
 .o none (.mv 4 (.c (.bool false))) .nil)) <| .seq (.seq (.rg (.o none (.ld 16 3 true (.t 2)) <|
 .o none (.bs 17 3 24 [(.t 16)]) <|
 .o none (.call (some 18) false (.c (.fn 14 [] [])) [(.t 17)]) <|
 .o none (.un 19 .not (.t 18)) <|
 .o none (.mv 20 (.t 19)) <|
 .o (some (20, false)) (.ld 21 3 true (.t 2)) <|
 .o (some (20, false)) (.call (some 22) false (.c (.fn 26 [] [])) [(.t 21)]) <|
 .o (some (20, false)) (.un 23 .not (.t 22)) <|
 .o none (.pick 24 (.t 20) (.c (.bool true)) (.t 23)) <|
 .o none (.mv 25 (.t 24)) <|
 .o (some (25, false)) (.mv 26 (.t 1)) <|
 .o (some (25, false)) (.call (some 27) false (.c (.fn 28 [] [])) [(.t 26), (.c (.int .i64 8))]) <|
 .o (some (25, false)) (.un 28 .not (.t 27)) <|
 .o none (.pick 29 (.t 25) (.c (.bool true)) (.t 28)) <|
 .o none (.mv 30 (.t 29)) <|
 .o (some (30, false)) (.mv 31 (.t 1)) <|
 .o (some (30, false)) (.len 32 (.t 31)) <|
 .o (some (30, false)) (.fld 33 1 (.t 2)) <|
 .o (some (30, false)) (.ld 34 1 false (.t 33)) <|
 .o (some (30, false)) (.bin 35 .neq false (.t 32) (.t 34)) <|
 .o none (.pick 36 (.t 30) (.c (.bool true)) (.t 35)) .nil)) <| .cond (.t 36) (.seq (.rg (.o none (.call (some 37) false (.c (.fn 15 [] [])) []) <|
 .o none (.mv 4 (.t 37)) .nil)) <| .ret) (.skip)) <| .seq (.rg (.o none (.ld 39 3 true (.t 2)) <|
 .o none (.call (some 40) false (.c (.fn 29 [] [])) [(.t 39)]) <|
 .o none (.mv 38 (.t 40)) <|
 .o none (.ext 41 (.t 38) 0) <|
 .o none (.ext 42 (.t 38) 1) <|
 .o none (.ext 43 (.t 38) 2) <|
 .o none (.alloc 6 3 24 (.agg [(.int .i64 0), (.int .i64 0), .nilS])) <|
 .o none (.mv 5 (.t 41)) <|
 .o none (.st 3 (.t 6) (.t 42)) <|
 .o none (.mv 7 (.t 43)) .nil)) <| .seq (.seq (.rg (.o none (.mv 44 (.t 7)) <|
 .o none (.bin 45 .neq false (.t 44) (.c (.int .i64 0))) .nil)) <| .cond (.t 45) (.seq (.rg (.o none (.mv 46 (.t 5)) <|
 .o none (.len 47 (.t 46)) <|
 .o none (.bin 48 .eql false (.t 47) (.c (.int .i64 0))) <|
 .o none (.mv 49 (.t 48)) <|
 .o (some (49, true)) (.call (some 50) false (.c (.fn 15 [] [])) []) <|
 .o none (.pick 51 (.t 49) (.t 50) (.c (.bool false))) <|
 .o none (.mv 4 (.t 51)) .nil)) <| .ret) (.skip)) <| .seq (.rg (.o none (.ld 53 3 true (.t 2)) <|
 .o none (.call (some 54) false (.c (.fn 18 [] [])) [(.t 53)]) <|
 .o none (.mv 52 (.t 54)) <|
 .o none (.ext 55 (.t 52) 0) <|
 .o none (.ext 56 (.t 52) 1) <|
 .o none (.mv 8 (.t 55)) <|
 .o none (.mv 9 (.t 56)) .nil)) <| .seq (.rg (.o none (.ld 58 3 true (.t 2)) <|
 .o none (.mv 59 (.t 1)) <|
 .o none (.call (some 60) false (.c (.fn 31 [] [])) [(.t 58), (.t 59)]) <|
 .o none (.mv 57 (.t 60)) <|
 .o none (.ext 61 (.t 57) 0) <|
 .o none (.ext 62 (.t 57) 1) <|
 .o none (.alloc 10 3 32 (.agg [(.bool false), .nilS, .nilS])) <|
 .o none (.st 3 (.t 10) (.t 61)) <|
 .o none (.mv 11 (.t 62)) .nil)) <| .seq (.seq (.rg (.o none (.mv 63 (.t 11)) <|
 .o none (.bin 64 .eql false (.t 63) (.c (.int .i64 1))) .nil)) <| .cond (.t 64) (.seq (.rg (.o none (.call (some 65) false (.c (.fn 15 [] [])) []) <|
 .o none (.mv 4 (.t 65)) .nil)) <| .ret) (.skip)) <| .seq (.seq (.rg (.o none (.mv 66 (.t 9)) <|
 .o none (.bin 67 .neq false (.t 66) (.c (.int .i64 0))) <|
 .o none (.mv 68 (.t 67)) <|
 .o (some (68, false)) (.mv 69 (.t 11)) <|
 .o (some (68, false)) (.bin 70 .neq false (.t 69) (.c (.int .i64 0))) <|
 .o none (.pick 71 (.t 68) (.c (.bool true)) (.t 70)) <|
 .o none (.mv 72 (.t 71)) <|
 .o (some (72, false)) (.mv 73 (.t 5)) <|
 .o (some (72, false)) (.len 74 (.t 73)) <|
 .o (some (72, false)) (.mv 75 (.t 8)) <|
 .o (some (72, false)) (.bin 76 .neq false (.t 74) (.t 75)) <|
 .o none (.pick 77 (.t 72) (.c (.bool true)) (.t 76)) <|
 .o none (.mv 78 (.t 77)) <|
 .o (some (78, false)) (.fld 79 0 (.t 6)) <|
 .o (some (78, false)) (.ld 80 1 false (.t 79)) <|
 .o (some (78, false)) (.mv 81 (.t 8)) <|
 .o (some (78, false)) (.bin 82 .neq false (.t 80) (.t 81)) <|
 .o none (.pick 83 (.t 78) (.c (.bool true)) (.t 82)) <|
 .o none (.mv 84 (.t 83)) <|
 .o (some (84, false)) (.fld 85 1 (.t 6)) <|
 .o (some (84, false)) (.ld 86 1 false (.t 85)) <|
 .o (some (84, false)) (.fld 87 1 (.t 2)) <|
 .o (some (84, false)) (.ld 88 1 false (.t 87)) <|
 .o (some (84, false)) (.bin 89 .neq false (.t 86) (.t 88)) <|
 .o none (.pick 90 (.t 84) (.c (.bool true)) (.t 89)) <|
 .o none (.mv 91 (.t 90)) <|
 .o (some (91, false)) (.ld 92 3 true (.t 6)) <|
 .o (some (91, false)) (.call (some 93) false (.c (.fn 26 [] [])) [(.t 92)]) <|
 .o (some (91, false)) (.un 94 .not (.t 93)) <|
 .o none (.pick 95 (.t 91) (.c (.bool true)) (.t 94)) .nil)) <| .cond (.t 95) (.seq (.rg (.o none (.mv 4 (.c (.bool false))) .nil)) <| .ret) (.skip)) <| .seq (.rg (.o none (.call (some 96) false (.c (.fn 34 [] [])) [(.c (.int .i64 0))]) <|
 .o none (.call (some 97) false (.c (.fn 34 [] [])) [(.c (.int .i64 0))]) <|
 .o none (.alloc 12 3 32 (.agg [(.bool false), .nilS, .nilS])) <|
 .o none (.alloc 13 3 32 (.agg [(.bool false), .nilS, .nilS])) <|
 .o none (.st 3 (.t 12) (.t 96)) <|
 .o none (.st 3 (.t 13) (.t 97)) .nil)) <| .seq (.rg (.o none (.ld 98 3 true (.t 6)) <|
 .o none (.mv 99 (.t 1)) <|
 .o none (.call (some 100) false (.c (.fn 35 [] [])) [(.t 98), (.t 99)]) <|
 .o none (.mv 14 (.t 100)) .nil)) <| .seq (.seq (.rg (.o none (.mv 15 (.c (.int .i64 0))) .nil)) <| .block 0 (.loop (.seq (.seq (.rg (.o none (.mv 101 (.t 15)) <|
 .o none (.mv 102 (.t 8)) <|
 .o none (.bin 103 .lss false (.t 101) (.t 102)) .nil)) <| .cond (.t 103) (.skip) (.exit 0)) <| .seq (.block 1 (.seq (.seq (.rg (.o none (.mv 106 (.t 5)) <|
 .o none (.mv 107 (.t 15)) <|
 .o none (.idx 108 3 (.t 106) (.t 107)) <|
 .o none (.ld 109 3 true (.t 108)) <|
 .o none (.call (some 110) false (.c (.fn 36 [] [])) [(.t 109)]) <|
 .o none (.bin 111 .eql false (.t 110) (.c (.int .i64 0))) .nil)) <| .cond (.t 111) (.seq (.rg (.o none (.mv 4 (.c (.bool false))) .nil)) <| .ret) (.skip)) <| .seq (.seq (.rg (.o none (.mv 112 (.t 5)) <|
 .o none (.mv 113 (.t 15)) <|
 .o none (.idx 114 3 (.t 112) (.t 113)) <|
 .o none (.ld 115 3 true (.t 114)) <|
 .o none (.call (some 116) false (.c (.fn 36 [] [])) [(.t 115)]) <|
 .o none (.bin 117 .lss false (.t 116) (.c (.int .i64 0))) .nil)) <| .cond (.t 117) (.rg (.o none (.mv 118 (.t 5)) <|
 .o none (.mv 119 (.t 15)) <|
 .o none (.idx 120 3 (.t 118) (.t 119)) <|
 .o none (.ld 121 3 true (.t 120)) <|
 .o none (.st 3 (.t 13) (.t 121)) .nil)) (.skip)) <| .rg (.o none (.ld 122 3 true (.t 12)) <|
 .o none (.mv 123 (.t 5)) <|
 .o none (.mv 124 (.t 15)) <|
 .o none (.idx 125 3 (.t 123) (.t 124)) <|
 .o none (.ld 126 3 true (.t 125)) <|
 .o none (.mv 127 (.t 14)) <|
 .o none (.mv 128 (.t 15)) <|
 .o none (.idx 129 3 (.t 127) (.t 128)) <|
 .o none (.ld 130 3 true (.t 129)) <|
 .o none (.mv 131 (.t 14)) <|
 .o none (.mv 132 (.t 15)) <|
 .o none (.idx 133 3 (.t 131) (.t 132)) <|
 .o none (.ld 134 3 true (.t 133)) <|
 .o none (.call (some 135) true (.c (.fn 38 [] [])) [(.t 130), (.t 134)]) <|
 .o none (.call (some 136) true (.c (.fn 38 [] [])) [(.t 126), (.t 135)]) <|
 .o none (.call (some 137) true (.c (.fn 37 [] [])) [(.t 122), (.t 136)]) <|
 .o none (.st 3 (.t 12) (.t 137)) .nil))) <| .rg (.o none (.mv 104 (.t 15)) <|
 .o none (.bin 105 .add false (.t 104) (.c (.int .i64 1))) <|
 .o none (.mv 15 (.t 105)) .nil)))) <| .seq (.rg (.o none (.ld 138 3 true (.t 12)) <|
 .o none (.ld 139 3 true (.t 10)) <|
 .o none (.call (some 140) false (.c (.fn 39 [] [])) [(.t 138), (.t 139)]) <|
 .o none (.mv 141 (.t 140)) <|
 .o (some (141, true)) (.ld 142 3 true (.t 10)) <|
 .o (some (141, true)) (.call (some 143) false (.c (.fn 36 [] [])) [(.t 142)]) <|
 .o (some (141, true)) (.bin 144 .geq false (.t 143) (.c (.int .i64 0))) <|
 .o (some (141, true)) (.mv 145 (.t 144)) <|
 .o (some (145, false)) (.ld 146 3 true (.t 13)) <|
 .o (some (145, false)) (.call (some 147) false (.c (.fn 36 [] [])) [(.t 146)]) <|
 .o (some (145, false)) (.bin 148 .lss false (.t 147) (.c (.int .i64 0))) <|
 .o (some (141, true)) (.pick 149 (.t 145) (.c (.bool true)) (.t 148)) <|
 .o none (.pick 150 (.t 141) (.t 149) (.c (.bool false))) <|
 .o none (.mv 151 (.t 150)) <|
 .o (some (151, true)) (.call (some 152) false (.c (.fn 15 [] [])) []) <|
 .o none (.pick 153 (.t 151) (.t 152) (.c (.bool false))) <|
 .o none (.mv 4 (.t 153)) .nil)) <| .ret⟩
def c78 : SFn := ⟨38, [.t 2], .seq (.rg (.o none (.box 1 3 24 (.t 0)) <|
 .o none (.mv 2 (.c .nilS)) .nil)) <| .seq (.rg (.o none (.fld 5 0 (.t 1)) <|
 .o none (.ld 6 1 false (.t 5)) <|
 .o none (.mk 7 1 24 22 .nilS (.t 6) (.t 6)) <| .wk <| .wk <|
 .o none (.mv 3 (.t 7)) .nil)) <| .seq (.seq (.rg (.o none (.fld 8 0 (.t 1)) <|
 .o none (.ld 9 1 false (.t 8)) <|
 .o none (.mv 10 (.c (.int .i64 0))) .nil)) <| .block 0 (.loop (.seq (.rg (.o none (.bin 11 .lss false (.t 10) (.t 9)) .nil)) <| .seq (.cond (.t 11) (.skip) (.exit 0)) <| .seq (.block 1 (.seq (.rg (.o none (.mv 12 (.t 10)) <|
 .o none (.mv 4 (.t 12)) .nil)) <| .seq (.rg (.o none (.mv 13 (.t 3)) <|
 .o none (.mv 14 (.t 4)) <|
 .o none (.fld 15 1 (.t 1)) <|
 .o none (.ld 16 1 false (.t 15)) <|
 .o none (.mk 17 3 56 32 (.agg [(.bool false), .nilS, .nilS]) (.t 16) (.t 16)) <| .wk <|
 .o none (.idx 18 1 (.t 13) (.t 14)) <|
 .o none (.st 1 (.t 18) (.t 17)) .nil)) <| .rg (.o none (.mv 19 (.t 3)) <|
 .o none (.mv 20 (.t 4)) <|
 .o none (.idx 21 1 (.t 19) (.t 20)) <|
 .o none (.ld 22 1 false (.t 21)) <|
 .o none (.fld 23 2 (.t 1)) <|
 .o none (.ld 24 1 false (.t 23)) <|
 .o none (.mv 25 (.t 4)) <|
 .o none (.fld 26 1 (.t 1)) <|
 .o none (.ld 27 1 false (.t 26)) <|
 .o none (.bin 28 .mul false (.t 25) (.t 27)) <|
 .o none (.mv 29 (.t 4)) <|
 .o none (.bin 30 .add false (.t 29) (.c (.int .i64 1))) <|
 .o none (.fld 31 1 (.t 1)) <|
 .o none (.ld 32 1 false (.t 31)) <|
 .o none (.bin 33 .mul false (.t 30) (.t 32)) <|
 .o none (.sl 34 3 (.t 24) (some (.t 28)) (some (.t 33)) none) <|
 .o none (.cpy 35 3 (.t 22) (.t 34)) .nil))) <| .rg (.o none (.bin 36 .add false (.t 10) (.c (.int .i64 1))) <|
 .o none (.mv 10 (.t 36)) .nil)))) <| .seq (.rg (.o none (.mv 37 (.t 3)) <|
 .o none (.mv 2 (.t 37)) .nil)) <| .ret⟩
theorem Q01 : Qf Tryz.prog Tryz.f78 = some c78.strip := by kernel_rfl
def c94 : SFn := ⟨30, [], .seq (.rg (.o none (.box 5 3 32 (.t 2)) .nil)) <| .seq (.seq (.rg (.o none (.ld 7 3 true (.t 5)) <|
 .o none (.call (some 8) false (.c (.fn 36 [] [])) [(.t 7)]) <|
 .o none (.bin 9 .eql false (.t 8) (.c (.int .i64 0))) .nil)) <| .cond (.t 9) (.ret) (.skip)) <| .seq (.rg (.o none (.mv 10 (.t 0)) <|
 .o none (.len 11 (.t 10)) <|
 .o none (.mv 12 (.c (.int .i64 0))) .nil)) <| .block 0 (.loop (.seq (.rg (.o none (.bin 13 .lss false (.t 12) (.t 11)) .nil)) <| .seq (.cond (.t 13) (.skip) (.exit 0)) <| .seq (.block 1 (.seq (.rg (.o none (.mv 14 (.t 12)) <|
 .o none (.mv 6 (.t 14)) .nil)) <| .rg (.o none (.mv 15 (.t 0)) <|
 .o none (.mv 16 (.t 6)) <|
 .o none (.mv 17 (.t 0)) <|
 .o none (.mv 18 (.t 6)) <|
 .o none (.idx 19 3 (.t 17) (.t 18)) <|
 .o none (.ld 20 3 true (.t 19)) <|
 .o none (.ld 21 3 true (.t 5)) <|
 .o none (.mv 22 (.t 1)) <|
 .o none (.mv 23 (.t 6)) <|
 .o none (.idx 24 3 (.t 22) (.t 23)) <|
 .o none (.ld 25 3 true (.t 24)) <|
 .o none (.call (some 26) true (.c (.fn 38 [] [])) [(.t 21), (.t 25)]) <|
 .o none (.call (some 27) true (.c (.fn 165 [] [])) [(.t 20), (.t 26)]) <|
 .o none (.idx 28 3 (.t 15) (.t 16)) <|
 .o none (.st 3 (.t 28) (.t 27)) .nil))) <| .rg (.o none (.bin 29 .add false (.t 12) (.c (.int .i64 1))) <|
 .o none (.mv 12 (.t 29)) .nil)))⟩
theorem Q02 : Qf Tryz.prog Tryz.f94 = some c94.strip := by kernel_rfl
def Quj : SFn := ⟨33, [.t 6], .seq (.rg (.o none (.box 5 3 32 (.t 2)) <|
 .o none (.mv 6 (.c .nilS)) .nil)) <| .seq (.rg (.o none (.mv 9 (.t 0)) <|
 .o none (.len 10 (.t 9)) <|
 .o none (.mk 11 3 56 32 (.agg [(.bool false), .nilS, .nilS]) (.t 10) (.t 10)) <|
 .o none (.mv 7 (.t 11)) .nil)) <| .seq (.seq (.rg (.o none (.mv 12 (.t 0)) <|
 .o none (.len 13 (.t 12)) <|
 .o none (.mv 14 (.c (.int .i64 0))) .nil)) <| .block 0 (.loop (.seq (.rg (.o none (.bin 15 .lss false (.t 14) (.t 13)) .nil)) <| .seq (.cond (.t 15) (.skip) (.exit 0)) <| .seq (.block 1 (.seq (.rg (.o none (.mv 16 (.t 14)) <|
 .o none (.mv 8 (.t 16)) .nil)) <| .rg (.o none (.mv 17 (.t 7)) <|
 .o none (.mv 18 (.t 8)) <|
 .o none (.mv 19 (.t 0)) <|
 .o none (.mv 20 (.t 8)) <|
 .o none (.idx 21 3 (.t 19) (.t 20)) <|
 .o none (.ld 22 3 true (.t 21)) <|
 .o none (.ld 23 3 true (.t 5)) <|
 .o none (.mv 24 (.t 1)) <|
 .o none (.mv 25 (.t 8)) <|
 .o none (.idx 26 3 (.t 24) (.t 25)) <|
 .o none (.ld 27 3 true (.t 26)) <|
 .o none (.call (some 28) true (.c (.fn 38 [] [])) [(.t 23), (.t 27)]) <|
 .o none (.call (some 29) true (.c (.fn 37 [] [])) [(.t 22), (.t 28)]) <|
 .o none (.idx 30 3 (.t 17) (.t 18)) <|
 .o none (.st 3 (.t 30) (.t 29)) .nil))) <| .rg (.o none (.bin 31 .add false (.t 14) (.c (.int .i64 1))) <|
 .o none (.mv 14 (.t 31)) .nil)))) <| .seq (.rg (.o none (.mv 32 (.t 7)) <|
 .o none (.mv 6 (.t 32)) .nil)) <| .ret⟩
theorem Qwd : Qf Tryz.prog Tryz.f164 = some Quj.strip := by kernel_rfl
def c92 : SFn := ⟨32, [.t 2], .seq (.rg (.o none (.mv 2 (.c (.bool false))) .nil)) <| .seq (.seq (.rg (.o none (.mv 5 (.t 0)) <|
 .o none (.len 6 (.t 5)) <|
 .o none (.mv 7 (.c (.int .i64 0))) .nil)) <| .block 0 (.loop (.seq (.rg (.o none (.bin 8 .lss false (.t 7) (.t 6)) .nil)) <| .seq (.cond (.t 8) (.skip) (.exit 0)) <| .seq (.block 1 (.seq (.rg (.o none (.mv 9 (.t 7)) <|
 .o none (.mv 3 (.t 9)) .nil)) <| .seq (.rg (.o none (.mv 10 (.t 3)) <|
 .o none (.mv 11 (.c (.int .i64 0))) .nil)) <| .block 2 (.loop (.seq (.rg (.o none (.bin 12 .lss false (.t 11) (.t 10)) .nil)) <| .seq (.cond (.t 12) (.skip) (.exit 2)) <| .seq (.block 3 (.seq (.rg (.o none (.mv 13 (.t 11)) <|
 .o none (.mv 4 (.t 13)) .nil)) <| .seq (.rg (.o none (.mv 14 (.t 0)) <|
 .o none (.mv 15 (.t 3)) <|
 .o none (.idx 16 1 (.t 14) (.t 15)) <|
 .o none (.ld 17 1 false (.t 16)) <|
 .o none (.mv 18 (.t 4)) <|
 .o none (.idx 19 3 (.t 17) (.t 18)) <|
 .o none (.ld 20 3 true (.t 19)) <|
 .o none (.mv 21 (.t 0)) <|
 .o none (.mv 22 (.t 4)) <|
 .o none (.idx 23 1 (.t 21) (.t 22)) <|
 .o none (.ld 24 1 false (.t 23)) <|
 .o none (.mv 25 (.t 3)) <|
 .o none (.idx 26 3 (.t 24) (.t 25)) <|
 .o none (.ld 27 3 true (.t 26)) <|
 .o none (.call (some 28) false (.c (.fn 39 [] [])) [(.t 20), (.t 27)]) <|
 .o none (.un 29 .not (.t 28)) .nil)) <| .cond (.t 29) (.seq (.rg (.o none (.mv 2 (.c (.bool false))) .nil)) <| .ret) (.skip))) <| .rg (.o none (.bin 30 .add false (.t 11) (.c (.int .i64 1))) <|
 .o none (.mv 11 (.t 30)) .nil))))) <| .rg (.o none (.bin 31 .add false (.t 7) (.c (.int .i64 1))) <|
 .o none (.mv 7 (.t 31)) .nil)))) <| .seq (.rg (.o none (.mv 2 (.c (.bool true))) .nil)) <| .ret⟩
theorem Qacy : Qf Tryz.prog Tryz.f92 = some c92.strip := by kernel_rfl
def c93 : SFn := ⟨102, [.t 2], .seq (.rg (.o none (.mv 2 (.c .nilS)) .nil)) <| .seq (.rg (.o none (.call (some 13) false (.c (.fn 79 [] [])) [(.c (.int .i64 1))]) <|
 .o none (.alloc 3 3 32 (.agg [(.bool false), .nilS, .nilS])) <|
 .o none (.st 3 (.t 3) (.t 13)) .nil)) <| .seq (.seq (.rg (.o none (.mv 14 (.t 0)) <|
 .o none (.len 15 (.t 14)) <|
 .o none (.mv 16 (.c (.int .i64 0))) .nil)) <| .block 0 (.loop (.seq (.rg (.o none (.bin 17 .lss false (.t 16) (.t 15)) .nil)) <| .seq (.cond (.t 17) (.skip) (.exit 0)) <| .seq (.block 1 (.seq (.rg (.o none (.mv 18 (.t 16)) <|
 .o none (.mv 4 (.t 18)) .nil)) <| .seq (.rg (.o none (.mv 19 (.t 0)) <|
 .o none (.mv 20 (.t 4)) <|
 .o none (.idx 21 1 (.t 19) (.t 20)) <|
 .o none (.ld 22 1 false (.t 21)) <|
 .o none (.mv 23 (.t 4)) <|
 .o none (.idx 24 3 (.t 22) (.t 23)) <|
 .o none (.ld 25 3 true (.t 24)) <|
 .o none (.alloc 5 3 32 (.agg [(.bool false), .nilS, .nilS])) <|
 .o none (.st 3 (.t 5) (.t 25)) .nil)) <| .seq (.rg (.o none (.ld 26 3 true (.t 5)) <|
 .o none (.call (some 27) false (.c (.fn 36 [] [])) [(.t 26)]) <|
 .o none (.bin 28 .neq false (.t 27) (.c (.int .i64 0))) .nil)) <| .cond (.t 28) (.seq (.rg (.o none (.ld 30 3 true (.t 3)) <|
 .o none (.ld 31 3 true (.t 5)) <|
 .o none (.call (some 32) false (.c (.fn 139 [] [])) [(.t 30), (.t 31)]) <|
 .o none (.mv 29 (.t 32)) <|
 .o none (.ext 33 (.t 29) 0) <|
 .o none (.ext 34 (.t 29) 1) <|
 .o none (.alloc 6 3 32 (.agg [(.bool false), .nilS, .nilS])) <|
 .o none (.st 3 (.t 6) (.t 33)) <|
 .o none (.mv 7 (.t 34)) .nil)) <| .seq (.rg (.o none (.ld 35 3 true (.t 5)) <|
 .o none (.mv 36 (.t 0)) <|
 .o none (.len 37 (.t 36)) <|
 .o none (.mv 39 (.t 0)) <|
 .o none (.mv 40 (.t 4)) <|
 .o none (.idx 41 1 (.t 39) (.t 40)) <|
 .o none (.ld 42 1 false (.t 41)) <|
 .o none (.ld 43 3 true (.t 6)) <|
 .o none (.call (some 38) true (.c (.fn 116 [] [])) [(.t 37)]) <|
 .o none (.call (some 44) true (.c (.fn 164 [] [])) [(.t 38), (.t 42), (.t 43)]) <|
 .o none (.bld 45 [(.bool false), .nilS, .nilS, .nilS] [(0, 3, (.t 35)), (3, 1, (.t 44))]) <|
 .o none (.bs 46 4 109 [(.t 45)]) <|
 .o none (.mv 2 (.t 46)) .nil)) <| .ret) (.skip))) <| .rg (.o none (.bin 47 .add false (.t 16) (.c (.int .i64 1))) <|
 .o none (.mv 16 (.t 47)) .nil)))) <| .seq (.seq (.rg (.o none (.mv 48 (.t 0)) <|
 .o none (.len 49 (.t 48)) <|
 .o none (.mv 50 (.c (.int .i64 0))) .nil)) <| .block 2 (.loop (.seq (.rg (.o none (.bin 51 .lss false (.t 50) (.t 49)) .nil)) <| .seq (.cond (.t 51) (.skip) (.exit 2)) <| .seq (.block 3 (.seq (.rg (.o none (.mv 52 (.t 50)) <|
 .o none (.mv 8 (.t 52)) .nil)) <| .seq (.rg (.o none (.mv 53 (.t 0)) <|
 .o none (.mv 54 (.t 8)) <|
 .o none (.idx 55 1 (.t 53) (.t 54)) <|
 .o none (.ld 56 1 false (.t 55)) <|
 .o none (.len 57 (.t 56)) <|
 .o none (.mv 58 (.c (.int .i64 0))) .nil)) <| .block 4 (.loop (.seq (.rg (.o none (.bin 59 .lss false (.t 58) (.t 57)) .nil)) <| .seq (.cond (.t 59) (.skip) (.exit 4)) <| .seq (.block 5 (.seq (.rg (.o none (.mv 60 (.t 58)) <|
 .o none (.idx 61 3 (.t 56) (.t 58)) <|
 .o none (.ld 62 3 true (.t 61)) <|
 .o none (.alloc 10 3 32 (.agg [(.bool false), .nilS, .nilS])) <|
 .o none (.mv 9 (.t 60)) <|
 .o none (.st 3 (.t 10) (.t 62)) .nil)) <| .seq (.rg (.o none (.ld 63 3 true (.t 10)) <|
 .o none (.call (some 64) false (.c (.fn 36 [] [])) [(.t 63)]) <|
 .o none (.bin 65 .neq false (.t 64) (.c (.int .i64 0))) .nil)) <| .cond (.t 65) (.seq (.rg (.o none (.ld 67 3 true (.t 3)) <|
 .o none (.ld 68 3 true (.t 10)) <|
 .o none (.ld 69 3 true (.t 10)) <|
 .br (.o none (.call (some 70) true (.c (.fn 37 [] [])) [(.t 68), (.t 69)]) <|
 .br (.o none (.call (some 71) true (.c (.fn 139 [] [])) [(.t 67), (.t 70)]) <|
 .o none (.mv 66 (.t 71)) <|
 .o none (.ext 72 (.t 66) 0) <|
 .o none (.ext 73 (.t 66) 1) <|
 .o none (.alloc 11 3 32 (.agg [(.bool false), .nilS, .nilS])) <|
 .o none (.st 3 (.t 11) (.t 72)) <|
 .o none (.mv 12 (.t 73)) .nil) (.o none (.alloc 11 3 32 (.agg [(.bool false), .nilS, .nilS])) <|
 .o none (.call (some 71) true (.c (.fn 139 [] [])) [(.t 67), (.t 70)]) <|
 .o none (.mv 66 (.t 71)) <|
 .o none (.ext 72 (.t 66) 0) <|
 .o none (.ext 73 (.t 66) 1) <|
 .o none (.st 3 (.t 11) (.t 72)) <|
 .o none (.mv 12 (.t 73)) .nil)) (.o none (.alloc 11 3 32 (.agg [(.bool false), .nilS, .nilS])) <|
 .o none (.call (some 70) true (.c (.fn 37 [] [])) [(.t 68), (.t 69)]) <|
 .o none (.call (some 71) true (.c (.fn 139 [] [])) [(.t 67), (.t 70)]) <|
 .o none (.mv 66 (.t 71)) <|
 .o none (.ext 72 (.t 66) 0) <|
 .o none (.ext 73 (.t 66) 1) <|
 .o none (.st 3 (.t 11) (.t 72)) <|
 .o none (.mv 12 (.t 73)) .nil))) <| .seq (.rg (.o none (.ld 74 3 true (.t 11)) <|
 .o none (.mv 75 (.t 0)) <|
 .o none (.mv 76 (.t 8)) <|
 .o none (.idx 77 1 (.t 75) (.t 76)) <|
 .o none (.ld 78 1 false (.t 77)) <|
 .o none (.mv 79 (.t 0)) <|
 .o none (.mv 80 (.t 9)) <|
 .o none (.idx 81 1 (.t 79) (.t 80)) <|
 .o none (.ld 82 1 false (.t 81)) <|
 .o none (.ld 83 3 true (.t 3)) <|
 .o none (.ld 86 3 true (.t 11)) <|
 .o none (.mv 88 (.t 0)) <|
 .o none (.mv 89 (.t 8)) <|
 .o none (.idx 90 1 (.t 88) (.t 89)) <|
 .o none (.ld 91 1 false (.t 90)) <|
 .o none (.mv 92 (.t 0)) <|
 .o none (.mv 93 (.t 9)) <|
 .o none (.idx 94 1 (.t 92) (.t 93)) <|
 .o none (.ld 95 1 false (.t 94)) <|
 .o none (.call (some 84) true (.c (.fn 164 [] [])) [(.t 78), (.t 82), (.t 83)]) <|
 .o none (.bld 85 [(.bool false), .nilS, .nilS, .nilS] [(0, 3, (.t 74)), (3, 1, (.t 84))]) <|
 .o none (.call (some 87) true (.c (.fn 117 [] [])) [(.t 86)]) <|
 .o none (.call (some 96) true (.c (.fn 79 [] [])) [(.c (.int .i64 (-1)))]) <|
 .o none (.call (some 97) true (.c (.fn 164 [] [])) [(.t 91), (.t 95), (.t 96)]) <|
 .o none (.bld 98 [(.bool false), .nilS, .nilS, .nilS] [(0, 3, (.t 87)), (3, 1, (.t 97))]) <|
 .o none (.bs 99 4 109 [(.t 85), (.t 98)]) <|
 .o none (.mv 2 (.t 99)) .nil)) <| .ret) (.skip))) <| .rg (.o none (.bin 100 .add false (.t 58) (.c (.int .i64 1))) <|
 .o none (.mv 58 (.t 100)) .nil))))) <| .rg (.o none (.bin 101 .add false (.t 50) (.c (.int .i64 1))) <|
 .o none (.mv 50 (.t 101)) .nil)))) <| .seq (.rg (.o none (.mv 2 (.c .nilS)) .nil)) <| .ret⟩
theorem Qacz : Qf Tryz.prog Tryz.f93 = some c93.strip := by kernel_rfl
def c77 : SFn := ⟨137, [.cell 4 5 true], .seq (.rg (.o none (.alloc 4 5 93 (.agg [.nilS, .nilS, (.bool false), .nilS, .nilS])) .nil)) <| .seq (.rg (.o none (.mv 12 (.t 0)) <|
 .o none (.call (some 13) false (.c (.fn 79 [] [])) [(.c (.int .i64 1))]) <|
 .o none (.bld 14 [.nilS, .nilS, (.bool false), .nilS, .nilS] [(0, 1, (.t 12)), (2, 3, (.t 13))]) <|
 .o none (.alloc 5 5 93 (.agg [.nilS, .nilS, (.bool false), .nilS, .nilS])) <| .wk <| .wk <|
 .o none (.st 5 (.t 5) (.t 14)) .nil)) <| .seq (.seq (.rg (.o none (.mv 15 (.t 1)) <| .wk <|
 .o none (.mv 16 (.c (.int .i64 0))) .nil)) <| .block 0 (.loop (.seq (.rg (.o none (.bin 17 .lss false (.t 16) (.t 15)) .nil)) <| .seq (.cond (.t 17) (.skip) (.exit 0)) <| .seq (.block 1 (.seq (.rg (.o none (.mv 18 (.t 16)) <|
 .o none (.mv 6 (.t 18)) .nil)) <| .seq (.rg (.o none (.fld 19 1 (.t 5)) <|
 .o none (.ld 20 1 false (.t 19)) <|
 .o none (.len 21 (.t 20)) <|
 .o none (.mv 7 (.t 21)) .nil)) <| .seq (.rg (.o none (.mv 22 (.t 7)) <|
 .o none (.mv 8 (.t 22)) .nil)) <| .seq (.block 2 (.loop (.seq (.seq (.rg (.o none (.mv 23 (.t 8)) <|
 .o none (.mv 24 (.t 0)) <|
 .o none (.len 25 (.t 24)) <|
 .o none (.bin 26 .lss false (.t 23) (.t 25)) <|
 .o none (.mv 27 (.t 26)) <|
 .o (some (27, true)) (.mv 28 (.t 0)) <|
 .o (some (27, true)) (.mv 29 (.t 8)) <|
 .o (some (27, true)) (.idx 30 1 (.t 28) (.t 29)) <|
 .o (some (27, true)) (.ld 31 1 false (.t 30)) <|
 .o (some (27, true)) (.mv 32 (.t 6)) <|
 .o (some (27, true)) (.idx 33 3 (.t 31) (.t 32)) <|
 .o (some (27, true)) (.ld 34 3 true (.t 33)) <|
 .o (some (27, true)) (.call (some 35) false (.c (.fn 36 [] [])) [(.t 34)]) <|
 .o (some (27, true)) (.bin 36 .eql false (.t 35) (.c (.int .i64 0))) <|
 .o none (.pick 37 (.t 27) (.t 36) (.c (.bool false))) .nil)) <| .cond (.t 37) (.skip) (.exit 2)) <| .block 3 (.rg (.o none (.mv 38 (.t 8)) <|
 .o none (.bin 39 .add false (.t 38) (.c (.int .i64 1))) <|
 .o none (.mv 8 (.t 39)) .nil))))) <| .seq (.seq (.rg (.o none (.mv 40 (.t 8)) <|
 .o none (.mv 41 (.t 0)) <|
 .o none (.len 42 (.t 41)) <|
 .o none (.bin 43 .eql false (.t 40) (.t 42)) .nil)) <| .cond (.t 43) (.exit 1) (.skip)) <| .seq (.seq (.rg (.o none (.mv 44 (.t 8)) <|
 .o none (.mv 45 (.t 7)) <|
 .o none (.bin 46 .neq false (.t 44) (.t 45)) .nil)) <| .cond (.t 46) (.seq (.rg (.o none (.mv 47 (.t 0)) <|
 .o none (.mv 48 (.t 8)) <|
 .o none (.mv 49 (.t 0)) <|
 .o none (.mv 50 (.t 7)) <|
 .o none (.mv 51 (.t 0)) <|
 .o none (.mv 52 (.t 7)) <|
 .o none (.idx 53 1 (.t 51) (.t 52)) <|
 .o none (.ld 54 1 false (.t 53)) <|
 .o none (.mv 55 (.t 0)) <|
 .o none (.mv 56 (.t 8)) <|
 .o none (.idx 57 1 (.t 55) (.t 56)) <|
 .o none (.ld 58 1 false (.t 57)) <|
 .o none (.idx 59 1 (.t 47) (.t 48)) <|
 .o none (.st 1 (.t 59) (.t 54)) <|
 .o none (.idx 60 1 (.t 49) (.t 50)) <|
 .o none (.st 1 (.t 60) (.t 58)) .nil)) <| .rg (.o none (.fld 61 2 (.t 5)) <|
 .o none (.ld 62 3 true (.t 61)) <|
 .o none (.call (some 63) false (.c (.fn 117 [] [])) [(.t 62)]) <|
 .o none (.fld 64 2 (.t 5)) <|
 .o none (.st 3 (.t 64) (.t 63)) .nil)) (.skip)) <| .seq (.rg (.o none (.mv 65 (.t 0)) <|
 .o none (.mv 66 (.t 7)) <|
 .o none (.idx 67 1 (.t 65) (.t 66)) <|
 .o none (.ld 68 1 false (.t 67)) <|
 .o none (.mv 69 (.t 6)) <|
 .o none (.idx 70 3 (.t 68) (.t 69)) <|
 .o none (.ld 71 3 true (.t 70)) <|
 .o none (.alloc 9 3 32 (.agg [(.bool false), .nilS, .nilS])) <|
 .o none (.st 3 (.t 9) (.t 71)) .nil)) <| .seq (.rg (.o none (.fld 72 2 (.t 5)) <|
 .o none (.ld 73 3 true (.t 72)) <|
 .o none (.ld 74 3 true (.t 9)) <|
 .o none (.call (some 75) false (.c (.fn 38 [] [])) [(.t 73), (.t 74)]) <|
 .o none (.fld 76 2 (.t 5)) <|
 .o none (.st 3 (.t 76) (.t 75)) .nil)) <| .seq (.seq (.rg (.o none (.mv 77 (.t 0)) <|
 .o none (.mv 78 (.t 7)) <|
 .o none (.idx 79 1 (.t 77) (.t 78)) <|
 .o none (.ld 80 1 false (.t 79)) <|
 .o none (.len 81 (.t 80)) <|
 .o none (.mv 82 (.c (.int .i64 0))) .nil)) <| .block 4 (.loop (.seq (.rg (.o none (.bin 83 .lss false (.t 82) (.t 81)) .nil)) <| .seq (.cond (.t 83) (.skip) (.exit 4)) <| .seq (.block 5 (.seq (.rg (.o none (.mv 84 (.t 82)) <|
 .o none (.mv 10 (.t 84)) .nil)) <| .rg (.o none (.mv 86 (.t 0)) <|
 .o none (.mv 87 (.t 7)) <|
 .o none (.idx 88 1 (.t 86) (.t 87)) <|
 .o none (.ld 89 1 false (.t 88)) <|
 .o none (.mv 90 (.t 10)) <|
 .o none (.mv 91 (.t 0)) <|
 .o none (.mv 92 (.t 7)) <|
 .o none (.idx 93 1 (.t 91) (.t 92)) <|
 .o none (.ld 94 1 false (.t 93)) <|
 .o none (.mv 95 (.t 10)) <|
 .o none (.idx 96 3 (.t 94) (.t 95)) <|
 .o none (.ld 97 3 true (.t 96)) <|
 .o none (.ld 98 3 true (.t 9)) <|
 .o none (.call (some 99) true (.c (.fn 139 [] [])) [(.t 97), (.t 98)]) <|
 .o none (.mv 85 (.t 99)) <|
 .o none (.ext 100 (.t 85) 0) <|
 .o none (.ext 101 (.t 85) 1) <|
 .o none (.idx 102 3 (.t 89) (.t 90)) <|
 .o none (.st 3 (.t 102) (.t 100)) .nil))) <| .rg (.o none (.bin 103 .add false (.t 82) (.c (.int .i64 1))) <|
 .o none (.mv 82 (.t 103)) .nil)))) <| .seq (.seq (.rg (.o none (.mv 104 (.t 0)) <|
 .o none (.len 105 (.t 104)) <|
 .o none (.mv 106 (.c (.int .i64 0))) .nil)) <| .block 6 (.loop (.seq (.rg (.o none (.bin 107 .lss false (.t 106) (.t 105)) .nil)) <| .seq (.cond (.t 107) (.skip) (.exit 6)) <| .seq (.block 7 (.seq (.rg (.o none (.mv 108 (.t 106)) <|
 .o none (.mv 11 (.t 108)) .nil)) <| .seq (.rg (.o none (.mv 109 (.t 11)) <|
 .o none (.mv 110 (.t 7)) <|
 .o none (.bin 111 .neq false (.t 109) (.t 110)) .nil)) <| .cond (.t 111) (.rg (.o none (.mv 112 (.t 0)) <|
 .o none (.mv 113 (.t 11)) <|
 .o none (.idx 114 1 (.t 112) (.t 113)) <|
 .o none (.ld 115 1 false (.t 114)) <|
 .o none (.mv 116 (.t 0)) <|
 .o none (.mv 117 (.t 7)) <|
 .o none (.idx 118 1 (.t 116) (.t 117)) <|
 .o none (.ld 119 1 false (.t 118)) <|
 .o none (.mv 120 (.t 0)) <|
 .o none (.mv 121 (.t 11)) <|
 .o none (.idx 122 1 (.t 120) (.t 121)) <|
 .o none (.ld 123 1 false (.t 122)) <|
 .o none (.mv 124 (.t 6)) <|
 .o none (.idx 125 3 (.t 123) (.t 124)) <|
 .o none (.ld 126 3 true (.t 125)) <|
 .o none (.call (some 127) false (.c (.fn 94 [] [])) [(.t 115), (.t 119), (.t 126)]) .nil)) (.skip))) <| .rg (.o none (.bin 128 .add false (.t 106) (.c (.int .i64 1))) <|
 .o none (.mv 106 (.t 128)) .nil)))) <| .rg (.o none (.fld 129 1 (.t 5)) <|
 .o none (.ld 130 1 false (.t 129)) <|
 .o none (.mv 131 (.t 6)) <|
 .o none (.bs 132 1 3 [(.t 131)]) <|
 .o none (.app 133 1 8 3 (.t 130) (.t 132)) <|
 .o none (.fld 134 1 (.t 5)) <|
 .o none (.st 1 (.t 134) (.t 133)) .nil))) <| .rg (.o none (.bin 135 .add false (.t 16) (.c (.int .i64 1))) <|
 .o none (.mv 16 (.t 135)) .nil)))) <| .seq (.rg (.o none (.ld 136 5 true (.t 5)) <| .wk <|
 .o none (.st 5 (.t 4) (.t 136)) .nil)) <| .ret⟩
theorem Q03 : Qf Tryz.prog Tryz.f77 = some c77.strip := by kernel_rfl
end Go.Proofs.YtmnkngmmfnncoaaGreat
namespace Go.Proofs.YtmnkngmmfnncoaaGreat
open Go Go.FW
set_option linter.unusedSimpArgs false
set_option linter.unusedVariables false
set_option maxRecDepth 100000
theorem Q04 (n : Bool) (a d : List Nat) : rv (!n) a d = -rv n a d := by
 have e : zv (!n) a = -zv n a := by unfold zv; cases n <;> simp
 unfold rv; rw [e, Rat.neg_mkRat]
theorem Raw.not {n : Bool} {a d : List Nat} {k : Nat} (h : Raw k n a d) : Raw k (!n) a d := ⟨h.la, h.ld, h.sa, h.sd, h.k1⟩
theorem Q05 {n m : Bool} {a d b c : List Nat} {k : Nat} (hp : Raw k n a d) (hq : Raw k m b c) (hk : k < 2 ^ 36) : Qd Tryz.prog 165 [PV.rr n a d, PV.rr m b c] (· = PV.rat (rv n a d - rv m b c)) := by
 have h := Qrp hp hq.not hk
 rw [Q04, <- Rat.sub_eq_add_neg] at h
 refine Qi Qm Tryz.func165 rfl Q8b (by simp [Q39]) fun C hP => ?_; simp only [Q39]
 simp +decide (disch := first | omega | rfl | (simp +decide only [go_sem, ↓reduceIte] <;> rfl) | fail) only [go_sem, ↓reduceIte]
 refine Qa hP h rfl rfl rfl ?_
 simp +decide (disch := first | omega | rfl | (simp +decide only [go_sem, ↓reduceIte] <;> rfl) | fail) only [go_sem, ↓reduceIte]
 refine Qaw ?_
 simp +decide (disch := first | omega | rfl | (simp +decide only [go_sem, ↓reduceIte] <;> rfl) | fail) only [go_sem, ↓reduceIte]
 exact Qc rfl rfl
theorem Q6g {a b : Rat} {k : Nat} (ha : rs a <= k) (hb : rs b <= k) (hk : k < 2 ^ 36) : Qd Tryz.prog 165 [PV.rat a, PV.rat b] (· = PV.rat (a - b)) := by
 have := Q05 (Qct ha) (Qct hb) hk
 rwa [Qdh, Qdh] at this
theorem Q06 {n : Bool} {a d : List Nat} {k : Nat} (hp : Raw k n a d) (hk : k < 2 ^ 36) : Qd Tryz.prog 117 [PV.rr n a d] (· = PV.rat (-rv n a d)) := by
 refine Qi Qm Tryz.func117 rfl Q8c (by simp [Q4a]) fun C hP => ?_; simp only [Q4a]
 simp +decide (disch := first | omega | rfl | (simp +decide only [go_sem, ↓reduceIte] <;> rfl) | fail) only [go_sem, ↓reduceIte]
 refine Qcd hP (Qc2 hp.la hp.ld hp.k1 hp.sa hp.sd (by omega)) rfl rfl rfl ?_
 rintro _ ⟨n', a', d', rfl, g1, g2, g3, g4, g5, g6⟩
 simp +decide (disch := first | omega | rfl | (simp +decide only [go_sem, ↓reduceIte] <;> rfl) | fail) only [go_sem, ↓reduceIte]
 refine Qa hP (Qiw (n := !n') g1 g2 (by omega) (by omega)) rfl rfl rfl ?_
 rw [Q04, g6]
 simp +decide (disch := first | omega | rfl | (simp +decide only [go_sem, ↓reduceIte] <;> rfl) | fail) only [go_sem, ↓reduceIte]
 refine Qaw ?_
 simp +decide (disch := first | omega | rfl | (simp +decide only [go_sem, ↓reduceIte] <;> rfl) | fail) only [go_sem, ↓reduceIte]
 exact Qc rfl rfl
theorem Q6h {a : Rat} {k : Nat} (ha : rs a <= k) (hk : k < 2 ^ 36) : Qd Tryz.prog 117 [PV.rat a] (· = PV.rat (-a)) := by
 have := Q06 (Qct ha) hk
 rwa [Qdh] at this
theorem Qop {x : Int} (h1 : -9223372036854775808 <= x) (h2 : x <= 9223372036854775807) : Qd Tryz.prog 79 [.int .i64 x] (· = PV.rat (x : Rat)) := Q0v h1 h2
end Go.Proofs.YtmnkngmmfnncoaaGreat
namespace Go.Proofs.YtmnkngmmfnncoaaGreat
open Go Go.FW
set_option linter.unusedSimpArgs false
set_option linter.unusedVariables false
set_option maxRecDepth 100000
theorem Qp1 {l : List Rat} {R m : Nat} (hl : l.length = R * m) (hR : 0 < R) (hR2 : R <= 40) (hm : m <= 40) :
  Qca Tryz.prog 78 [PV.mat R m l] (fun _ => .undef) hp0 (fun r F H => r = .nso 2000000 0 R /\ F 2000000 = .nst 2000000 1 22 (Qac (rws 3000000 R fun _ => m)) /\ H 2000000 = some ⟨1, 22, [], false⟩ /\
   ∀ i, i < R -> H (3000000 + i) = some ⟨3, 32, Q6 PV.rat (Qaj l m i) m, false⟩) := by
 refine Qel Qm Tryz.func78 rfl Q01 (by simp [c78]) fun C hP => ?_; simp only [c78]
 simp +decide (disch := first | omega | rfl | (simp +decide only [go_sem, ↓reduceIte] <;> rfl) | fail) only [go_sem, ↓reduceIte]
 refine Qbp (Qgl 7 2000000 rfl (by omega) rfl (by omega)) ?_
 simp +decide (disch := first | omega | rfl | (simp +decide only [go_sem, ↓reduceIte] <;> rfl) | fail) only [go_sem, ↓reduceIte]
 refine Qbp (Qhp (γ := 2000000) (e := 1) (ty := 22) (xs := List.replicate R .nilS) (fz := false) (by simp +decide (disch := first | omega | rfl | (simp +decide only [go_sem, ↓reduceIte] <;> rfl) | fail) only [go_sem, ↓reduceIte]) (by intro h; have := congrArg List.length h; simp at this; omega) (by omega) (fun x hx => by rw [List.eq_of_mem_replicate hx]; rfl)) ?_
 rw [Q0l 3000000 R fun _ => m]
 simp +decide (disch := first | omega | rfl | (simp +decide only [go_sem, ↓reduceIte] <;> rfl) | fail) only [go_sem, ↓reduceIte]
 refine Qbi (by repeat (first | exact Qx | exact Qp | exact Qq | exact Qr | exact Qt | apply Qo | apply Qw | apply Q3 | apply Q9 | apply Qaa | apply Qn)) [(3, 4), (10, 36), (2000000, 2000000)] [17] (fun n J hp => ∃ i, n = R - i /\ i <= R /\ J 3 = .nso 2000000 0 R /\ J 10 = .int .i64 (i : Nat) /\ J 2000000 = .nst 2000000 1 22 (Qdc 3000000 i R fun _ => m) /\
   hp 1 = some ⟨3, 24, [PV.mat R m l], false⟩ /\ hp 2000000 = some ⟨1, 22, [], false⟩ /\ (∀ j, j < i -> hp (3000000 + j) = some ⟨3, 32, Q6 PV.rat (Qaj l m j) m, false⟩) /\ ∀ j, i <= j -> hp (3000000 + j) = none) R ?_ ?_
 ·refine ⟨0, rfl, by omega, ?_⟩
  simp +decide (disch := first | omega | rfl | (simp +decide only [go_sem, ↓reduceIte] <;> rfl) | fail) only [go_sem, ↓reduceIte]
  exact ⟨rfl, (fun j hj => by omega), fun j hj => trivial⟩
 rintro _ J h ⟨i, rfl, hi, h3, h10, hg, h1, hh, hrow, hno⟩
 simp +decide (disch := first | omega | rfl | (simp +decide only [go_sem, ↓reduceIte, h3, h10] <;> rfl) | fail) only [go_sem, ↓reduceIte, h3, h10]
 refine Qb (fun hc => ?_) (fun hc => ?_)
 ·have hi' : i < R := by omega
  have hfr := hno i (Nat.le_refl _)
  simp +decide (disch := first | omega | rfl | (simp +decide only [go_sem, ↓reduceIte, h3, h10, h1, hg] <;> rfl) | fail) only [go_sem, ↓reduceIte, h3, h10, h1, hg]
  refine Qbp (Qgl 17 (3000000 + i) (by simp +decide (disch := first | omega | rfl | (simp +decide only [go_sem, ↓reduceIte, hfr] <;> rfl) | fail) only [go_sem, ↓reduceIte, hfr]) (by omega) rfl (by omega)) ?_
  have hgm : ∀ L, rnP (mvN 17 (3000000 + i)) (.nst 2000000 1 22 (Qdc 3000000 i R L)) = .nst 2000000 1 22 (Qdc 3000000 i R L) := fun L => Q81 (by omega) (by omega) (by omega)
  simp +decide (disch := first | omega | rfl | (simp +decide only [go_sem, ↓reduceIte, h3, h10, h1, hg, hh, hgm] <;> rfl) | fail) only [go_sem, ↓reduceIte, h3, h10, h1, hg, hh, hgm]
  rw [Q8z (ty := 22) (B := 3000000) (i := i) (n := R) (L := fun _ => m) (e0 := 1) (ty0 := 22) (xs0 := []) (by simp +decide (disch := first | omega | rfl | (simp +decide only [go_sem, ↓reduceIte, hg, hgm] <;> rfl) | fail) only [go_sem, ↓reduceIte, hg, hgm]) (by simp +decide (disch := first | omega | rfl | (simp +decide only [go_sem, ↓reduceIte, hh] <;> rfl) | fail) only [go_sem, ↓reduceIte, hh]) hi' (by omega) rfl]
  have hld := fun (K : Qg) (fr : Fr) (hp : HP) d => Q80 (d := d) (fr := fr) (hp := hp) (K := K) (γ := 2000000) (j := i) (i := i + 1) (n := R) (ty := 22) (B := 3000000) (L := fun _ => m)
  have hb1 : (i + 1) * m <= R * m := Nat.mul_le_mul_right _ hi'
  have hb2 : i * m <= (i + 1) * m := Nat.mul_le_mul_right _ (by omega)
  have e1 : (i : Int) * (m : Int) = ((i * m : Nat) : Int) := by rw [Int.natCast_mul]
  have e2 : ((i : Int) + 1) * (m : Int) = (((i + 1) * m : Nat) : Int) := by rw [Int.natCast_mul]; rfl
  have hcr := Qrt hl hi'
  have hRm : R * m <= 40 * 40 := Nat.mul_le_mul hR2 hm
  simp +decide (disch := first | omega | rfl | (simp +decide only [go_sem, ↓reduceIte, h3, h10, h1, hg, hh, hgm, hld, e1, e2] <;> rfl) | fail) only [go_sem, ↓reduceIte, h3, h10, h1, hg, hh, hgm, hld, e1, e2]
  rw [Qad3 (xs := List.replicate m (.agg [.bool false, .nilS, .nilS])) (ty := 32) (by simp +decide (disch := first | omega | rfl | (simp +decide only [go_sem, ↓reduceIte] <;> rfl) | fail) only [go_sem, ↓reduceIte]) (by omega) (by simp) (by rw [hcr, Qau])]
  rw [hcr]
  simp +decide (disch := first | omega | rfl | (simp +decide only [go_sem, ↓reduceIte, h3, h10] <;> rfl) | fail) only [go_sem, ↓reduceIte, h3, h10]
  refine Qa0 (R - (i + 1)) (by omega) ⟨i + 1, rfl, by omega, ?_⟩
  simp +decide (disch := first | omega | rfl | (simp +decide only [go_sem, ↓reduceIte, h3, h10, h1, hh] <;> rfl) | fail) only [go_sem, ↓reduceIte, h3, h10, h1, hh]
  refine ⟨fun j hj => ?_, fun j hj => ?_⟩
  ·by_cases e : j = i
   ·subst e; simp +decide (disch := first | omega | rfl | (simp +decide only [go_sem, ↓reduceIte] <;> rfl) | fail) only [go_sem, ↓reduceIte]
   ·simp +decide (disch := first | omega | rfl | (simp +decide only [go_sem, ↓reduceIte, e] <;> rfl) | fail) only [go_sem, ↓reduceIte, e]
    exact hrow j (by omega)
  ·have e : ¬ j = i := by omega
   simp +decide (disch := first | omega | rfl | (simp +decide only [go_sem, ↓reduceIte, e] <;> rfl) | fail) only [go_sem, ↓reduceIte, e]
   exact hno j (by omega)
 ·obtain rfl : i = R := by omega
  rw [Q0m] at hg
  simp +decide (disch := first | omega | rfl | (simp +decide only [go_sem, ↓reduceIte, h3] <;> rfl) | fail) only [go_sem, ↓reduceIte, h3]
  refine Q4p ?_
  simp +decide (disch := first | omega | rfl | (simp +decide only [go_sem, ↓reduceIte, hg, hh] <;> rfl) | fail) only [go_sem, ↓reduceIte, hg, hh]
  exact hrow
end Go.Proofs.YtmnkngmmfnncoaaGreat
namespace Go.FW
open Go
variable {C : Ctx} {ρ : Nat -> Option Nat} {fr fr' : Fr} {hp : HP} {w : World} {K R : Qg}
theorem Qca.data {P : Program} {f : FuncId} {args : List PV} {Post : PV -> Fr -> HP -> Prop} {Rr : PV -> Prop} (k : Nat) (h : Qca P f args (fun _ => .undef) hp0 Post) (hl : args.length <= 1000000)
  (hpost : ∀ r F H, Post r F H -> Qmp (Qeq r F) k r /\ Rr (Qix (Qeq r F) H k r)) : Qd P f args Rr := by
 refine ⟨h.1, fun w X vals hX hsz hrep => ?_⟩
 let C : Ctx := Ctx.plain P args.length w X hX hl
 have hsim : Q2 C (fun _ => none) (Qjx args fun _ => .undef) hp0 vals w := by
  refine ⟨hsz, Ext.refl _ _, (fun _ _ h => by cases h), by simp [hp0], by simp [hp0], fun i => ?_⟩
  unfold Qjx
  split
  ·cases hi : args[i]? with
   | none => trivial
   | some p =>
    simp only [Option.getD_some]
    refine Ql.ofData ((hrep i p hi).mono (fun _ _ _ => rfl) (fun b _ hn hx => ?_) (Nat.le_refl _))
    rcases hx with hx | ⟨_, _, h1, _⟩
    ·exact hn hx
    ·simp [hp0] at h1
  ·trivial
 refine (h.2 C _ vals w rfl rfl rfl hsim).mono ?_
 rintro e w' ⟨v, ρ', r, F, H, rfl, hs, hp⟩
 obtain ⟨h1, h2⟩ := hpost r F H hp
 have hr0 : Qeq r F 0 = r := rfl
 obtain ⟨ρ2, hs2⟩ := Qt7 (fr := Qeq r F) (hp := H) 0 k (by rw [hr0]; exact h1) (C.setN 1 (by decide)) #[v] w' ⟨ρ', hs⟩
 refine ⟨v, _, rfl, Ctx.plain_ext hs2.ext, ?_, h2⟩
 have hsl := hs2.slots 0
 rw [hr0] at hsl
 have e1 : upd (Qeq r F) 0 (Qix (Qeq r F) H k r) 0 = Qix (Qeq r F) H k r := by simp [upd]
 rw [e1] at hsl
 have hd : Qcb w' (Xof C ρ2 (Q7 H (Qqx (Qeq r F) k r))) (Qix (Qeq r F) H k r) v := by
  cases r with
  | rag cs => exact hsl
  | nso γ o n =>
   cases k with
   | zero => cases h1
   | succ k =>
    simp only [Qmp, okD] at h1
    split at h1
    ·rename_i hγ
     simp only [Qix, dsn, hγ] at hsl ⊢
     exact hsl
    ·exact h1.elim
  | _ => cases h1
 exact hd.mono (fun _ _ _ => rfl) (fun b _ hn hx => hn (.inl hx)) (Nat.le_refl _)
theorem Qrx {γ ty n : Nat} {l : List (Nat × Nat)} (hγ : fr γ = .nst γ 1 ty (Qac l)) (hn : n = l.length) (h2 : 2000000 <= γ) (hl : ∀ x ∈ l, 2000000 <= x.1) : Qmp fr 2 (.nso γ 0 n) := by
 simp only [Qmp, okD, hγ]
 refine ⟨trivial, by simp [isY]; omega, by simp [Qac, hn], fun x hx c hc => ?_⟩
 obtain ⟨y, hy, rfl⟩ := List.mem_map.1 (List.mem_of_mem_drop (List.mem_of_mem_take hx))
 obtain rfl : c = .mso y.1 0 y.2 := by simpa [PV.ncells, PV.cells] using hc
 have := hl y hy
 simp only [okD, isY]; simp; omega
theorem Quk {γ ty n e' : Nat} {l : List (Nat × Nat)} (hγ : fr γ = .nst γ 1 ty (Qac l)) (hn : n = l.length) (ys : Nat -> List PV) (hh : ∀ x ∈ l, ∃ ty' fz, hp x.1 = some ⟨e', ty', ys x.1, fz⟩) :
  Qix fr hp 2 (.nso γ 0 n) = .sl 1 (l.map fun x => .sl e' ((ys x.1).take x.2)) := by
 simp only [Qix, dsn, hγ, List.drop_zero]
 rw [List.take_of_length_le (by simp [Qac, hn])]
 simp only [Qac, List.map_map]
 congr 1
 refine List.map_congr_left fun x hx => ?_
 obtain ⟨ty', fz, h⟩ := hh x hx
 simp [Function.comp, PV.ncells, PV.cells, mkA, dsn, h]
theorem Qci {P : Program} {f : FuncId} {fn : Func} {sf : SFn} {args : List PV} {Rr : PV -> Prop} (hm : P.follows .mixedOrders = true) (hf : P.funcs[f]? = some fn) (hname : (fn.name != "runtime.NumGoroutine") = true) (hc : Qf P fn = some sf.strip) (hn : args.length <= sf.n /\ sf.n <= 1000000)
  (hv : ∀ C : Ctx, C.P = P -> vc C (Qmo (Qcy sf.rs Rr)) [.c sf.body] (Qe8 args) hp0) : Qd P f args Rr := by
 simp only [Qf, Option.bind_eq_some_iff, Option.map_eq_some_iff] at hc
 obtain ⟨c, hb, sb, hcb, rs, hrs, hsf⟩ := hc
 obtain ⟨n, rs', body⟩ := sf
 simp only [SFn.strip, SFn.mk.injEq] at hsf
 obtain ⟨rfl, rfl, rfl⟩ := hsf
 refine ⟨by simp [Qiq, hf, hb]; simpa using hname, fun w X vals hX hsz hrep => ?_⟩
 let C : Ctx := Ctx.plain P fn.ntmps w X hX hn.2
 refine calls_of_wp hf hb ?_
 have hsz' : (vals ++ Array.replicate (fn.ntmps - vals.size) undef).size = fn.ntmps := by simp at hn ⊢; omega
 have hsim : Sim C (Qe8 args) hp0 (vals ++ Array.replicate (fn.ntmps - vals.size) undef) w := by
  refine ⟨fun _ => none, hsz', Ext.refl _ _, (fun _ _ h => by cases h), by simp [hp0], by simp [hp0], fun i => ?_⟩
  unfold Qe8
  cases hi : args[i]? with
  | none => trivial
  | some p =>
   simp only [Option.getD_some]
   have hil : i < vals.size := by rw [hsz]; exact (List.getElem?_eq_some_iff.1 hi).1
   have hr := hrep i p hi
   have e : (vals ++ Array.replicate (fn.ntmps - vals.size) undef).getD i undef = vals.getD i undef := by
    rw [Qbo, if_pos hil]
   rw [e]
   refine Ql.ofData (hr.mono (fun _ _ _ => rfl) (fun b _ hn hx => ?_) (Nat.le_refl _))
   rcases hx with hx | ⟨_, _, h1, _⟩
   ·exact hn hx
   ·simp [hp0] at h1
 have fin : ∀ (fr : Fr) (hp : HP) (a : Act) (w' : World), a.defers = [] -> Sim C fr hp a.tmps w' -> Qmo (Qcy rs Rr) fr hp ->
   a.defers = [] /\ ∃ v, (results fn a.tmps).run P w' = .ok v w' /\ ∃ v' r, Ending.returned v = .returned v' /\ Ext Qbb w w' /\ Qcb w' X r v' /\ Rr r := by
  rintro fr hp a w' hd hs0 ⟨fr1, hp1, hw, hr⟩
  obtain ⟨ρ, hs⟩ := hw C _ _ hs0
  obtain ⟨v, r, h1, h2, h3⟩ := Qq9 (C := C) rfl hrs hs hr
  exact ⟨hd, v, h1, v, r, rfl, Ctx.plain_ext hs.ext, h2, h3⟩
 exact Qjr (C := C) (R := Qmo (Qcy rs Rr)) hm c body [] _ (Qe8 args) hp0 _ w hcb ⟨fun fr hp a w' hd hs hv => (by rw [Qhi] at hv; exact fin fr hp a w' hd hs hv), fun id sk' he => (by simp [FW.Qad] at he), fin⟩ rfl hsim (hv C rfl)
theorem Qjk {Post : PV -> Fr -> HP -> Prop} (h : Post (.tup []) fr hp) : Qlo [] Post fr hp := by
 refine Qd1 ?_
 simp only [Qcy, List.flatMap_nil, Qo9]
 exact ⟨by simp, _, Q12 _, h⟩
theorem Q9z {ty w i d : Nat} {fz : Bool} {f : Nat -> Rat} (h : i < w) : ldM (some ⟨3, ty, Q6 PV.rat f w, fz⟩) 3 true i 0 d fr hp K = K (upd fr d (PV.rat (f i))) hp := by
 rw [Qka (by rw [Qau]; exact h) (by omega) (by simp), Qfd]; rfl
theorem Qq2 {ty β w i : Nat} {f : Nat -> Rat} {v : Rat} (h : i < w) : stM (some ⟨3, ty, Q6 PV.rat f w, false⟩) β 3 i 0 (PV.rat v) fr hp K = K fr (Qk hp β ⟨3, ty, Q6 PV.rat (fun c => if c = i then v else f c) w, false⟩) := by
 have e := Qf2 (fr := fr) (hp := hp) (K := K) (n := 3) (ty := ty) (β := β) (i := i) (xs := Q6 PV.rat f w) (v := PV.rat v) (by rw [Qau]; exact h) rfl rfl
 rw [Q4t (g := fun c => if c = i then v else f c) fun k _ => rfl] at e
 exact e
theorem Qlv {e ty : Nat} {xs ys : List PV} {fz : Bool} (h : xs = ys) : HB.mk e ty xs fz = HB.mk e ty ys fz := by rw [h]
theorem Qul : (Qe3 (.tup []) = True) /\ (∀ (k : IntKind) (n : Int), Qe3 (.int k n) = True) /\ (∀ b : Bool, Qe3 (.bool b) = True) /\ (∀ (e : Nat) (xs : List PV), Qe3 (.sl e xs) = True) /\ (∀ cs : List PV, Qe3 (.agg cs) = True) /\ (∀ cs : List PV, Qe3 (.tup cs) = True) := by
 refine ⟨?_, ?_, ?_, ?_, ?_, ?_⟩ <;> intros <;> simp [Qe3, PV.refs, PV.sref, rnP, rn1]
attribute [go_sem] Qul Q9z
end Go.FW
