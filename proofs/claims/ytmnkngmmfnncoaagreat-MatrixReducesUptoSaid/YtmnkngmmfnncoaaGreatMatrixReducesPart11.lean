/- Part 11 of the proof of MatrixReduces: B2, B3, FwUE, FwVD. Own lemmas; no conditions. -/
import Derived.Test.YtmnkngmmfnncoaaGreatMatrixReducesPart10
set_option linter.unusedSimpArgs false
set_option linter.unnecessarySimpa false
set_option linter.unusedVariables false
namespace Go.Proofs.YtmnkngmmfnncoaaGreat
open Go Go.FW
set_option linter.unusedSimpArgs false
set_option linter.unusedVariables false
set_option maxRecDepth 100000
def c80 : SFn := ⟨20, [.t 2], Zr (Zo (.box 1 3 24 (.t 0)) <|
 Zo (.mv 2 (.c .nilS)) .nil) <| Zr (Zo (.mv 3 (.c .nilS)) .nil) <| .seq (Zr (Zc 4 0 .nil) <| .block 0 <| .loop <| .seq (Zr (Zm 5 4 <|
 Zf 6 0 1 <|
 Zl 7 1 6 <|
 Zb 8 .lss 5 7 .nil) <| .cond (.t 8) .skip (.exit 0)) <| .seq (.block 1 <| .rg (Zm 11 3 <|
 Zo (.bs 12 3 32 []) <|
 Zh 13 3 1 <|
 Zm 14 4 <|
 Zq 15 false 103 [.t 13, .t 14] <|
 Zo (.app 16 3 56 32 (.t 12) (.t 15)) <|
 Zo (.bs 17 1 22 [.t 16]) <|
 Zo (.app 18 1 24 22 (.t 11) (.t 17)) <|
 Zm 3 18 .nil)) <| .rg (Zm 9 4 <|
 Zk 10 .add 9 1 <|
 Zm 4 10 .nil)) <| Zr (Zm 19 3 <|
 Zm 2 19 .nil) .ret⟩
theorem Qae6 : Qe Tryz.prog Tryz.f80 = some c80.strip := by kernel_rfl
theorem Q21 {l : List Rat} {R m i : Nat} (hl : l.length = R * m) (hi : i < R) (hR2 : R <= 40) (hm : m <= 40) : Qd Tryz.prog 103 [PV.mat R m l, .int .i64 (i : Nat)] (· = .sl 3 (Qy PV.rat (Qah l m i) m)) := by
 have hb1 : (i + 1) * m <= R * m := Nat.mul_le_mul_right _ hi
 have hb2 : i * m <= (i + 1) * m := Nat.mul_le_mul_right _ (by omega)
 have e1 : (i : Int) * (m : Int) = ((i * m : Nat) : Int) := by rw [Int.natCast_mul]
 have e2 : ((i : Int) + 1) * (m : Int) = (((i + 1) * m : Nat) : Int) := by rw [Int.natCast_mul]; rfl
 have hcr := Qsz hl hi
 have hRm : R * m <= 40 * 40 := Nat.mul_le_mul hR2 hm
 refine Qf Ql Tryz.func103 rfl Qabi (by simp [Q7c]) fun C hP => ?_; simp only [Q7c, Zo, Zg, Zm, Zc, Zf, Zl, Zh, Zs, Zi, Zb, Zk, Zn, Zu, Zq, Zr, Zz]
 simp +decide (disch := first | exact D2 e1 e2 | fail) only [go_sem, ↓reduceIte, e1, e2]
 refine Qc ?_ rfl
 rw [hcr]
end Go.Proofs.YtmnkngmmfnncoaaGreat
namespace Go.Proofs.YtmnkngmmfnncoaaGreat
open Go Go.FW
set_option linter.unusedSimpArgs false
set_option linter.unusedVariables false
set_option maxRecDepth 100000
theorem Qkq {R m : Nat} {l : List Rat} (hl : l.length = R * m) (hR : R <= 40) (hm : m <= 40) (hs : ∀ q ∈ l, rs q <= 1048576) : Qd Tryz.prog 26 [PV.mat R m l] (· = .bool true) := by
 have hRm : R * m <= 40 * 40 := Nat.mul_le_mul hR hm
 have h := Qjm (r := (R : Int)) (c := (m : Int)) (l := l.map qR) ⟨by rw [List.length_map]; omega, RRk.of hs⟩
 rw [<- Qnc, Qnb hl hR hm] at h
 exact h
end Go.Proofs.YtmnkngmmfnncoaaGreat
namespace Go.FW
open Go
theorem Qae7 (x y : Int) (hy : y ≠ 0) : rs ((x : Rat) / (y : Rat)) <= max (nl x.natAbs) (max (nl y.natAbs) 1) := by
 rw [<- Qqu x y hy]
 have := Qlz (zv (decide (x < 0) != decide (y < 0)) (dig x.natAbs)) y.natAbs
 rwa [Qbb, Qz] at this
theorem Qv2 (q : Rat) (h : q ≠ 0) : rs q⁻¹ <= rs q := by
 have hn : q.num ≠ 0 := fun e => h (Rat.num_eq_zero.1 e)
 have e : q⁻¹ = (((q.den : Int) : Int) : Rat) / ((q.num : Int) : Rat) := by
  have d1 : q = (q.num : Rat) / ((q.den : Int) : Rat) := by
   conv => lhs; rw [<- Rat.mkRat_self q]
   rw [Rat.mkRat_eq_div, Rat.intCast_natCast]
  have k1 : ((q.den : Int) : Rat) ≠ 0 := by rw [Ne, Rat.intCast_eq_zero_iff]; have := q.den_nz; omega
  have k3 : ((q.num : Int) : Rat) ≠ 0 := by rw [Ne, Rat.intCast_eq_zero_iff]; exact hn
  generalize (q.num : Rat) = A at *
  generalize ((q.den : Int) : Rat) = D at *
  rw [d1]
  grind
 have h2 := Qae7 (q.den : Int) q.num hn
 have h3 := Quz q
 rw [e]
 unfold rs at h3 ⊢
 unfold rs at h2
 rw [Int.natAbs_natCast] at h2
 have h4 : 1 <= nl q.den := by
  have := q.den_nz
  apply Decidable.byContradiction; intro hc
  exact this (Qil.1 (by omega))
 omega
end Go.FW
namespace Go.FW
open Go
theorem Qv3 {a b : Rat} (h : b ≠ 0) : rs (a / b) <= rs a + rs b := by
 rw [Rat.div_def]
 have := Qb8 a b⁻¹
 have := Qv2 b h
 omega
theorem Qqz (a b : Rat) : rs (a - b) <= rs a + rs b + 1 := by
 rw [Rat.sub_eq_add_neg]
 have := Qk8 a (-b)
 rw [Qjg] at this
 exact this
end Go.FW
