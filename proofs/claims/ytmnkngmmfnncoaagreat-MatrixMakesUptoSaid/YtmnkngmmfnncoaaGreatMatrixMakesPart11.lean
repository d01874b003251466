/- Part 11 of the proof of MatrixMakes: A10, B1, FwVC. Own lemmas; no conditions. -/
import Derived.Test.YtmnkngmmfnncoaaGreatMatrixMakesPart10
set_option linter.unusedSimpArgs false
set_option linter.unnecessarySimpa false
set_option linter.unusedVariables false
namespace Go.Proofs.YtmnkngmmfnncoaaGreat
open Go Go.FW
set_option linter.unusedSimpArgs false
set_option linter.unusedVariables false
set_option maxRecDepth 100000
def c29 : SFn := ⟨83, [.t 2, .cell 3 3 true, .t 4], .seq (.rg (.o none (.box 1 3 24 (.t 0)) <|
 .o none (.mv 2 (.c .nilS)) <|
 .o none (.alloc 3 3 24 (.agg [(.int .i64 0), (.int .i64 0), .nilS])) <|
 .o none (.mv 4 (.c (.int .i64 0))) .nil)) <| .seq (.seq (.rg (.o none (.ld 10 3 true (.t 1)) <|
 .o none (.call (some 11) false (.c (.fn 25 [] [])) [(.t 10)]) <|
 .o none (.un 12 .not (.t 11)) .nil)) <| .cond (.t 12) (.seq (.rg (.o none (.bld 13 [(.int .i64 0), (.int .i64 0), .nilS] []) <|
 .o none (.mv 2 (.c .nilS)) <|
 .o none (.st 3 (.t 3) (.t 13)) <|
 .o none (.mv 4 (.c (.int .i64 1))) .nil)) <| .ret) (.skip)) <| .seq (.rg (.o none (.ld 14 3 true (.t 1)) <|
 .o none (.call (some 15) false (.c (.fn 78 [] [])) [(.t 14)]) <|
 .o none (.mv 5 (.t 15)) .nil)) <| .seq (.seq (.rg (.o none (.fld 16 0 (.t 1)) <|
 .o none (.ld 17 1 false (.t 16)) <|
 .o none (.fld 18 1 (.t 1)) <|
 .o none (.ld 19 1 false (.t 18)) <|
 .o none (.bin 20 .neq false (.t 17) (.t 19)) <|
 .o none (.mv 21 (.t 20)) <|
 .o (some (21, false)) (.mv 22 (.t 5)) <|
 .o (some (21, false)) (.call (some 23) false (.c (.fn 92 [] [])) [(.t 22)]) <|
 .o (some (21, false)) (.un 24 .not (.t 23)) <|
 .o none (.pick 25 (.t 21) (.c (.bool true)) (.t 24)) .nil)) <| .cond (.t 25) (.seq (.rg (.o none (.bld 26 [(.int .i64 0), (.int .i64 0), .nilS] []) <|
 .o none (.mv 2 (.c .nilS)) <|
 .o none (.st 3 (.t 3) (.t 26)) <|
 .o none (.mv 4 (.c (.int .i64 16))) .nil)) <| .ret) (.skip)) <| .seq (.rg (.o none (.fld 27 1 (.t 1)) <|
 .o none (.ld 28 1 false (.t 27)) <|
 .o none (.fld 29 1 (.t 3)) <|
 .o none (.st 1 (.t 29) (.t 28)) .nil)) <| .seq (.seq (.rg (.o none (.fld 30 0 (.t 1)) <|
 .o none (.ld 31 1 false (.t 30)) <|
 .o none (.bin 32 .mul false (.c (.int .i64 2)) (.t 31)) <|
 .o none (.mv 33 (.c (.int .i64 0))) (.wk (.wk (.wk .nil))))) <| .block 0 (.loop (.seq (.rg (.o none (.bin 34 .lss false (.t 33) (.t 32)) .nil)) <| .seq (.cond (.t 34) (.skip) (.exit 0)) <| .seq (.block 1 (.seq (.rg (.o none (.mv 35 (.t 5)) <|
 .o none (.call (some 36) false (.c (.fn 93 [] [])) [(.t 35)]) <|
 .o none (.mv 6 (.t 36)) .nil)) <| .seq (.rg (.o none (.mv 37 (.t 6)) <|
 .o none (.len 38 (.t 37)) <|
 .o none (.mv 39 (.c (.int .i64 0))) .nil)) <| .block 2 (.loop (.seq (.rg (.o none (.bin 40 .lss false (.t 39) (.t 38)) .nil)) <| .seq (.cond (.t 40) (.skip) (.exit 2)) <| .seq (.block 3 (.seq (.rg (.o none (.idx 41 4 (.t 37) (.t 39)) <|
 .o none (.ld 42 4 true (.t 41)) <|
 .o none (.alloc 8 4 109 (.agg [(.bool false), .nilS, .nilS, .nilS])) <|
 .o none (.st 4 (.t 8) (.t 42)) .nil)) <| .seq (.rg (.o none (.mv 43 (.t 2)) <|
 .o none (.fld 44 0 (.t 8)) <|
 .o none (.ld 45 3 true (.t 44)) <|
 .o none (.bs 46 3 32 [(.t 45)]) <|
 .o none (.app 47 3 56 32 (.t 43) (.t 46)) <|
 .o none (.mv 2 (.t 47)) .nil)) <| .seq (.rg (.o none (.fld 48 2 (.t 3)) <|
 .o none (.ld 49 1 false (.t 48)) <|
 .o none (.fld 50 3 (.t 8)) <|
 .o none (.ld 51 1 false (.t 50)) <|
 .o none (.app 52 3 56 32 (.t 49) (.t 51)) <|
 .o none (.fld 53 2 (.t 3)) <|
 .o none (.st 1 (.t 53) (.t 52)) .nil)) <| .seq (.rg (.o none (.fld 54 0 (.t 3)) <|
 .o none (.ld 55 1 false (.t 54)) <|
 .o none (.bin 56 .add false (.t 55) (.c (.int .i64 1))) <|
 .o none (.fld 57 0 (.t 3)) <|
 .o none (.st 1 (.t 57) (.t 56)) .nil)) <| .seq (.rg (.o none (.mv 58 (.t 5)) <|
 .o none (.len 59 (.t 58)) <|
 .o none (.mv 60 (.c (.int .i64 0))) .nil)) <| .block 4 (.loop (.seq (.rg (.o none (.bin 61 .lss false (.t 60) (.t 59)) .nil)) <| .seq (.cond (.t 61) (.skip) (.exit 4)) <| .seq (.block 5 (.seq (.rg (.o none (.mv 62 (.t 60)) <|
 .o none (.mv 9 (.t 62)) .nil)) <| .rg (.o none (.mv 63 (.t 5)) <|
 .o none (.mv 64 (.t 9)) <|
 .o none (.idx 65 1 (.t 63) (.t 64)) <|
 .o none (.ld 66 1 false (.t 65)) <|
 .o none (.fld 67 3 (.t 8)) <|
 .o none (.ld 68 1 false (.t 67)) <|
 .o none (.fld 69 0 (.t 8)) <|
 .o none (.ld 70 3 true (.t 69)) <|
 .o none (.fld 71 3 (.t 8)) <|
 .o none (.ld 72 1 false (.t 71)) <|
 .o none (.mv 73 (.t 9)) <|
 .o none (.idx 74 3 (.t 72) (.t 73)) <|
 .o none (.ld 75 3 true (.t 74)) <|
 .o none (.call (some 76) true (.c (.fn 38 [] [])) [(.t 70), (.t 75)]) <|
 .o none (.call (some 77) false (.c (.fn 94 [] [])) [(.t 66), (.t 68), (.t 76)]) .nil))) <| .rg (.o none (.bin 78 .add false (.t 60) (.c (.int .i64 1))) <|
 .o none (.mv 60 (.t 78)) .nil))))) <| .rg (.o none (.bin 79 .add false (.t 39) (.c (.int .i64 1))) <|
 .o none (.mv 39 (.t 79)) .nil))))) <| .rg (.o none (.bin 80 .add false (.t 33) (.c (.int .i64 1))) <|
 .o none (.mv 33 (.t 80)) .nil)))) <| .seq (.rg (.o none (.mv 81 (.t 2)) <|
 .o none (.ld 82 3 true (.t 3)) <| .wk <|
 .o none (.mv 2 (.t 81)) <|
 .o none (.st 3 (.t 3) (.t 82)) <|
 .o none (.mv 4 (.c (.int .i64 0))) .nil)) <| .ret⟩
theorem Qab2 : Qe Tryz.prog Tryz.f29 = some c29.strip := by kernel_rfl
theorem Quo {x y : Nat -> Rat} {c : Rat} {w ty1 k : Nat} (hw : 0 < w) (hw2 : w <= 2 ^ 30) (hx : ∀ i, i < w -> rs (x i) <= k) (hy : ∀ i, i < w -> rs (y i) <= k) (hc : rs c <= k) (hk : k <= 2 ^ 33) :
  Qb3 Tryz.prog 94 [.ms 1000000 w, .sl 3 (Q8 PV.rat y w), PV.rat c] (fun _ => .undef) (Qi hp0 1000000 ⟨3, ty1, Q8 PV.rat x w, false⟩) (fun r F H => Qet r /\ ∃ xs, H 1000000 = some ⟨3, ty1, xs, false⟩ /\ xs.length = (Q8 PV.rat x w).length /\ (r = .tup [] /\ xs = Q8 PV.rat (fun i => x i - c * y i) w)) := by
 refine Qec Qn Tryz.func94 rfl Qzy (by simp [c94]) fun C hP => ?_; simp only [c94]
 simp +decide (disch := first | omega | rfl | (simp +decide only [go_sem, ↓reduceIte] <;> rfl) | fail) only [go_sem, ↓reduceIte]
 refine Qa hP (Qly (a := c) (by omega)) rfl rfl rfl ?_
 simp +decide (disch := first | omega | rfl | (simp +decide only [go_sem, ↓reduceIte] <;> rfl) | fail) only [go_sem, ↓reduceIte]
 refine Qb (fun h0 => ?_) (fun h0 => ?_)
 ·simp +decide (disch := first | omega | rfl | (simp +decide only [go_sem, ↓reduceIte] <;> rfl) | fail) only [go_sem, ↓reduceIte]
  refine Qiz ?_
  simp +decide (disch := first | omega | rfl | (simp +decide only [go_sem, ↓reduceIte] <;> rfl) | fail) only [go_sem, ↓reduceIte]
  refine ⟨_, rfl, rfl, Qb0 fun i hi => ?_⟩
  rw [Qda.1 h0, Rat.zero_mul, Rat.sub_eq_add_neg, Rat.neg_zero, Rat.add_zero]
 simp +decide (disch := first | omega | rfl | (simp +decide only [go_sem, ↓reduceIte] <;> rfl) | fail) only [go_sem, ↓reduceIte]
 refine Qaj (by repeat (first | exact Q2 | exact Qu | exact Qv | exact Qw | exact Qx | apply Qt | apply Qz | apply Q7 | apply Qad | apply Qae | apply Qp | apply Q5)) [(6, 6), (12, 29)] [] (fun n J hp => ∃ i, n = w - i /\ i <= w /\ J 12 = .int .i64 (i : Nat) /\ hp 5 = some ⟨3, 32, [PV.rat c], false⟩ /\ hp 1000000 = some ⟨3, ty1, Q8 PV.rat (fun j => if j < i then x j - c * y j else x j) w, false⟩) w ?_ ?_
 ·refine ⟨0, rfl, by omega, ?_⟩
  simp +decide (disch := first | omega | rfl | (simp +decide only [go_sem, ↓reduceIte] <;> rfl) | fail) only [go_sem, ↓reduceIte]
  exact ⟨rfl, Qrl (Qb0 fun k _ => (if_neg (Nat.not_lt_zero k)).symm)⟩
 rintro _ J h ⟨i, rfl, hi, h12, h5, hx1⟩
 simp +decide (disch := first | omega | rfl | (simp +decide only [go_sem, ↓reduceIte, h12] <;> rfl) | fail) only [go_sem, ↓reduceIte, h12]
 refine Qb (fun hg => ?_) (fun hg => ?_)
 ·have hi' : i < w := by omega
  have hm := Qib c (y i)
  have h1 := hx i hi'
  have h2 := hy i hi'
  simp +decide (disch := first | omega | rfl | (simp +decide only [go_sem, ↓reduceIte, h12, h5, hx1] <;> rfl) | fail) only [go_sem, ↓reduceIte, h12, h5, hx1]
  rw [if_neg (Nat.lt_irrefl i)]
  refine Qa hP (Qmr (k := k) hc h2 (by omega)) rfl rfl rfl ?_
  simp +decide (disch := first | omega | rfl | (simp +decide only [go_sem, ↓reduceIte, h12, h5, hx1] <;> rfl) | fail) only [go_sem, ↓reduceIte, h12, h5, hx1]
  refine Qa hP (Q43 (k := 2 * k) (by omega) (by omega) (by omega)) rfl rfl rfl ?_
  simp +decide (disch := first | omega | rfl | (simp +decide only [go_sem, ↓reduceIte, h12, h5, hx1] <;> rfl) | fail) only [go_sem, ↓reduceIte, h12, h5, hx1]
  rw [Qp2 hi']
  simp +decide (disch := first | omega | rfl | (simp +decide only [go_sem, ↓reduceIte, h12] <;> rfl) | fail) only [go_sem, ↓reduceIte, h12]
  refine Qac (w - (i + 1)) (by omega) ⟨i + 1, rfl, by omega, ?_⟩
  simp +decide (disch := first | omega | rfl | (simp +decide only [go_sem, ↓reduceIte, h5] <;> rfl) | fail) only [go_sem, ↓reduceIte, h5]
  refine Qrl (Qb0 fun k _ => ?_)
  by_cases e : k = i
  ·subst e; rw [if_pos rfl, if_pos (by omega)]
  ·rw [if_neg e]
   by_cases e2 : k < i
   ·rw [if_pos e2, if_pos (by omega)]
   ·rw [if_neg e2, if_neg (by omega)]
 ·obtain rfl : i = w := by omega
  simp +decide (disch := first | omega | rfl | (simp +decide only [go_sem, ↓reduceIte, h12] <;> rfl) | fail) only [go_sem, ↓reduceIte, h12]
  refine Qiz ?_
  simp +decide (disch := first | omega | rfl | (simp +decide only [go_sem, ↓reduceIte, hx1] <;> rfl) | fail) only [go_sem, ↓reduceIte, hx1]
  exact ⟨_, rfl, by rw [Qa0, Qa0], Qb0 fun k hk => if_pos hk⟩
theorem Qi2 {R w x : Nat} {M : MF} {hp : HP} (h : x < 3000000) (h2 : ¬ x = 2000000) : Qgd R w M hp x = hp x := by
 unfold Qgd
 rw [if_neg h2, if_neg (by omega)]
abbrev Qw5 (R n : Nat) : PV := .rag [.int .i64 (n : Nat), .int .i64 (R : Nat), .mso 2000002 0 (n * R)]
abbrev redA (R : Nat) (l : List LF) : PV := .tup [PV.rats (l.map (·.1)), PV.mat l.length R (Qd4 R l), .int .i64 0]
theorem Q4o {R K : Nat} {l : List Rat} (hl : l.length = R * R) (hR0 : 0 < R) (hR2 : R <= 40) (hs : ∀ q ∈ l, rs q <= 1048576) (hK : K < 2 ^ 28) (hB : Q4n K R (2 * R) (Qb2 l R)) (hsym : Qtr (Qb2 l R) R) :
  Qf Tryz.prog 29 [PV.mat R R l] (· = redA R (Qbm R (Qb2 l R) (2 * R)).2) := by
 refine Ql3 Qn Tryz.func29 rfl Qab2 (by simp [c29]) fun C hP => ?_; simp only [c29]
 simp +decide (disch := first | omega | rfl | (simp +decide only [go_sem, ↓reduceIte] <;> rfl) | fail) only [go_sem, ↓reduceIte]
 refine Qa hP (Qo1 hl hR2 hR2 hs) rfl rfl rfl ?_
 simp +decide (disch := first | omega | rfl | (simp +decide only [go_sem, ↓reduceIte] <;> rfl) | fail) only [go_sem, ↓reduceIte]
 have hfree : ∀ (hp : HP), (∀ x, 5 <= x -> hp x = none) -> ∀ x, nmR R x = true -> hp x = none := fun hp h x hx => h x (by have := Qk4 hx; omega)
 refine Qq1 hP hl hR0 hR2 hR2 (by omega) (hfree _ (fun x hx => by simp +decide (disch := first | omega | rfl | (simp +decide only [go_sem, ↓reduceIte, show ¬ x = 1 from by omega, show ¬ x = 2 from by omega, show ¬ x = 3 from by omega, show ¬ x = 4 from by omega] <;> rfl) | fail) only [go_sem, ↓reduceIte, show ¬ x = 1 from by omega, show ¬ x = 2 from by omega, show ¬ x = 3 from by omega, show ¬ x = 4 from by omega] <;> rfl)) ?_
 simp +decide (disch := first | omega | rfl | (simp +decide only [go_sem, ↓reduceIte, Qb8, Qgv, Qbj] <;> rfl) | fail) only [go_sem, ↓reduceIte, Qb8, Qgv, Qbj]
 have hB0 := hB 0 (by omega)
 have hx := Qun (K := K) (ty := 22) (tyr := 32) hR2 (by omega) hB0.1
 repeat' first
  | refine Qe1 ?_ ?_
  | refine Qvf (ys := fun r => Q8 PV.rat (Qb2 l R r) R) hP (by omega) hx (by simp [Qtm]) (by simp +decide (disch := first | omega | rfl | (simp +decide only [go_sem, ↓reduceIte] <;> rfl) | fail) only [go_sem, ↓reduceIte]) (by simp +decide (disch := first | omega | rfl | (simp +decide only [go_sem, ↓reduceIte, Qj4] <;> rfl) | fail) only [go_sem, ↓reduceIte, Qj4]) (fun r hr => by simp +decide (disch := first | omega | rfl | (simp +decide only [go_sem, ↓reduceIte, Qg6] <;> rfl) | fail) only [go_sem, ↓reduceIte, Qg6]) ?_
  | simp +decide (disch := first | omega | rfl | (simp +decide only [go_sem, ↓reduceIte, Qb8, Qgv, Qbj] <;> rfl) | fail) only [go_sem, ↓reduceIte, Qb8, Qgv, Qbj]
 rw [show (Qbm R (Qb2 l R) 0).1 = Qb2 l R from rfl, decide_eq_true hsym]
 simp +decide (disch := first | omega | rfl | (simp +decide only [go_sem, ↓reduceIte, Qb8, Qgv, Qbj] <;> rfl) | fail) only [go_sem, ↓reduceIte, Qb8, Qgv, Qbj]
 refine Qdt (Qrj 3 2000001 (by simp +decide (disch := first | omega | rfl | (simp +decide only [go_sem, ↓reduceIte, Qi2] <;> rfl) | fail) only [go_sem, ↓reduceIte, Qi2] <;> rfl) (by omega) rfl (by omega)) ?_
 have hmv : rnP (mvN 3 2000001) (.nst 2000000 1 22 (Qaa (Qap 3000000 R R id))) = .nst 2000000 1 22 (Qaa (Qap 3000000 R R id)) := mv_P (by omega) (by omega) (by omega)
 simp +decide (disch := first | omega | rfl | (simp +decide only [go_sem, ↓reduceIte, hmv] <;> rfl) | fail) only [go_sem, ↓reduceIte, hmv]
 refine Qdt (Qs5 (γ := 2000001) (e := 3) (ty := 24) (xs := [.agg [.int .i64 0, .int .i64 (R : Nat), .nilS]]) (fz := false) (by simp +decide (disch := first | omega | rfl | (simp +decide only [go_sem, ↓reduceIte] <;> rfl) | fail) only [go_sem, ↓reduceIte]) (by simp) (by omega) (fun x hx => by rw [List.mem_singleton.1 hx]; rfl)) ?_
 refine Qdt (Q4l (γ := 2000001) (e := 3) (ty := 24) (cs := [.int .i64 0, .int .i64 (R : Nat), .nilS]) (cs' := [.int .i64 0, .int .i64 (R : Nat), .mso 2000002 0 0]) 2000002 3 32 (by simp +decide (disch := first | omega | rfl | (simp +decide only [go_sem, ↓reduceIte] <;> rfl) | fail) only [go_sem, ↓reduceIte]) (by simp +decide (disch := first | omega | rfl | (simp +decide only [go_sem, ↓reduceIte, Qi2] <;> rfl) | fail) only [go_sem, ↓reduceIte, Qi2] <;> rfl) (by omega) (by omega) rfl (by simp)) ?_
 simp +decide (disch := first | omega | rfl | (simp +decide only [go_sem, ↓reduceIte] <;> rfl) | fail) only [go_sem, ↓reduceIte]
 refine Qju 2 900 3 32 (by omega) (by simp +decide (disch := first | omega | rfl | (simp +decide only [go_sem, ↓reduceIte] <;> rfl) | fail) only [go_sem, ↓reduceIte]) ?_
 obtain ⟨M, hM⟩ : ∃ M, Qb2 l R = M := ⟨_, rfl⟩
 rw [hM] at hB ⊢
 refine Qcp (by repeat (first | exact Q2 | exact Qu | exact Qv | exact Qw | exact Qx | apply Qt | apply Qz | apply Q7 | apply Qad | apply Qae | apply Qp | apply Q5)) [(2, 3), (5, 6), (8, 9), (33, 80), (2000000, 2000001)] [8, 46, 47, 52, 900] (fun q J hp => ∃ k, q = 2 * R - k /\ k <= 2 * R /\ J 2 = .ms 900 (Qbm R M k).2.length /\ J 3 = .np 2000001 0 0 /\ J 5 = .nso 2000000 0 R /\ J 33 = .int .i64 (k : Nat) /\ J 2000000 = .nst 2000000 1 22 (Qaa (Qap 3000000 R R id)) /\ J 2000001 = .nst 2000001 3 24 [Qw5 R (Qbm R M k).2.length] /\
   hp 2000000 = some ⟨1, 22, [], false⟩ /\ hp 2000001 = some ⟨3, 24, [], false⟩ /\ hp 2000002 = some ⟨3, 32, (Qd4 R (Qbm R M k).2).map PV.rat, false⟩ /\ hp 900 = some ⟨3, 32, ((Qbm R M k).2.map (·.1)).map PV.rat, false⟩ /\
   ∀ r, r < R -> hp (3000000 + r) = some ⟨3, 32, Q8 PV.rat ((Qbm R M k).1 r) R, false⟩) (2 * R) ?_ ?_
 ·refine ⟨0, rfl, by omega, ?_⟩
  simp +decide (disch := first | omega | rfl | (simp +decide only [go_sem, ↓reduceIte, Qb8, Qgv, Qbj] <;> rfl) | fail) only [go_sem, ↓reduceIte, Qb8, Qgv, Qbj]
  refine ⟨rfl, rfl, ?_, Qj4, rfl, rfl, fun r hr => Qg6 hr⟩
  simp [Qbm]
 rintro _ J h ⟨k, rfl, hk, j2, j3, j5, j33, jg, jb, h0, h1, h2, h9, hrow⟩
 simp +decide (disch := first | omega | rfl | (simp +decide only [go_sem, ↓reduceIte, j33] <;> rfl) | fail) only [go_sem, ↓reduceIte, j33]
 refine Qb (fun hc => ?_) (fun hc => ?_)
 ·have hk' : k < 2 * R := by omega
  have hBk := hB k hk
  have hlk := Qnc R M k
  have hfl := Qig R (Qbm R M k).2
  have hn1 : (Qbm R M (k + 1)).1 = Qi1 (Qbm R M k).1 (Qej (Qbm R M k).1 R) := rfl
  have hn2 : (Qbm R M (k + 1)).2 = (Qbm R M k).2 ++ Qej (Qbm R M k).1 R := rfl
  obtain ⟨E, hE⟩ : ∃ E, Qbm R M k = E := ⟨_, rfl⟩
  rw [hE] at hBk hlk hfl hn1 hn2 j2 jb h2 h9 hrow
  obtain ⟨N, fs⟩ := E
  simp only at hBk hlk hfl hn1 hn2 j2 jb h2 h9 hrow
  have hnl := Ql4 N R
  have hx2 := Qabz (K := K) (ty := 22) (tyr := 32) hR2 (by omega) hBk.1
  simp +decide (disch := first | omega | rfl | (simp +decide only [go_sem, ↓reduceIte, j2, j3, j5, jg, jb] <;> rfl) | fail) only [go_sem, ↓reduceIte, j2, j3, j5, jg, jb]
  refine Qvf (ys := fun r => Q8 PV.rat (N r) R) hP (by omega) hx2 (by simp [Qtm]) (by simp +decide (disch := first | omega | rfl | (simp +decide only [go_sem, ↓reduceIte, jg] <;> rfl) | fail) only [go_sem, ↓reduceIte, jg]) h0 hrow ?_
  obtain ⟨L, hL⟩ : ∃ L, Qej N R = L := ⟨_, rfl⟩
  rw [hL] at hBk hnl hn1 hn2 ⊢
  simp +decide (disch := first | omega | rfl | (simp +decide only [go_sem, ↓reduceIte, j2, j3, j5, jg, jb] <;> rfl) | fail) only [go_sem, ↓reduceIte, j2, j3, j5, jg, jb]
  refine Qcp (by repeat (first | exact Q2 | exact Qu | exact Qv | exact Qw | exact Qx | apply Qt | apply Qz | apply Q7 | apply Qad | apply Qae | apply Qp | apply Q5)) [(2, 3), (5, 5), (8, 9), (39, 79), (2000000, 2000001)] [8, 46, 47, 52, 900] (fun q J hp => ∃ i, q = L.length - i /\ i <= L.length /\ J 2 = .ms 900 (fs ++ L.take i).length /\ J 3 = .np 2000001 0 0 /\ J 5 = .nso 2000000 0 R /\ J 39 = .int .i64 (i : Nat) /\ J 2000000 = .nst 2000000 1 22 (Qaa (Qap 3000000 R R id)) /\ J 2000001 = .nst 2000001 3 24 [Qw5 R (fs ++ L.take i).length] /\
   hp 2000000 = some ⟨1, 22, [], false⟩ /\ hp 2000001 = some ⟨3, 24, [], false⟩ /\ hp 2000002 = some ⟨3, 32, (Qd4 R (fs ++ L.take i)).map PV.rat, false⟩ /\ hp 900 = some ⟨3, 32, ((fs ++ L.take i).map (·.1)).map PV.rat, false⟩ /\
   ∀ r, r < R -> hp (3000000 + r) = some ⟨3, 32, Q8 PV.rat (Qi1 N (L.take i) r) R, false⟩) L.length ?_ ?_
  ·refine ⟨0, rfl, by omega, ?_⟩
   simp +decide (disch := first | omega | rfl | (simp +decide only [go_sem, ↓reduceIte, j2, j3, j5, jg, jb, h0, h1, h2, h9] <;> rfl) | fail) only [go_sem, ↓reduceIte, j2, j3, j5, jg, jb, h0, h1, h2, h9]
   simp only [List.append_nil]
   exact ⟨trivial, rfl, trivial, trivial, trivial, hrow⟩
  rintro _ J1 g ⟨i, rfl, hi, i2, i3, i5, i39, ig, ib, g0, g1, g2, g9, growr⟩
  simp +decide (disch := first | omega | rfl | (simp +decide only [go_sem, ↓reduceIte, i39] <;> rfl) | fail) only [go_sem, ↓reduceIte, i39]
  refine Qb (fun hci => ?_) (fun hci => ?_)
  ·have hi' : i < L.length := by omega
   have htk : L.take (i + 1) = L.take i ++ [L[i]] := List.take_succ_eq_append_getElem hi'
   have hfb := hBk.2.1 _ (List.getElem_mem hi')
   have hMb := hBk.2.2 i hi
   have hll : (fs ++ L.take i).length <= 200 := by
    rw [List.length_append, List.length_take]; omega
   have hfl2 := Qig R (fs ++ L.take i)
   generalize hf : L[i] = f at *
   have hsn := Qw3 N (L.take i) f
   have hfsn := Qw4 R (fs ++ L.take i) f
   have hTk : fs ++ L.take (i + 1) = (fs ++ L.take i) ++ [f] := by rw [htk, <- List.append_assoc]
   rw [<- htk] at hsn
   generalize hT : fs ++ L.take i = T at *
   generalize hZ : Qi1 N (L.take i) = Z at *
   have hTR : T.length * R <= 200 * 40 := Nat.mul_le_mul hll hR2
   have hrl : (Q8 PV.rat f.2 R).length = R := Qa0 _ _ _
   simp +decide (disch := first | omega | rfl | (simp +decide only [go_sem, ↓reduceIte, i2, i3, i5, i39, ig, ib, g0, g1, g2, g9, hf] <;> rfl) | fail) only [go_sem, ↓reduceIte, i2, i3, i5, i39, ig, ib, g0, g1, g2, g9, hf]
   rw [Qcv (f := PV.rat) (y := f.1) (xs := T.map (·.1)) (ty' := 32) (fz := false) (by simp +decide (disch := first | omega | rfl | (simp +decide only [go_sem, ↓reduceIte, g9] <;> rfl) | fail) only [go_sem, ↓reduceIte, g9]) (by simp +decide (disch := first | omega | rfl | (simp +decide only [go_sem, ↓reduceIte] <;> rfl) | fail) only [go_sem, ↓reduceIte]) (by omega) (by simp) (by omega) (by omega)]
   simp +decide (disch := first | omega | rfl | (simp +decide only [go_sem, ↓reduceIte, i2, i3, i5, i39, ig, ib, g0, g1, g2, g9] <;> rfl) | fail) only [go_sem, ↓reduceIte, i2, i3, i5, i39, ig, ib, g0, g1, g2, g9]
   rw [Qab1 (xs := (Qd4 R T).map PV.rat) (by simp +decide (disch := first | omega | rfl | (simp +decide only [go_sem, ↓reduceIte, g2] <;> rfl) | fail) only [go_sem, ↓reduceIte, g2]) (by omega) (by rw [List.length_map, hfl2]) (Qpz hR0) (by rw [hrl]; omega) (by rw [hrl]; omega) (by omega), hrl]
   simp +decide (disch := first | omega | rfl | (simp +decide only [go_sem, ↓reduceIte, i2, i3, i5, i39, ig, ib, g0, g1, g2, g9] <;> rfl) | fail) only [go_sem, ↓reduceIte, i2, i3, i5, i39, ig, ib, g0, g1, g2, g9]
   obtain ⟨g8, hg8⟩ : ∃ g8, g8 = HB.mk 4 109 [PV.form R f] false := ⟨_, rfl⟩
   refine Qcp (by repeat (first | exact Q2 | exact Qu | exact Qv | exact Qw | exact Qx | apply Qt | apply Qz | apply Q7 | apply Qad | apply Qae | apply Qp | apply Q5)) [(3, 3), (5, 5), (9, 9), (60, 78), (2000000, 2000001)] [] (fun q J hp => ∃ r, q = R - r /\ r <= R /\ J 3 = .np 2000001 0 0 /\ J 5 = .nso 2000000 0 R /\ J 60 = .int .i64 (r : Nat) /\ J 2000000 = .nst 2000000 1 22 (Qaa (Qap 3000000 R R id)) /\ J 2000001 = .nst 2000001 3 24 [Qw5 R (T.length + 1)] /\
    hp 2000000 = some ⟨1, 22, [], false⟩ /\ hp 2000001 = some ⟨3, 24, [], false⟩ /\ hp 2000002 = some ⟨3, 32, (Qd4 R (T ++ [f])).map PV.rat, false⟩ /\ hp 900 = some ⟨3, 32, ((T ++ [f]).map (·.1)).map PV.rat, false⟩ /\ hp 8 = some g8 /\
    ∀ r', r' < R -> hp (3000000 + r') = some ⟨3, 32, Q8 PV.rat (if r' < r then Qw2 Z f r' else Z r') R, false⟩) R ?_ ?_
   ·refine ⟨0, rfl, by omega, ?_⟩
    simp +decide (disch := first | omega | rfl | (simp +decide only [go_sem, ↓reduceIte, i2, i3, i5, i39, ig, ib, g0, g1, g2, g9] <;> rfl) | fail) only [go_sem, ↓reduceIte, i2, i3, i5, i39, ig, ib, g0, g1, g2, g9]
    refine ⟨rfl, ?_, ?_, ?_, hg8.symm, fun r' hr' => ?_⟩
    ·have e1 : T.length * R + R = (T.length + 1) * R := by rw [Nat.add_mul, Nat.one_mul]
     rw [e1]
    ·rw [hfsn, List.map_append, Q4m]
    ·simp
    ·rw [if_neg (by omega)]; exact growr r' hr'
   rintro _ J2 e ⟨r, rfl, hr, k3, k5, k60, kg, kb, e0, e1, e2, e9, e8, erow⟩
   simp +decide (disch := first | omega | rfl | (simp +decide only [go_sem, ↓reduceIte, k60] <;> rfl) | fail) only [go_sem, ↓reduceIte, k60]
   refine Qb (fun hcr => ?_) (fun hcr => ?_)
   ·have hr' : r < R := by omega
    have er := erow r hr'
    rw [if_neg (Nat.lt_irrefl r)] at er
    simp +decide (disch := first | omega | rfl | (simp +decide only [go_sem, ↓reduceIte, k3, k5, k60, kg, kb, e0, e1, e2, e9, e8, hg8, er, id] <;> rfl) | fail) only [go_sem, ↓reduceIte, k3, k5, k60, kg, kb, e0, e1, e2, e9, e8, hg8, er, id]
    have hm := Qib f.1 (f.2 r)
    have hfr := hfb.2 r hr'
    refine Qa hP (Qmr (a := f.1) (b := f.2 r) (k := K) hfb.1 hfr (by omega)) rfl rfl rfl ?_
    simp +decide (disch := first | omega | rfl | (simp +decide only [go_sem, ↓reduceIte, k3, k5, k60, kg, kb, e0, e1, e2, e9, e8, hg8, er, id] <;> rfl) | fail) only [go_sem, ↓reduceIte, k3, k5, k60, kg, kb, e0, e1, e2, e9, e8, hg8, er, id]
    have sub := Quo (w := R) (x := Z r) (y := f.2) (c := f.1 * f.2 r) (ty1 := 32) (k := 2 * K) hR0 (by omega) (fun c hc => by have := hMb r hr' c hc; omega) (fun c hc => by have := hfb.2 c hc; omega) (by omega) (by omega)
    refine Q8x hP sub er rfl (Qpz hR0) (by simp [isB]; omega) (by simp +decide (disch := first | omega | rfl | (simp +decide only [go_sem, ↓reduceIte] <;> rfl) | fail) only [go_sem, ↓reduceIte]) (fun γ hγ => by simpa [PV.refs, PV.sref] using hγ) (by simp) ?_
    rintro _ xs _ ⟨rfl, rfl⟩
    simp +decide (disch := first | omega | rfl | (simp +decide only [go_sem, ↓reduceIte, k60] <;> rfl) | fail) only [go_sem, ↓reduceIte, k60]
    refine Qbx (R - (r + 1)) (by omega) ⟨r + 1, rfl, by omega, ?_⟩
    simp +decide (disch := first | omega | rfl | (simp +decide only [go_sem, ↓reduceIte, k3, k5, kg, kb, e0, e1, e2, e9, e8] <;> rfl) | fail) only [go_sem, ↓reduceIte, k3, k5, kg, kb, e0, e1, e2, e9, e8]
    refine ⟨hg8, fun r' hr2 => ?_⟩
    by_cases e3 : r' = r
    ·subst e3
     rw [if_pos rfl, if_pos (by omega)]
     rfl
    ·rw [if_neg e3, erow r' hr2]
     by_cases e4 : r' < r
     ·rw [if_pos e4, if_pos (by omega)]
     ·rw [if_neg e4, if_neg (by omega)]
   ·have hrR : r = R := by omega
    subst hrR
    rw [Qcs]
    rotate_left
    ·decide
    simp +decide (disch := first | omega | rfl | (simp +decide only [go_sem, ↓reduceIte, i39] <;> rfl) | fail) only [go_sem, ↓reduceIte, i39]
    refine Qbx (L.length - (i + 1)) (by omega) ⟨i + 1, rfl, by omega, ?_⟩
    rw [hTk, hsn]
    simp +decide (disch := first | omega | rfl | (simp +decide only [go_sem, ↓reduceIte, i2, k3, k5, kg, kb, e0, e1, e2, e9] <;> rfl) | fail) only [go_sem, ↓reduceIte, i2, k3, k5, kg, kb, e0, e1, e2, e9]
    rw [List.length_append]
    exact ⟨rfl, rfl, fun r' hr' => by rw [erow r' hr', if_pos hr']⟩
  ·have hiL : i = L.length := by omega
   subst hiL
   rw [List.take_length] at i2 ib g2 g9 growr
   simp (disch := decide) only [Qcs, Qdb, Qcy, Qdv]
   simp +decide (disch := first | omega | rfl | (simp +decide only [go_sem, ↓reduceIte, j33] <;> rfl) | fail) only [go_sem, ↓reduceIte, j33]
   refine Qbx (2 * R - (k + 1)) (by omega) ⟨k + 1, rfl, by omega, ?_⟩
   rw [hn1, hn2]
   simp +decide (disch := first | omega | rfl | (simp +decide only [go_sem, ↓reduceIte, i2, i3, i5, ig, ib, g0, g1, g2, g9] <;> rfl) | fail) only [go_sem, ↓reduceIte, i2, i3, i5, ig, ib, g0, g1, g2, g9]
   exact growr
 ·have hkR : k = 2 * R := by omega
  subst hkR
  simp +decide (disch := first | omega | rfl | (simp +decide only [go_sem, ↓reduceIte, j2, j3, j5, jg, jb, h0, h1, h2, h9] <;> rfl) | fail) only [go_sem, ↓reduceIte, j2, j3, j5, jg, jb, h0, h1, h2, h9]
  have hfl := Qig R (Qbm R M (2 * R)).2
  have hml : (Qd4 R (Qbm R M (2 * R)).2).map PV.rat = (Qd4 R (Qbm R M (2 * R)).2).map PV.rat := rfl
  refine Q8w 82 2 [2000002] (p := Qw5 R (Qbm R M (2 * R)).2.length) (by simp +decide (disch := first | omega | rfl | (simp +decide only [go_sem, ↓reduceIte] <;> rfl) | fail) only [go_sem, ↓reduceIte]) (D := PV.mat (Qbm R M (2 * R)).2.length R (Qd4 R (Qbm R M (2 * R)).2)) ?_ ?_ rfl ?_
  ·intro c hc
   simp only [List.mem_cons, List.not_mem_nil, or_false] at hc
   rcases hc with rfl | rfl | rfl
   ·trivial
   ·trivial
   ·simp only [okD, isY]; simp
  ·show PV.agg [_, _, dsn _ h 2 (.mso 2000002 0 _)] = _
   simp only [dsn, h2, List.drop_zero]
   rw [List.take_of_length_le (by rw [List.length_map, hfl]; omega)]
  simp +decide (disch := first | omega | rfl | (simp +decide only [go_sem, ↓reduceIte, j2, j3, jb, h1, h9, Ql, List.contains_cons, List.contains_nil, List.flatMap_cons, List.flatMap_nil, List.append_nil] <;> rfl) | fail) only [go_sem, ↓reduceIte, j2, j3, jb, h1, h9, Ql, List.contains_cons, List.contains_nil, List.flatMap_cons, List.flatMap_nil, List.append_nil]
  refine Q66 (Qab0 (γ := 2000001) (e := 3) (ty := 24) (xs := [PV.mat (Qbm R M (2 * R)).2.length R (Qd4 R (Qbm R M (2 * R)).2)]) 3 (by simp +decide (disch := first | omega | rfl | (simp +decide only [go_sem, ↓reduceIte] <;> rfl) | fail) only [go_sem, ↓reduceIte]) (by simp +decide (disch := first | omega | rfl | (simp +decide only [go_sem, ↓reduceIte, j3] <;> rfl) | fail) only [go_sem, ↓reduceIte, j3] <;> rfl) rfl (fun x hx => by rw [List.mem_singleton.1 hx]; exact ⟨rfl, rfl, fun c hc => by
   simp only [PV.ncells, PV.cells, List.mem_cons, List.not_mem_nil, or_false] at hc
   rcases hc with rfl | rfl | rfl <;> rfl⟩)) ?_
  refine Qacg ?_
  simp +decide (disch := first | omega | rfl | (simp +decide only [go_sem, ↓reduceIte, h9, Ql, List.contains_cons, List.contains_nil, List.flatMap_cons, List.flatMap_nil, List.append_nil] <;> rfl) | fail) only [go_sem, ↓reduceIte, h9, Ql, List.contains_cons, List.contains_nil, List.flatMap_cons, List.flatMap_nil, List.append_nil]
  rw [List.take_of_length_le (by simp)]
  exact Qkg rfl rfl rfl rfl (Qm _) (Qm _) (Qm _)
end Go.Proofs.YtmnkngmmfnncoaaGreat
namespace Go.Proofs.YtmnkngmmfnncoaaGreat
open Go Go.FW
set_option linter.unusedSimpArgs false
set_option linter.unusedVariables false
set_option maxRecDepth 100000
end Go.Proofs.YtmnkngmmfnncoaaGreat
namespace Go.FW
open Go
variable {C : Ctx} {fr : Fr} {hp : HP} {w : World} {K R : Qd}
abbrev PV.rowD (w : Nat) (f : Nat -> Rat) : PV := .sl 3 (Q8 PV.rat f w)
theorem Q8y {ty w n i d : Nat} {fz : Bool} {M : MF} (h : i < n) : ldM (some ⟨1, ty, Q8 (PV.rowD w) M n, fz⟩) 1 false i 0 d fr hp K = K (upd fr d (PV.rowD w (M i))) hp := by
 rw [Qjn (by rw [Qa0]; exact h) (by omega) (by simp), Qe3]; rfl
theorem Q4p {d w n i : Nat} {k : IntKind} {M : MF} (h : i < n) : Qdm 1 (.sl 1 (Q8 (PV.rowD w) M n)) (.int k (i : Nat)) d fr hp K = K (upd fr d (.pt [PV.rowD w (M i)])) hp := by
 have hl : i < (Q8 (PV.rowD w) M n).length := by rw [Qa0]; exact h
 simp only [Qdm]
 simp [hl, Qe3]; rfl
attribute [go_sem] Q8y Q4p
def nm1 (x : Nat) : Bool := decide (x = 2000000)
theorem Qab4 : nm1 2000000 = true := decide_eq_true rfl
attribute [go_sem] Qab4
end Go.FW
