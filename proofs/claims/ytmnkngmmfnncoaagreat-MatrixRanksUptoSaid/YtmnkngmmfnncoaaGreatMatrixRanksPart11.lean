/- Part 11 of the proof of MatrixRanks: B2, B3, FwUE, FwVD. Own lemmas; no conditions. -/
import Derived.Test.YtmnkngmmfnncoaaGreatMatrixRanksPart10
set_option linter.unusedSimpArgs false
set_option linter.unnecessarySimpa false
set_option linter.unusedVariables false
namespace Go.Proofs.YtmnkngmmfnncoaaGreat
open Go Go.FW
set_option linter.unusedSimpArgs false
set_option linter.unusedVariables false
set_option maxRecDepth 100000
def c80 : SFn := ⟨20, [.t 2], .seq (.rg (.o none (.box 1 3 24 (.t 0)) <|
 .o none (.mv 2 (.c .nilS)) .nil)) <| .seq (.rg (.o none (.mv 3 (.c .nilS)) .nil)) <| .seq (.seq (.rg (.o none (.mv 4 (.c (.int .i64 0))) .nil)) <| .block 0 (.loop (.seq (.seq (.rg (.o none (.mv 5 (.t 4)) <|
 .o none (.fld 6 0 (.t 1)) <|
 .o none (.ld 7 1 false (.t 6)) <|
 .o none (.bin 8 .lss false (.t 5) (.t 7)) .nil)) <| .cond (.t 8) (.skip) (.exit 0)) <| .seq (.block 1 (.rg (.o none (.mv 11 (.t 3)) <|
 .o none (.bs 12 3 32 []) <|
 .o none (.ld 13 3 true (.t 1)) <|
 .o none (.mv 14 (.t 4)) <|
 .o none (.call (some 15) false (.c (.fn 103 [] [])) [(.t 13), (.t 14)]) <|
 .o none (.app 16 3 56 32 (.t 12) (.t 15)) <|
 .o none (.bs 17 1 22 [(.t 16)]) <|
 .o none (.app 18 1 24 22 (.t 11) (.t 17)) <|
 .o none (.mv 3 (.t 18)) .nil))) <| .rg (.o none (.mv 9 (.t 4)) <|
 .o none (.bin 10 .add false (.t 9) (.c (.int .i64 1))) <|
 .o none (.mv 4 (.t 10)) .nil)))) <| .seq (.rg (.o none (.mv 19 (.t 3)) <|
 .o none (.mv 2 (.t 19)) .nil)) <| .ret⟩
theorem Qadh : Qe Tryz.prog Tryz.f80 = some c80.strip := by kernel_rfl
def c86 : SFn := ⟨103, [.t 4, .t 5], .seq (.rg (.o none (.mv 4 (.c .nilS)) <|
 .o none (.mv 5 (.c .nilS)) .nil)) <| .seq (.rg (.o none (.mv 6 (.c .nilS)) .nil)) <| .seq (.seq (.rg (.o none (.mv 7 (.c (.int .i64 0))) .nil)) <| .block 0 (.loop (.seq (.seq (.rg (.o none (.mv 11 (.t 7)) <|
 .o none (.mv 12 (.t 1)) <|
 .o none (.bin 13 .lss false (.t 11) (.t 12)) .nil)) <| .cond (.t 13) (.skip) (.exit 0)) <| .seq (.block 1 (.seq (.rg (.o none (.mv 16 (.t 6)) <|
 .o none (.len 17 (.t 16)) <|
 .o none (.mv 8 (.t 17)) .nil)) <| .seq (.rg (.o none (.mv 18 (.t 8)) <|
 .o none (.mv 9 (.t 18)) .nil)) <| .seq (.block 2 (.loop (.seq (.seq (.rg (.o none (.mv 19 (.t 9)) <|
 .o none (.mv 20 (.t 0)) <|
 .o none (.len 21 (.t 20)) <|
 .o none (.bin 22 .lss false (.t 19) (.t 21)) <|
 .o none (.mv 23 (.t 22)) <|
 .o (some (23, true)) (.mv 24 (.t 0)) <|
 .o (some (23, true)) (.mv 25 (.t 9)) <|
 .o (some (23, true)) (.idx 26 1 (.t 24) (.t 25)) <|
 .o (some (23, true)) (.ld 27 1 false (.t 26)) <|
 .o (some (23, true)) (.mv 28 (.t 7)) <|
 .o (some (23, true)) (.idx 29 3 (.t 27) (.t 28)) <|
 .o (some (23, true)) (.ld 30 3 true (.t 29)) <|
 .o (some (23, true)) (.call (some 31) false (.c (.fn 81 [] [])) [(.t 30)]) <|
 .o (some (23, true)) (.bin 32 .eql false (.t 31) (.c (.int .i64 0))) <|
 .o none (.pick 33 (.t 23) (.t 32) (.c (.bool false))) .nil)) <| .cond (.t 33) (.skip) (.exit 2)) <| .block 3 (.rg (.o none (.mv 34 (.t 9)) <|
 .o none (.bin 35 .add false (.t 34) (.c (.int .i64 1))) <|
 .o none (.mv 9 (.t 35)) .nil))))) <| .seq (.seq (.rg (.o none (.mv 36 (.t 9)) <|
 .o none (.mv 37 (.t 0)) <|
 .o none (.len 38 (.t 37)) <|
 .o none (.bin 39 .eql false (.t 36) (.t 38)) .nil)) <| .cond (.t 39) (.exit 1) (.skip)) <| .seq (.rg (.o none (.mv 40 (.t 0)) <|
 .o none (.mv 41 (.t 8)) <|
 .o none (.mv 42 (.t 0)) <|
 .o none (.mv 43 (.t 9)) <|
 .o none (.mv 44 (.t 0)) <|
 .o none (.mv 45 (.t 9)) <|
 .o none (.idx 46 1 (.t 44) (.t 45)) <|
 .o none (.ld 47 1 false (.t 46)) <|
 .o none (.mv 48 (.t 0)) <|
 .o none (.mv 49 (.t 8)) <|
 .o none (.idx 50 1 (.t 48) (.t 49)) <|
 .o none (.ld 51 1 false (.t 50)) <|
 .o none (.idx 52 1 (.t 40) (.t 41)) <|
 .o none (.st 1 (.t 52) (.t 47)) <|
 .o none (.idx 53 1 (.t 42) (.t 43)) <|
 .o none (.st 1 (.t 53) (.t 51)) .nil)) <| .seq (.rg (.o none (.mv 54 (.t 0)) <|
 .o none (.mv 55 (.t 8)) <|
 .o none (.mv 56 (.t 0)) <|
 .o none (.mv 57 (.t 8)) <|
 .o none (.idx 58 1 (.t 56) (.t 57)) <|
 .o none (.ld 59 1 false (.t 58)) <|
 .o none (.mv 60 (.t 0)) <|
 .o none (.mv 61 (.t 8)) <|
 .o none (.idx 62 1 (.t 60) (.t 61)) <|
 .o none (.ld 63 1 false (.t 62)) <|
 .o none (.mv 64 (.t 7)) <|
 .o none (.idx 65 3 (.t 63) (.t 64)) <|
 .o none (.ld 66 3 true (.t 65)) <|
 .o none (.call (some 67) false (.c (.fn 97 [] [])) [(.t 59), (.t 66)]) <|
 .o none (.idx 68 1 (.t 54) (.t 55)) <|
 .o none (.st 1 (.t 68) (.t 67)) .nil)) <| .seq (.seq (.rg (.o none (.mv 10 (.c (.int .i64 0))) .nil)) <| .block 4 (.loop (.seq (.seq (.rg (.o none (.mv 69 (.t 10)) <|
 .o none (.mv 70 (.t 0)) <|
 .o none (.len 71 (.t 70)) <|
 .o none (.bin 72 .lss false (.t 69) (.t 71)) .nil)) <| .cond (.t 72) (.skip) (.exit 4)) <| .seq (.block 5 (.seq (.rg (.o none (.mv 75 (.t 10)) <|
 .o none (.mv 76 (.t 8)) <|
 .o none (.bin 77 .neq false (.t 75) (.t 76)) .nil)) <| .cond (.t 77) (.rg (.o none (.mv 78 (.t 0)) <|
 .o none (.mv 79 (.t 10)) <|
 .o none (.mv 80 (.t 0)) <|
 .o none (.mv 81 (.t 10)) <|
 .o none (.idx 82 1 (.t 80) (.t 81)) <|
 .o none (.ld 83 1 false (.t 82)) <|
 .o none (.mv 84 (.t 0)) <|
 .o none (.mv 85 (.t 8)) <|
 .o none (.idx 86 1 (.t 84) (.t 85)) <|
 .o none (.ld 87 1 false (.t 86)) <|
 .o none (.mv 88 (.t 0)) <|
 .o none (.mv 89 (.t 10)) <|
 .o none (.idx 90 1 (.t 88) (.t 89)) <|
 .o none (.ld 91 1 false (.t 90)) <|
 .o none (.mv 92 (.t 7)) <|
 .o none (.idx 93 3 (.t 91) (.t 92)) <|
 .o none (.ld 94 3 true (.t 93)) <|
 .o none (.call (some 95) false (.c (.fn 85 [] [])) [(.t 83), (.t 87), (.t 94)]) <|
 .o none (.idx 96 1 (.t 78) (.t 79)) <|
 .o none (.st 1 (.t 96) (.t 95)) .nil)) (.skip))) <| .rg (.o none (.mv 73 (.t 10)) <|
 .o none (.bin 74 .add false (.t 73) (.c (.int .i64 1))) <|
 .o none (.mv 10 (.t 74)) .nil)))) <| .rg (.o none (.mv 97 (.t 6)) <|
 .o none (.mv 98 (.t 7)) <|
 .o none (.bs 99 1 3 [(.t 98)]) <|
 .o none (.app 100 1 8 3 (.t 97) (.t 99)) <|
 .o none (.mv 6 (.t 100)) .nil))) <| .rg (.o none (.mv 14 (.t 7)) <|
 .o none (.bin 15 .add false (.t 14) (.c (.int .i64 1))) <|
 .o none (.mv 7 (.t 15)) .nil)))) <| .seq (.rg (.o none (.mv 101 (.t 0)) <|
 .o none (.mv 102 (.t 6)) <|
 .o none (.mv 4 (.t 101)) <|
 .o none (.mv 5 (.t 102)) .nil)) <| .ret⟩
theorem Qadi : Qe Tryz.prog Tryz.f86 = some c86.strip := by kernel_rfl
theorem Qadj {l : List Rat} {R m i : Nat} (hl : l.length = R * m) (hi : i < R) (hR2 : R <= 40) (hm : m <= 40) : Qd Tryz.prog 103 [PV.mat R m l, .int .i64 (i : Nat)] (· = .sl 3 (Qw PV.rat (Qal l m i) m)) := by
 have hb1 : (i + 1) * m <= R * m := Nat.mul_le_mul_right _ hi
 have hb2 : i * m <= (i + 1) * m := Nat.mul_le_mul_right _ (by omega)
 have e1 : (i : Int) * (m : Int) = ((i * m : Nat) : Int) := by rw [Int.natCast_mul]
 have e2 : ((i : Int) + 1) * (m : Int) = (((i + 1) * m : Nat) : Int) := by rw [Int.natCast_mul]; rfl
 have hcr := Qrl hl hi
 have hRm : R * m <= 40 * 40 := Nat.mul_le_mul hR2 hm
 refine Qg Qm Tryz.func103 rfl Q9v (by simp [Q5m]) fun C hP => ?_; simp only [Q5m]
 simp +decide (disch := first | omega | rfl | (simp +decide only [go_sem, ↓reduceIte, e1, e2] <;> rfl) | fail) only [go_sem, ↓reduceIte, e1, e2]
 refine Qc ?_ rfl
 rw [hcr]
theorem Qwd {l : List Rat} {R m : Nat} (hl : l.length = R * m) (hR2 : R <= 40) (hm : m <= 40) :
  Qbw Tryz.prog 80 [PV.mat R m l] (fun _ => .undef) hp0 (fun r _ H => r = .ms 2000000 R /\ H 2000000 = some ⟨1, 22, Qw (PV.rowD m) (Qal l m) R, false⟩) := by
 refine Qdo Qm Tryz.func80 rfl Qadh (by simp [c80]) fun C hP => ?_; simp only [c80]
 simp +decide (disch := first | omega | rfl | (simp +decide only [go_sem, ↓reduceIte] <;> rfl) | fail) only [go_sem, ↓reduceIte]
 refine Qfo 3 900 1 22 (by omega) (by simp +decide (disch := first | omega | rfl | (simp +decide only [go_sem, ↓reduceIte] <;> rfl) | fail) only [go_sem, ↓reduceIte]) ?_
 refine Qai (by repeat (first | exact Qz | exact Qq | exact Qr | exact Qt | exact Qu | apply Qp | apply Qy | apply Q4 | apply Q9 | apply Qaa | apply Qn | apply Q3)) [(3, 18)] [12, 16, 17, 18, 900] (fun n J hp => ∃ i, n = R - i /\ i <= R /\ J 3 = .ms 900 i /\ J 4 = .int .i64 (i : Nat) /\ hp 1 = some ⟨3, 24, [PV.mat R m l], false⟩ /\ hp 900 = some ⟨1, 22, (List.range i).map (fun r => .sl 3 (Qw PV.rat (Qal l m r) m)), false⟩ /\ hp 2000000 = none) R ?_ ?_
 ·refine ⟨0, rfl, by omega, ?_⟩
  simp +decide (disch := first | omega | rfl | (simp +decide only [go_sem, ↓reduceIte] <;> rfl) | fail) only [go_sem, ↓reduceIte]
  exact ⟨rfl, rfl⟩
 rintro _ J h ⟨i, rfl, hi, h3, h4, h1, hh, hn⟩
 simp +decide (disch := first | omega | rfl | (simp +decide only [go_sem, ↓reduceIte, h3, h4, h1] <;> rfl) | fail) only [go_sem, ↓reduceIte, h3, h4, h1]
 refine Qb (fun hg => ?_) (fun hg => ?_)
 ·have hi' : i < R := by omega
  have c1 := Qadj hl hi' hR2 hm
  have hml : ((List.range m).map (Qal l m i)).length = m := by simp
  rw [Qg4] at c1
  simp +decide (disch := first | omega | rfl | (simp +decide only [go_sem, ↓reduceIte, h3, h4, h1] <;> rfl) | fail) only [go_sem, ↓reduceIte, h3, h4, h1]
  rw [bs0 (by omega)]
  simp +decide (disch := first | omega | rfl | (simp +decide only [go_sem, ↓reduceIte, h3, h4, h1] <;> rfl) | fail) only [go_sem, ↓reduceIte, h3, h4, h1]
  refine Qa hP c1 rfl rfl rfl ?_
  simp +decide (disch := first | omega | rfl | (simp +decide only [go_sem, ↓reduceIte, h3, h4, h1] <;> rfl) | fail) only [go_sem, ↓reduceIte, h3, h4, h1]
  rw [Qkk (n := 0) (f := PV.rat) (xs := []) (ys := (List.range m).map (Qal l m i)) (by simp +decide (disch := first | omega | rfl | (simp +decide only [go_sem, ↓reduceIte] <;> rfl) | fail) only [go_sem, ↓reduceIte]) rfl (by omega) (by omega) (by omega)]
  simp +decide (disch := first | omega | rfl | (simp +decide only [go_sem, ↓reduceIte, h3, h4, h1] <;> rfl) | fail) only [go_sem, ↓reduceIte, h3, h4, h1]
  rw [Qaee (e' := 3) (ty' := 32) (xs := ((List.range m).map (Qal l m i)).map PV.rat) (fz := false) (by simp +decide (disch := first | omega | rfl | (simp +decide only [go_sem, ↓reduceIte] <;> rfl) | fail) only [go_sem, ↓reduceIte]), List.take_of_length_le (by simp)]
  simp +decide (disch := first | omega | rfl | (simp +decide only [go_sem, ↓reduceIte, h3, h4, h1] <;> rfl) | fail) only [go_sem, ↓reduceIte, h3, h4, h1]
  rw [Qbz (f := fun r => PV.sl 3 (Qw PV.rat (Qal l m r) m)) (y := i) (xs := List.range i) (ty' := 22) (fz := false) (by simp +decide (disch := first | omega | rfl | (simp +decide only [go_sem, ↓reduceIte, hh, Ql, List.contains_cons, List.contains_nil, List.flatMap_cons, List.flatMap_nil, List.append_nil] <;> rfl) | fail) only [go_sem, ↓reduceIte, hh, Ql, List.contains_cons, List.contains_nil, List.flatMap_cons, List.flatMap_nil, List.append_nil]) (by simp +decide (disch := first | omega | rfl | (simp +decide only [go_sem, ↓reduceIte, Qg4, Ql, List.contains_cons, List.contains_nil, List.flatMap_cons, List.flatMap_nil, List.append_nil] <;> rfl) | fail) only [go_sem, ↓reduceIte, Qg4, Ql, List.contains_cons, List.contains_nil, List.flatMap_cons, List.flatMap_nil, List.append_nil]) (by omega) (by simp) (by omega) (by omega)]
  simp +decide (disch := first | omega | rfl | (simp +decide only [go_sem, ↓reduceIte, h3, h4, h1] <;> rfl) | fail) only [go_sem, ↓reduceIte, h3, h4, h1]
  refine Qab (R - (i + 1)) (by omega) ⟨i + 1, rfl, by omega, ?_⟩
  simp +decide (disch := first | omega | rfl | (simp +decide only [go_sem, ↓reduceIte, h1, hn, Ql, List.contains_cons, List.contains_nil, List.flatMap_cons, List.flatMap_nil, List.append_nil] <;> rfl) | fail) only [go_sem, ↓reduceIte, h1, hn, Ql, List.contains_cons, List.contains_nil, List.flatMap_cons, List.flatMap_nil, List.append_nil]
  trace_state
 ·obtain rfl : i = R := by omega
  simp +decide (disch := first | omega | rfl | (simp +decide only [go_sem, ↓reduceIte, h3, hh] <;> rfl) | fail) only [go_sem, ↓reduceIte, h3, hh]
  refine Q8q (Qpe 900 2000000 (by simp +decide (disch := first | omega | rfl | (simp +decide only [go_sem, ↓reduceIte, hn] <;> rfl) | fail) only [go_sem, ↓reduceIte, hn]) (by omega) rfl (by omega)) ?_
  refine Qtz ?_
  simp +decide (disch := first | omega | rfl | (simp +decide only [go_sem, ↓reduceIte, h3, hh] <;> rfl) | fail) only [go_sem, ↓reduceIte, h3, hh]
  rfl
theorem Qx3 {M : MF} {R w n K ty : Nat} (hR2 : R <= 40) (hw : w <= 40) (hn : n <= w) (hK : K <= 2 ^ 20) (hB : Qjx K R w n M) :
  Qbw Tryz.prog 86 [.ms 2000000 R, .int .i64 (n : Nat)] (fun _ => .undef) (Qi hp0 2000000 ⟨1, ty, Qw (PV.rowD w) M R, false⟩)
   (fun r _ _ => r = .tup [.sl 1 (Qw (PV.rowD w) (Qaj R M n).M R), .sl 1 (Qqu (Qaj R M n).piv)]) := by
 refine Qdo Qm Tryz.func86 rfl Qadi (by simp [c86]) fun C hP => ?_; simp only [c86]
 simp +decide (disch := first | omega | rfl | (simp +decide only [go_sem, ↓reduceIte] <;> rfl) | fail) only [go_sem, ↓reduceIte]
 refine Qfo 6 900 1 3 (by omega) (by simp +decide (disch := first | omega | rfl | (simp +decide only [go_sem, ↓reduceIte] <;> rfl) | fail) only [go_sem, ↓reduceIte]) ?_
 refine Qby (by repeat (first | exact Qz | exact Qq | exact Qr | exact Qt | exact Qu | apply Qp | apply Qy | apply Q4 | apply Q9 | apply Qaa | apply Qn | apply Q3)) [(0, 0), (6, 100)] [99, 100, 900] (fun q J hp => ∃ k, q = n - k /\ k <= n /\ J 0 = .ms 2000000 R /\ J 6 = .ms 900 (Qaj R M k).piv.length /\ J 7 = .int .i64 (k : Nat) /\ hp 2000000 = some ⟨1, ty, Qw (PV.rowD w) (Qaj R M k).M R, false⟩ /\ hp 900 = some ⟨1, 3, (Qaj R M k).piv.map (fun k : Nat => PV.int .i64 (k : Nat)), false⟩) n ?_ ?_
 ·refine ⟨0, rfl, by omega, ?_⟩
  simp +decide (disch := first | omega | rfl | (simp +decide only [go_sem, ↓reduceIte] <;> rfl) | fail) only [go_sem, ↓reduceIte]
  exact ⟨rfl, rfl, rfl, rfl⟩
 rintro _ J h ⟨k, rfl, hk, j0, j6, j7, hr, hpv⟩
 simp +decide (disch := first | omega | rfl | (simp +decide only [go_sem, ↓reduceIte, j0, j6, j7] <;> rfl) | fail) only [go_sem, ↓reduceIte, j0, j6, j7]
 refine Qb (fun hc => ?_) (fun hc => ?_)
 ·have hk' : k < n := by omega
  have hkw : k < w := by omega
  have hB0 := hB k hk
  have hB1 := hB (k + 1) hk'
  have hpl := Qll R M k
  have hS : Qaj R M (k + 1) = Qb9 R (Qaj R M k) k := rfl
  obtain ⟨E, hE⟩ : ∃ E, Qaj R M k = E := ⟨_, rfl⟩
  rw [hS] at hB1
  rw [hE] at hB0 hB1 hpl j6 hr hpv hS
  simp +decide (disch := first | omega | rfl | (simp +decide only [go_sem, ↓reduceIte, j0, j6, j7] <;> rfl) | fail) only [go_sem, ↓reduceIte, j0, j6, j7]
  refine Qby (by repeat (first | exact Qz | exact Qq | exact Qr | exact Qt | exact Qu | apply Qp | apply Qy | apply Q4 | apply Q9 | apply Qaa | apply Qn | apply Q3)) [(0, 0), (9, 9), (19, 35)] [] (fun q J hp => ∃ i, q = R - i /\ E.piv.length <= i /\ i <= R /\ Qhu E.M k (R - i) i = Qed E.M R k E.piv.length /\ J 0 = .ms 2000000 R /\ J 9 = .int .i64 (i : Nat) /\ h = hp) (R - E.piv.length) ?_ ?_
  ·refine ⟨E.piv.length, rfl, Nat.le_refl _, hpl.2.1, rfl, ?_⟩
   simp +decide (disch := first | omega | rfl | (simp +decide only [go_sem, ↓reduceIte, j0] <;> rfl) | fail) only [go_sem, ↓reduceIte, j0]
  rintro _ J2 _ ⟨i, rfl, hi1, hi2, hpi, i0, i9, rfl⟩
  simp +decide (disch := first | omega | rfl | (simp +decide only [go_sem, ↓reduceIte, i0, i9] <;> rfl) | fail) only [go_sem, ↓reduceIte, i0, i9]
  refine Qbj (fun hg1 => ?_) (fun hg1 => ?_)
  ·have hi : i < R := by omega
   simp +decide (disch := first | omega | rfl | (simp +decide only [go_sem, ↓reduceIte, i0, i9, hr, j6, j7] <;> rfl) | fail) only [go_sem, ↓reduceIte, i0, i9, hr, j6, j7]
   refine Qa hP (Qrp (a := E.M i k) (by have := hB0.1 i hi k hkw; omega)) rfl rfl rfl ?_
   simp +decide (disch := first | omega | rfl | (simp +decide only [go_sem, ↓reduceIte, i0, i9, hr, j6, j7] <;> rfl) | fail) only [go_sem, ↓reduceIte, i0, i9, hr, j6, j7]
   refine Qb (fun hz => ?_) (fun hz => ?_)
   ·simp +decide (disch := first | omega | rfl | (simp +decide only [go_sem, ↓reduceIte, i9] <;> rfl) | fail) only [go_sem, ↓reduceIte, i9]
    refine Qaz (R - (i + 1)) (by omega) ⟨i + 1, rfl, by omega, by omega, ?_⟩
    simp +decide (disch := first | omega | rfl | (simp +decide only [go_sem, ↓reduceIte, i0] <;> rfl) | fail) only [go_sem, ↓reduceIte, i0]
    rw [<- hpi, show R - i = (R - (i + 1)) + 1 by omega]
    exact (if_pos (Qce.1 hz)).symm
   ·have hM0 : E.M i k ≠ 0 := fun e => hz (Qce.2 e)
    have hpe : Qed E.M R k E.piv.length = i := by
     rw [<- hpi, show R - i = (R - (i + 1)) + 1 by omega]
     exact if_neg hM0
    generalize hm : E.piv.length = m at *
    have hmR : m < R := by omega
    have hS2 : Qb9 R E k = ⟨Qfq (Qc7 (Qa4 E.M i m) m (E.M i k)) m k, E.piv ++ [k], (if i = m then E.det else -E.det) * E.M i k⟩ := by
     unfold Qb9; rw [hm, hpe, if_neg (by omega)]
    rw [hS2] at hB1 hS
    have hpk := hB0.1 i hi k hkw
    simp +decide (disch := first | omega | rfl | (simp +decide only [go_sem, ↓reduceIte, i0, i9, j6, j7, hr, show ¬ i = R from by omega, show ¬ ((i : Int) = (R : Int)) from by omega] <;> rfl) | fail) only [go_sem, ↓reduceIte, i0, i9, j6, j7, hr, show ¬ i = R from by omega, show ¬ ((i : Int) = (R : Int)) from by omega]
    rw [Qg6 hmR]
    simp +decide (disch := first | omega | rfl | (simp +decide only [go_sem, ↓reduceIte, i0, i9, j6, j7] <;> rfl) | fail) only [go_sem, ↓reduceIte, i0, i9, j6, j7]
    rw [Qg6 hi]
    have hsw : Qw (PV.rowD w) (fun r => if r = i then E.M m else if r = m then E.M i else E.M r) R = Qw (PV.rowD w) (Qa4 E.M i m) R := Qdj fun r hr c hc => by
     unfold Qa4
     by_cases e : r = m
     ·subst e
      rw [if_pos rfl, if_pos rfl]
      by_cases e2 : r = i
      ·subst e2; rw [if_pos rfl]
      ·rw [if_neg e2]
     ·rw [if_neg e, if_neg e]
    rw [hsw]
    have hsm : Qa4 E.M i m m = E.M i := by unfold Qa4; rw [if_pos rfl]
    simp +decide (disch := first | omega | rfl | (simp +decide only [go_sem, ↓reduceIte, i0, i9, j6, j7, hsm] <;> rfl) | fail) only [go_sem, ↓reduceIte, i0, i9, j6, j7, hsm]
    refine Qa hP (Q96 (x := E.M i) (c := E.M i k) (k := K) (by omega) (fun c hc => hB0.1 i hi c hc) hpk hM0 (by omega)) rfl rfl rfl ?_
    simp +decide (disch := first | omega | rfl | (simp +decide only [go_sem, ↓reduceIte, i0, i9, j6, j7, hsm] <;> rfl) | fail) only [go_sem, ↓reduceIte, i0, i9, j6, j7, hsm]
    rw [show PV.sl 3 (Qw PV.rat (fun c => E.M i c / E.M i k) w) = PV.rowD w (fun c => E.M i c / E.M i k) from rfl, Qg6 hmR]
    have hno : Qw (PV.rowD w) (fun r => if r = m then fun c => E.M i c / E.M i k else Qa4 E.M i m r) R = Qw (PV.rowD w) (Qc7 (Qa4 E.M i m) m (E.M i k)) R := Qdj fun r hr c hc => by
     unfold Qc7
     by_cases e : r = m
     ·rw [if_pos e, if_pos e, hsm]
     ·rw [if_neg e, if_neg e]
    rw [hno]
    obtain ⟨N, hN2⟩ : ∃ N, Qc7 (Qa4 E.M i m) m (E.M i k) = N := ⟨_, rfl⟩
    rw [hN2] at hB1 hS ⊢
    have hNm : ∀ c', c' < w -> rs (N m c') <= K := fun c' hc' => by
     simpa only [Qfq, if_true] using hB1.1 m hmR c' hc'
    have hNr : ∀ r', r' < R -> r' ≠ m -> ∀ c', c' < w -> rs (N r' c') <= K := fun r' hr' hne c' hc' => by
     rw [<- hN2]
     unfold Qc7 Qa4
     rw [if_neg hne, if_neg hne]
     split
     ·exact hB0.1 m hmR c' hc'
     ·exact hB0.1 r' hr' c' hc'
    simp +decide (disch := first | omega | rfl | (simp +decide only [go_sem, ↓reduceIte, i0, i9, j6, j7] <;> rfl) | fail) only [go_sem, ↓reduceIte, i0, i9, j6, j7]
    simp (disch := decide) only [Qbk, Qbr, Qb7, Qb6]
    refine Qby (by repeat (first | exact Qz | exact Qq | exact Qr | exact Qt | exact Qu | apply Qp | apply Qy | apply Q4 | apply Q9 | apply Qaa | apply Qn | apply Q3)) [(0, 0), (10, 10), (69, 96)] [] (fun q J hp => ∃ r, q = R - r /\ r <= R /\ J 0 = .ms 2000000 R /\ J 10 = .int .i64 (r : Nat) /\ hp 2000000 = some ⟨1, ty, Qw (PV.rowD w) (fun r' c' => if r' = m ∨ r <= r' then N r' c' else N r' c' - N r' k * N m c') R, false⟩ /\ hp 900 = some ⟨1, 3, E.piv.map (fun k : Nat => PV.int .i64 (k : Nat)), false⟩) R ?_ ?_
    ·refine ⟨0, rfl, by omega, ?_⟩
     simp +decide (disch := first | omega | rfl | (simp +decide only [go_sem, ↓reduceIte, i0, hpv] <;> rfl) | fail) only [go_sem, ↓reduceIte, i0, hpv]
     refine ⟨rfl, Qh8 (Qdj fun r hr c hc => (if_pos (.inr (by omega))).symm)⟩
    rintro _ J5 h3 ⟨r, rfl, hr2, u0, u10, v1, v2⟩
    simp +decide (disch := first | omega | rfl | (simp +decide only [go_sem, ↓reduceIte, u0, u10] <;> rfl) | fail) only [go_sem, ↓reduceIte, u0, u10]
    refine Qb (fun hrR => ?_) (fun hrR => ?_)
    ·have hr1 : r < R := by omega
     simp +decide (disch := first | omega | rfl | (simp +decide only [go_sem, ↓reduceIte, u0, u10, j6] <;> rfl) | fail) only [go_sem, ↓reduceIte, u0, u10, j6]
     refine Qb (fun hrm => ?_) (fun hrm => ?_)
     ·have e0 : ¬ r = m := by omega
      have f1 : Qw (PV.rowD w) (fun r' c' => if r' = m ∨ r <= r' then N r' c' else N r' c' - N r' k * N m c') R = Qw (PV.rowD w) (fun r' => if r' = m ∨ r <= r' then N r' else fun c' => N r' c' - N r' k * N m c') R := Qdj fun r' _ c' _ => by
       by_cases e : r' = m ∨ r <= r'
       ·rw [if_pos e, if_pos e]
       ·rw [if_neg e, if_neg e]
      rw [f1] at v1
      obtain ⟨Z, hZ⟩ : ∃ Z : MF, (fun r' => if r' = m ∨ r <= r' then N r' else fun c' => N r' c' - N r' k * N m c') = Z := ⟨_, rfl⟩
      have g1 : Z r = N r := by rw [<- hZ]; exact if_pos (.inr (Nat.le_refl r))
      have g2 : Z m = N m := by rw [<- hZ]; exact if_pos (.inl rfl)
      rw [hZ] at v1
      have ls := Qwa (w := w) (x := N r) (y := N m) (c := N r k) (k := K) (by omega) (hNr r hr1 e0) hNm (hNr r hr1 e0 k hkw) (by omega)
      simp +decide (disch := first | omega | rfl | (simp +decide only [go_sem, ↓reduceIte, u0, u10, v1, v2, j6, j7, g1, g2] <;> rfl) | fail) only [go_sem, ↓reduceIte, u0, u10, v1, v2, j6, j7, g1, g2]
      refine Qa hP ls rfl rfl rfl ?_
      simp +decide (disch := first | omega | rfl | (simp +decide only [go_sem, ↓reduceIte, u0, u10, v1, v2, j6, j7, g1, g2] <;> rfl) | fail) only [go_sem, ↓reduceIte, u0, u10, v1, v2, j6, j7, g1, g2]
      rw [show PV.sl 3 (Qw PV.rat (fun i => N r i - N r k * N m i) w) = PV.rowD w (fun i => N r i - N r k * N m i) from rfl, Qg6 hr1]
      simp +decide (disch := first | omega | rfl | (simp +decide only [go_sem, ↓reduceIte, u0, u10, v2] <;> rfl) | fail) only [go_sem, ↓reduceIte, u0, u10, v2]
      refine Qaz (R - (r + 1)) (by omega) ⟨r + 1, rfl, by omega, ?_⟩
      simp +decide (disch := first | omega | rfl | (simp +decide only [go_sem, ↓reduceIte, u0, u10, v2] <;> rfl) | fail) only [go_sem, ↓reduceIte, u0, u10, v2]
      refine Qh8 (Qdj fun r' hr' c' hc' => ?_)
      by_cases e : r' = r
      ·subst e
       rw [if_pos rfl, if_neg (by omega)]
      ·rw [if_neg e, <- hZ]
       show (if r' = m ∨ r <= r' then N r' else fun c' => N r' c' - N r' k * N m c') c' = _
       by_cases e2 : r' = m ∨ r <= r'
       ·rw [if_pos e2, if_pos (by omega)]
       ·rw [if_neg e2, if_neg (by omega)]
     ·obtain rfl : r = m := by omega
      simp +decide (disch := first | omega | rfl | (simp +decide only [go_sem, ↓reduceIte, u10] <;> rfl) | fail) only [go_sem, ↓reduceIte, u10]
      refine Qaz (R - (r + 1)) (by omega) ⟨r + 1, rfl, by omega, ?_⟩
      simp +decide (disch := first | omega | rfl | (simp +decide only [go_sem, ↓reduceIte, u0, v1, v2] <;> rfl) | fail) only [go_sem, ↓reduceIte, u0, v1, v2]
      refine Qh8 (Qdj fun r' hr' c' hc' => ?_)
      by_cases e : r' = r
      ·rw [if_pos (.inl e), if_pos (.inl e)]
      ·by_cases e2 : r <= r'
       ·rw [if_pos (.inr e2), if_pos (.inr (by omega))]
       ·rw [if_neg (by omega), if_neg (by omega)]
    ·have hrR' : r = R := by omega
     have hfin : Qw (PV.rowD w) (fun r' c' => if r' = m ∨ r <= r' then N r' c' else N r' c' - N r' k * N m c') R = Qw (PV.rowD w) (Qfq N m k) R := Qdj fun r' hr' c' hc' => by
      unfold Qfq
      by_cases e : r' = m
      ·rw [if_pos (.inl e), if_pos e, e]
      ·rw [if_neg (by omega), if_neg e]
     rw [hfin] at v1
     simp (disch := decide) only [Qbk, Qbr, Qb7, Qb6]
     simp +decide (disch := first | omega | rfl | (simp +decide only [go_sem, ↓reduceIte, u0, v1, v2, j6, j7] <;> rfl) | fail) only [go_sem, ↓reduceIte, u0, v1, v2, j6, j7]
     rw [Qbz (f := fun k : Nat => PV.int .i64 (k : Nat)) (y := k) (xs := E.piv) (ty' := 3) (fz := false) (by simp +decide (disch := first | omega | rfl | (simp +decide only [go_sem, ↓reduceIte, v2] <;> rfl) | fail) only [go_sem, ↓reduceIte, v2]) (by simp +decide (disch := first | omega | rfl | (simp +decide only [go_sem, ↓reduceIte] <;> rfl) | fail) only [go_sem, ↓reduceIte]) (by omega) hm.symm (by omega) (by omega)]
     simp +decide (disch := first | omega | rfl | (simp +decide only [go_sem, ↓reduceIte, u0, v1, v2, j6, j7] <;> rfl) | fail) only [go_sem, ↓reduceIte, u0, v1, v2, j6, j7]
     refine Qaz (n - (k + 1)) (by omega) ⟨k + 1, rfl, by omega, ?_⟩
     rw [hS]
     simp +decide (disch := first | omega | rfl | (simp +decide only [go_sem, ↓reduceIte, u0, v1] <;> rfl) | fail) only [go_sem, ↓reduceIte, u0, v1]
     simp [hm]
  ·have hiR : i = R := by omega
   subst hiR
   simp +decide (disch := first | omega | rfl | (simp +decide only [go_sem, ↓reduceIte, i0, i9, j6, j7] <;> rfl) | fail) only [go_sem, ↓reduceIte, i0, i9, j6, j7]
   have e1 : Qb9 i E k = E := by
    unfold Qb9
    rw [if_pos]
    rw [<- hpi, Nat.sub_self]; rfl
   simp (disch := decide) only [Qbk, Qbr, Qb7, Qb6]
   refine Qaz (n - (k + 1)) (by omega) ⟨k + 1, rfl, by omega, ?_⟩
   rw [hS, e1]
   simp +decide (disch := first | omega | rfl | (simp +decide only [go_sem, ↓reduceIte, i0, hr, hpv, j6] <;> rfl) | fail) only [go_sem, ↓reduceIte, i0, hr, hpv, j6]
 ·obtain rfl : k = n := by omega
  simp +decide (disch := first | omega | rfl | (simp +decide only [go_sem, ↓reduceIte, j0, j6, hr, hpv] <;> rfl) | fail) only [go_sem, ↓reduceIte, j0, j6, hr, hpv]
  refine Qdn ?_
  simp +decide (disch := first | omega | rfl | (simp +decide only [go_sem, ↓reduceIte, Ql, List.contains_cons, List.contains_nil, List.flatMap_cons, List.flatMap_nil, List.append_nil, hr, hpv] <;> rfl) | fail) only [go_sem, ↓reduceIte, Ql, List.contains_cons, List.contains_nil, List.flatMap_cons, List.flatMap_nil, List.append_nil, hr, hpv]
  rw [List.take_of_length_le (by rw [Qaq]; omega), List.take_of_length_le (by simp)]
  exact Qcc rfl rfl rfl (Qo _) (Qo _)
end Go.Proofs.YtmnkngmmfnncoaaGreat
namespace Go.Proofs.YtmnkngmmfnncoaaGreat
open Go Go.FW
set_option linter.unusedSimpArgs false
set_option linter.unusedVariables false
set_option maxRecDepth 100000
def c19 : SFn := ⟨19, [.t 2, .t 3], .seq (.rg (.o none (.box 1 3 24 (.t 0)) <|
 .o none (.mv 2 (.c (.int .i64 0))) <|
 .o none (.mv 3 (.c (.int .i64 0))) .nil)) <| .seq (.seq (.rg (.o none (.ld 6 3 true (.t 1)) <|
 .o none (.call (some 7) false (.c (.fn 26 [] [])) [(.t 6)]) <|
 .o none (.un 8 .not (.t 7)) .nil)) <| .cond (.t 8) (.seq (.rg (.o none (.mv 2 (.c (.int .i64 0))) <|
 .o none (.mv 3 (.c (.int .i64 1))) .nil)) <| .ret) (.skip)) <| .seq (.rg (.o none (.ld 10 3 true (.t 1)) <|
 .o none (.fld 12 1 (.t 1)) <|
 .o none (.ld 13 1 false (.t 12)) <|
 .o none (.call (some 11) true (.c (.fn 80 [] [])) [(.t 10)]) <|
 .o none (.call (some 14) false (.c (.fn 86 [] [])) [(.t 11), (.t 13)]) <|
 .o none (.mv 9 (.t 14)) <|
 .o none (.ext 15 (.t 9) 0) <|
 .o none (.ext 16 (.t 9) 1) <|
 .o none (.mv 4 (.t 15)) <|
 .o none (.mv 5 (.t 16)) .nil)) <| .seq (.rg (.o none (.mv 17 (.t 5)) <|
 .o none (.len 18 (.t 17)) <|
 .o none (.mv 2 (.t 18)) <|
 .o none (.mv 3 (.c (.int .i64 0))) .nil)) <| .ret⟩
theorem Q1d : Qe Tryz.prog Tryz.f19 = some c19 := by kernel_rfl
theorem Qnz {R m : Nat} {l : List Rat} (hl : l.length = R * m) (hR : R <= 40) (hm : m <= 40) (hs : ∀ q ∈ l, rs q <= 1048576) : Qd Tryz.prog 26 [PV.mat R m l] (· = .bool true) := by
 have hRm : R * m <= 40 * 40 := Nat.mul_le_mul hR hm
 have h := Qlo (r := (R : Int)) (c := (m : Int)) (l := l.map qR) ⟨by rw [List.length_map]; omega, RRk.of hs⟩
 rw [<- Qt4, Qmg hl hR hm] at h
 exact h
theorem Qwe {R m K : Nat} {l : List Rat} (hl : l.length = R * m) (hR2 : R <= 40) (hm : m <= 40) (hs : ∀ q ∈ l, rs q <= 1048576) (hK : K <= 2 ^ 20) (hB : Qjx K R m m (Qal l m)) : Qd Tryz.prog 19 [PV.mat R m l] (· = .tup [.int .i64 (Qpj R m (Qal l m) : Nat), .int .i64 0]) := by
 have hech := Qx3 (ty := 22) (w := m) hR2 hm (Nat.le_refl _) hK hB
 refine Qg Qm Tryz.func19 rfl Q1d (by simp [c19]) fun C hP => ?_; simp only [c19]
 simp +decide (disch := first | omega | rfl | (simp +decide only [go_sem, ↓reduceIte] <;> rfl) | fail) only [go_sem, ↓reduceIte]
 refine Qa hP (Qnz hl hR2 hm hs) rfl rfl rfl ?_
 simp +decide (disch := first | omega | rfl | (simp +decide only [go_sem, ↓reduceIte] <;> rfl) | fail) only [go_sem, ↓reduceIte]
 repeat' first
  | refine Qcr ?_ ?_
  | refine Qwc hP (Qwd hl hR2 hm) (by simp +decide (disch := first | omega | rfl | (simp +decide only [go_sem, ↓reduceIte] <;> rfl) | fail) only [go_sem, ↓reduceIte] <;> rfl) (by simp) rfl (by simp) ?_
  | refine Qaab hP hech (by simp [Qpp]) (by simp +decide (disch := first | omega | rfl | (simp +decide only [go_sem, ↓reduceIte] <;> rfl) | fail) only [go_sem, ↓reduceIte]) rfl (by simp) (by simp [PV.refs, PV.sref]) (by simp) (by simp) ?_
  | simp +decide (disch := first | omega | rfl | (simp +decide only [go_sem, ↓reduceIte, Q1c] <;> rfl) | fail) only [go_sem, ↓reduceIte, Q1c]
 all_goals exact Qcc rfl rfl rfl (Qo _) (Qo _)
end Go.Proofs.YtmnkngmmfnncoaaGreat
namespace Go.FW
open Go
theorem Qadk (x y : Int) (hy : y ≠ 0) : rs ((x : Rat) / (y : Rat)) <= max (nl x.natAbs) (max (nl y.natAbs) 1) := by
 rw [<- Qpm x y hy]
 have := Qla (zv (decide (x < 0) != decide (y < 0)) (dig x.natAbs)) y.natAbs
 rwa [Qa5, Qx] at this
theorem Quk (q : Rat) (h : q ≠ 0) : rs q⁻¹ <= rs q := by
 have hn : q.num ≠ 0 := fun e => h (Rat.num_eq_zero.1 e)
 have e : q⁻¹ = (((q.den : Int) : Int) : Rat) / ((q.num : Int) : Rat) := by
  have d1 : q = (q.num : Rat) / ((q.den : Int) : Rat) := by
   conv => lhs; rw [<- Rat.mkRat_self q]
   rw [Rat.mkRat_eq_div, Rat.intCast_natCast]
  have k1 : ((q.den : Int) : Rat) ≠ 0 := by rw [Ne, Rat.intCast_eq_zero_iff]; have := q.den_nz; omega
  have k3 : ((q.num : Int) : Rat) ≠ 0 := by rw [Ne, Rat.intCast_eq_zero_iff]; exact hn
  generalize (q.num : Rat) = A at *
  generalize ((q.den : Int) : Rat) = D at *
  rw [d1]
  grind
 have h2 := Qadk (q.den : Int) q.num hn
 have h3 := Qth q
 rw [e]
 unfold rs at h3 ⊢
 unfold rs at h2
 rw [Int.natAbs_natCast] at h2
 have h4 : 1 <= nl q.den := by
  have := q.den_nz
  apply Decidable.byContradiction; intro hc
  exact this (Qh2.1 (by omega))
 omega
end Go.FW
namespace Go.FW
open Go
theorem Q1e {a b : Rat} (h : b ≠ 0) : rs (a / b) <= rs a + rs b := by
 rw [Rat.div_def]
 have := Qfe a b⁻¹
 have := Quk b h
 omega
theorem Qadl (a b : Rat) : rs (a - b) <= rs a + rs b + 1 := by
 rw [Rat.sub_eq_add_neg]
 have := Qzw a (-b)
 rw [Qkj] at this
 exact this
theorem Qaac {R w B : Nat} {E : Ech} {k : Nat} (hk : k < w) (hB : 1 <= B) (hM : MBd B R w E.M) (hd : rs E.det <= B) (hm : E.piv.length <= R) : MBd (5 * B) R w (Qb9 R E k).M /\ rs (Qb9 R E k).det <= 5 * B := by
 unfold Qb9
 split
 ·exact ⟨fun r hr c hc => by have := hM r hr c hc; omega, by omega⟩
 ·rename_i hp
  have h1 := Qqr E.M k (R - E.piv.length) E.piv.length
  obtain ⟨i, hi⟩ : ∃ i, Qed E.M R k E.piv.length = i := ⟨_, rfl⟩
  have hi1 : E.piv.length <= i /\ i <= R := by
   rw [<- hi]; unfold Qed; omega
  rw [hi] at hp ⊢
  have hiR : i < R := by omega
  have hp0 : E.M i k ≠ 0 := by
   have := Qv5 E.M k (R - E.piv.length) E.piv.length (by unfold Qed at hi; rw [hi]; omega)
   unfold Qed at hi
   rwa [hi] at this
  have hpk := hM i hiR k hk
  generalize hmm : E.piv.length = m at *
  have hmR : m < R := by omega
  have hS : ∀ r, r < R -> ∀ c, c < w -> rs (Qa4 E.M i m r c) <= B := fun r hr c hc => by
   unfold Qa4
   split
   ·exact hM i hiR c hc
   ·split
    ·exact hM m hmR c hc
    ·exact hM r hr c hc
  have hN : ∀ r, r < R -> ∀ c, c < w -> rs (Qc7 (Qa4 E.M i m) m (E.M i k) r c) <= 2 * B := fun r hr c hc => by
   unfold Qc7
   split
   ·have := hS m hmR c hc
    have := Q1e (a := Qa4 E.M i m m c) hp0
    omega
   ·have := hS r hr c hc; omega
  have hN1 : ∀ r, r < R -> r ≠ m -> ∀ c, c < w -> rs (Qc7 (Qa4 E.M i m) m (E.M i k) r c) <= B := fun r hr hne c hc => by
   unfold Qc7
   rw [if_neg hne]; exact hS r hr c hc
  refine ⟨fun r hr c hc => ?_, ?_⟩
  ·show rs (Qfq (Qc7 (Qa4 E.M i m) m (E.M i k)) m k r c) <= 5 * B
   unfold Qfq
   split
   ·have := hN m hmR c hc; omega
   ·rename_i hne
    have a1 := hN1 r hr hne c hc
    have a2 := hN1 r hr hne k hk
    have a3 := hN m hmR c hc
    generalize Qc7 (Qa4 E.M i m) m (E.M i k) = N at *
    have a4 := Qfe (N r k) (N m c)
    have a5 := Qadl (N r c) (N r k * N m c)
    omega
  ·show rs ((if i = m then E.det else -E.det) * E.M i k) <= 5 * B
   have hdd : rs (if i = m then E.det else -E.det) <= B := by
    split
    ·exact hd
    ·rw [Qkj]; exact hd
   have := Qfe (if i = m then E.det else -E.det) (E.M i k)
   omega
theorem Q5x {R : Nat} {E : Ech} {k : Nat} : (Qb9 R E k).piv.length = E.piv.length ∨ (Qb9 R E k).piv.length = E.piv.length + 1 := by
 unfold Qb9
 split
 ·exact .inl rfl
 ·right; simp
theorem Qwf {R w b : Nat} {M : MF} (hb : 1 <= b) (hM : MBd b R w M) : ∀ k, k <= w -> ∃ s, s <= k /\ s <= R /\ MBd (b * 5 ^ s) R w (Qaj R M k).M /\ rs (Qaj R M k).det <= b * 5 ^ s /\ (Qaj R M k).piv.length = s
 | 0, _ => ⟨0, Nat.le_refl _, Nat.zero_le _, by rw [Nat.pow_zero, Nat.mul_one]; exact hM, by
   have := Qtm
   show rs 1 <= b * 5 ^ 0
   omega, rfl⟩
 | k + 1, h => by
  obtain ⟨s, h1, h2, h3, h4, h5⟩ := Qwf hb hM k (by omega)
  have hpos : 1 <= b * 5 ^ s := Nat.mul_pos hb (Nat.pow_pos (by omega))
  have hpl := (Qll R M (k + 1)).2.1
  show ∃ s, s <= k + 1 /\ s <= R /\ MBd (b * 5 ^ s) R w (Qb9 R (Qaj R M k) k).M /\ rs (Qb9 R (Qaj R M k) k).det <= b * 5 ^ s /\ (Qb9 R (Qaj R M k) k).piv.length = s
  have hpl : (Qb9 R (Qaj R M k) k).piv.length <= R := hpl
  have hst := Qaac (k := k) (by omega) hpos h3 h4 (by omega)
  by_cases hp : Qed (Qaj R M k).M R k (Qaj R M k).piv.length = R
  ·have e : Qb9 R (Qaj R M k) k = Qaj R M k := by unfold Qb9; rw [if_pos hp]
   rw [e]; exact ⟨s, by omega, h2, h3, h4, h5⟩
  ·have hl : (Qb9 R (Qaj R M k) k).piv.length = s + 1 := by
    unfold Qb9; rw [if_neg hp]; simp [h5]
   have hm : b * 5 ^ (s + 1) = 5 * (b * 5 ^ s) := by rw [Nat.pow_succ]; simp only [Nat.mul_comm, Nat.mul_left_comm]
   exact ⟨s + 1, by omega, by omega, by rw [hm]; exact hst.1, by rw [hm]; exact hst.2, hl⟩
theorem Qaad {R w n b : Nat} {M : MF} (hb : 1 <= b) (hM : MBd b R w M) (hn : n <= w) (h5 : R <= 5 ∨ n <= 5) : Qjx (b * 3125) R w n M := fun k hk => by
 obtain ⟨s, h1, h2, h3, h4, _⟩ := Qwf hb hM k (by omega)
 have hs : s <= 5 := by omega
 have hp : 5 ^ s <= 5 ^ 5 := Nat.pow_le_pow_right (by omega) hs
 have hm : b * 5 ^ s <= b * 3125 := Nat.mul_le_mul_left _ hp
 exact ⟨fun r hr c hc => Nat.le_trans (h3 r hr c hc) hm, Nat.le_trans h4 hm⟩
theorem Qwg {R : Nat} {M : MF} {k : Nat} (h : (Qaj R M k).piv.length < k) : ∀ j, (Qaj R M (k + j)).piv.length < k + j
 | 0 => h
 | j + 1 => by
  have := Qwg h j
  show (Qb9 R (Qaj R M (k + j)) (k + j)).piv.length < k + j + 1
  rcases Q5x (R := R) (E := Qaj R M (k + j)) (k := k + j) with e | e <;> omega
end Go.FW
