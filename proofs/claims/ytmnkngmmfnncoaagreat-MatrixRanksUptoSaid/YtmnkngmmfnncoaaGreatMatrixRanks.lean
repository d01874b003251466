/- MatrixRanks holds, for arguments of bulk at most 1048576. -/
import Derived.Test.YtmnkngmmfnncoaaGreatMatrixRanksPart11
set_option linter.unusedSimpArgs false
set_option linter.unnecessarySimpa false
set_option linter.unusedVariables false
namespace Go.Proofs.YtmnkngmmfnncoaaGreat
open Go Go.FW
set_option linter.unusedSimpArgs false
set_option linter.unusedVariables false
set_option maxRecDepth 100000
def c17 : SFn := ⟨121, [.cell 2 3 true, .t 3], .seq (.rg (.o none (.box 1 3 24 (.t 0)) <|
 .o none (.alloc 2 3 32 (.agg [(.bool false), .nilS, .nilS])) <|
 .o none (.mv 3 (.c (.int .i64 0))) .nil)) <| .seq (.seq (.rg (.o none (.ld 11 3 true (.t 1)) <|
 .o none (.call (some 12) false (.c (.fn 26 [] [])) [(.t 11)]) <|
 .o none (.un 13 .not (.t 12)) .nil)) <| .cond (.t 13) (.seq (.rg (.o none (.bld 14 [(.bool false), .nilS, .nilS] []) <|
 .o none (.st 3 (.t 2) (.t 14)) <|
 .o none (.mv 3 (.c (.int .i64 1))) .nil)) <| .ret) (.skip)) <| .seq (.seq (.rg (.o none (.fld 15 0 (.t 1)) <|
 .o none (.ld 16 1 false (.t 15)) <|
 .o none (.fld 17 1 (.t 1)) <|
 .o none (.ld 18 1 false (.t 17)) <|
 .o none (.bin 19 .neq false (.t 16) (.t 18)) .nil)) <| .cond (.t 19) (.seq (.rg (.o none (.bld 20 [(.bool false), .nilS, .nilS] []) <|
 .o none (.st 3 (.t 2) (.t 20)) <|
 .o none (.mv 3 (.c (.int .i64 16))) .nil)) <| .ret) (.skip)) <| .seq (.rg (.o none (.ld 21 3 true (.t 1)) <|
 .o none (.call (some 22) false (.c (.fn 80 [] [])) [(.t 21)]) <|
 .o none (.mv 4 (.t 22)) .nil)) <| .seq (.rg (.o none (.call (some 23) false (.c (.fn 34 [] [])) [(.c (.int .i64 1))]) <|
 .o none (.alloc 5 3 32 (.agg [(.bool false), .nilS, .nilS])) <|
 .o none (.st 3 (.t 5) (.t 23)) .nil)) <| .seq (.seq (.rg (.o none (.mv 6 (.c (.int .i64 0))) .nil)) <| .block 0 (.loop (.seq (.seq (.rg (.o none (.mv 24 (.t 6)) <|
 .o none (.mv 25 (.t 4)) <|
 .o none (.len 26 (.t 25)) <|
 .o none (.bin 27 .lss false (.t 24) (.t 26)) .nil)) <| .cond (.t 27) (.skip) (.exit 0)) <| .seq (.block 1 (.seq (.rg (.o none (.mv 30 (.t 6)) <|
 .o none (.mv 7 (.t 30)) .nil)) <| .seq (.block 2 (.loop (.seq (.seq (.rg (.o none (.mv 31 (.t 7)) <|
 .o none (.mv 32 (.t 4)) <|
 .o none (.len 33 (.t 32)) <|
 .o none (.bin 34 .lss false (.t 31) (.t 33)) <|
 .o none (.mv 35 (.t 34)) <|
 .o (some (35, true)) (.mv 36 (.t 4)) <|
 .o (some (35, true)) (.mv 37 (.t 7)) <|
 .o (some (35, true)) (.idx 38 1 (.t 36) (.t 37)) <|
 .o (some (35, true)) (.ld 39 1 false (.t 38)) <|
 .o (some (35, true)) (.mv 40 (.t 6)) <|
 .o (some (35, true)) (.idx 41 3 (.t 39) (.t 40)) <|
 .o (some (35, true)) (.ld 42 3 true (.t 41)) <|
 .o (some (35, true)) (.call (some 43) false (.c (.fn 81 [] [])) [(.t 42)]) <|
 .o (some (35, true)) (.bin 44 .eql false (.t 43) (.c (.int .i64 0))) <|
 .o none (.pick 45 (.t 35) (.t 44) (.c (.bool false))) .nil)) <| .cond (.t 45) (.skip) (.exit 2)) <| .block 3 (.rg (.o none (.mv 46 (.t 7)) <|
 .o none (.bin 47 .add false (.t 46) (.c (.int .i64 1))) <|
 .o none (.mv 7 (.t 47)) .nil))))) <| .seq (.seq (.rg (.o none (.mv 48 (.t 7)) <|
 .o none (.mv 49 (.t 4)) <|
 .o none (.len 50 (.t 49)) <|
 .o none (.bin 51 .eql false (.t 48) (.t 50)) .nil)) <| .cond (.t 51) (.seq (.rg (.o none (.call (some 52) false (.c (.fn 34 [] [])) [(.c (.int .i64 0))]) <|
 .o none (.st 3 (.t 2) (.t 52)) <|
 .o none (.mv 3 (.c (.int .i64 0))) .nil)) <| .ret) (.skip)) <| .seq (.seq (.rg (.o none (.mv 53 (.t 7)) <|
 .o none (.mv 54 (.t 6)) <|
 .o none (.bin 55 .neq false (.t 53) (.t 54)) .nil)) <| .cond (.t 55) (.seq (.rg (.o none (.mv 56 (.t 4)) <|
 .o none (.mv 57 (.t 6)) <|
 .o none (.mv 58 (.t 4)) <|
 .o none (.mv 59 (.t 7)) <|
 .o none (.mv 60 (.t 4)) <|
 .o none (.mv 61 (.t 7)) <|
 .o none (.idx 62 1 (.t 60) (.t 61)) <|
 .o none (.ld 63 1 false (.t 62)) <|
 .o none (.mv 64 (.t 4)) <|
 .o none (.mv 65 (.t 6)) <|
 .o none (.idx 66 1 (.t 64) (.t 65)) <|
 .o none (.ld 67 1 false (.t 66)) <|
 .o none (.idx 68 1 (.t 56) (.t 57)) <|
 .o none (.st 1 (.t 68) (.t 63)) <|
 .o none (.idx 69 1 (.t 58) (.t 59)) <|
 .o none (.st 1 (.t 69) (.t 67)) .nil)) <| .rg (.o none (.ld 70 3 true (.t 5)) <|
 .o none (.call (some 71) false (.c (.fn 82 [] [])) [(.t 70)]) <|
 .o none (.st 3 (.t 5) (.t 71)) .nil)) (.skip)) <| .seq (.rg (.o none (.ld 72 3 true (.t 5)) <|
 .o none (.mv 73 (.t 4)) <|
 .o none (.mv 74 (.t 6)) <|
 .o none (.idx 75 1 (.t 73) (.t 74)) <|
 .o none (.ld 76 1 false (.t 75)) <|
 .o none (.mv 77 (.t 6)) <|
 .o none (.idx 78 3 (.t 76) (.t 77)) <|
 .o none (.ld 79 3 true (.t 78)) <|
 .o none (.call (some 80) false (.c (.fn 83 [] [])) [(.t 72), (.t 79)]) <|
 .o none (.st 3 (.t 5) (.t 80)) .nil)) <| .seq (.rg (.o none (.mv 81 (.t 6)) <|
 .o none (.bin 82 .add false (.t 81) (.c (.int .i64 1))) <|
 .o none (.mv 8 (.t 82)) .nil)) <| .block 4 (.loop (.seq (.seq (.rg (.o none (.mv 83 (.t 8)) <|
 .o none (.mv 84 (.t 4)) <|
 .o none (.len 85 (.t 84)) <|
 .o none (.bin 86 .lss false (.t 83) (.t 85)) .nil)) <| .cond (.t 86) (.skip) (.exit 4)) <| .seq (.block 5 (.seq (.rg (.o none (.mv 90 (.t 4)) <|
 .o none (.mv 91 (.t 8)) <|
 .o none (.idx 92 1 (.t 90) (.t 91)) <|
 .o none (.ld 93 1 false (.t 92)) <|
 .o none (.mv 94 (.t 6)) <|
 .o none (.idx 95 3 (.t 93) (.t 94)) <|
 .o none (.ld 96 3 true (.t 95)) <|
 .o none (.mv 97 (.t 4)) <|
 .o none (.mv 98 (.t 6)) <|
 .o none (.idx 99 1 (.t 97) (.t 98)) <|
 .o none (.ld 100 1 false (.t 99)) <|
 .o none (.mv 101 (.t 6)) <|
 .o none (.idx 102 3 (.t 100) (.t 101)) <|
 .o none (.ld 103 3 true (.t 102)) <|
 .br (.o none (.call (some 104) true (.c (.fn 84 [] [])) [(.t 96), (.t 103)]) <|
 .o none (.mv 89 (.t 104)) <|
 .o none (.ext 105 (.t 89) 0) <|
 .o none (.ext 106 (.t 89) 1) <|
 .o none (.alloc 9 3 32 (.agg [(.bool false), .nilS, .nilS])) <|
 .o none (.st 3 (.t 9) (.t 105)) <|
 .o none (.mv 10 (.t 106)) .nil) (.o none (.alloc 9 3 32 (.agg [(.bool false), .nilS, .nilS])) <|
 .o none (.call (some 104) true (.c (.fn 84 [] [])) [(.t 96), (.t 103)]) <|
 .o none (.mv 89 (.t 104)) <|
 .o none (.ext 105 (.t 89) 0) <|
 .o none (.ext 106 (.t 89) 1) <|
 .o none (.st 3 (.t 9) (.t 105)) <|
 .o none (.mv 10 (.t 106)) .nil))) <| .rg (.o none (.mv 107 (.t 4)) <|
 .o none (.mv 108 (.t 8)) <|
 .o none (.mv 109 (.t 4)) <|
 .o none (.mv 110 (.t 8)) <|
 .o none (.idx 111 1 (.t 109) (.t 110)) <|
 .o none (.ld 112 1 false (.t 111)) <|
 .o none (.mv 113 (.t 4)) <|
 .o none (.mv 114 (.t 6)) <|
 .o none (.idx 115 1 (.t 113) (.t 114)) <|
 .o none (.ld 116 1 false (.t 115)) <|
 .o none (.ld 117 3 true (.t 9)) <|
 .o none (.call (some 118) false (.c (.fn 85 [] [])) [(.t 112), (.t 116), (.t 117)]) <|
 .o none (.idx 119 1 (.t 107) (.t 108)) <|
 .o none (.st 1 (.t 119) (.t 118)) .nil))) <| .rg (.o none (.mv 87 (.t 8)) <|
 .o none (.bin 88 .add false (.t 87) (.c (.int .i64 1))) <|
 .o none (.mv 8 (.t 88)) .nil))))) <| .rg (.o none (.mv 28 (.t 6)) <|
 .o none (.bin 29 .add false (.t 28) (.c (.int .i64 1))) <|
 .o none (.mv 6 (.t 29)) .nil)))) <| .seq (.rg (.o none (.ld 120 3 true (.t 5)) <|
 .o none (.st 3 (.t 2) (.t 120)) <|
 .o none (.mv 3 (.c (.int .i64 0))) .nil)) <| .ret⟩
theorem Qul : Qe Tryz.prog Tryz.f17 = some c17 := by kernel_rfl
theorem Qadm {R K : Nat} {l : List Rat} (hl : l.length = R * R) (hR2 : R <= 40) (hs : ∀ q ∈ l, rs q <= 1048576) (hK : K <= 2 ^ 20) (hB : Qjx K R R R (Qal l R)) : Qd Tryz.prog 17 [PV.mat R R l] (· = .tup [PV.rat (Qft R (Qal l R)), .int .i64 0]) := by
 refine Qg Qm Tryz.func17 rfl Qul (by simp [c17]) fun C hP => ?_; simp only [c17]
 simp +decide (disch := first | omega | rfl | (simp +decide only [go_sem, ↓reduceIte] <;> rfl) | fail) only [go_sem, ↓reduceIte]
 refine Qa hP (Qnz hl hR2 hR2 hs) rfl rfl rfl ?_
 simp +decide (disch := first | omega | rfl | (simp +decide only [go_sem, ↓reduceIte] <;> rfl) | fail) only [go_sem, ↓reduceIte]
 refine Qwc hP (Qwd hl hR2 hR2) (by simp +decide (disch := first | omega | rfl | (simp +decide only [go_sem, ↓reduceIte] <;> rfl) | fail) only [go_sem, ↓reduceIte] <;> rfl) (by simp) rfl (by simp) ?_
 simp +decide (disch := first | omega | rfl | (simp +decide only [go_sem, ↓reduceIte] <;> rfl) | fail) only [go_sem, ↓reduceIte]
 refine Qa hP (Qh7 (x := 1) (by omega) (by omega)) rfl rfl rfl ?_
 rw [show ((1 : Int) : Rat) = (Qaj R (Qal l R) 0).det from rfl]
 obtain ⟨M, hM⟩ : ∃ M, Qal l R = M := ⟨_, rfl⟩
 rw [hM] at hB ⊢
 simp +decide (disch := first | omega | rfl | (simp +decide only [go_sem, ↓reduceIte] <;> rfl) | fail) only [go_sem, ↓reduceIte]
 refine Qby (by repeat (first | exact Qz | exact Qq | exact Qr | exact Qt | exact Qu | apply Qp | apply Qy | apply Q4 | apply Q9 | apply Qaa | apply Qn | apply Q3)) [(3, 4), (6, 10), (24, 119)] [9] (fun q J hp => ∃ k G, q = R - k /\ k <= R /\ (Qaj R M k).piv.length = k /\ (∀ r, k <= r -> r < R -> ∀ c, c < R -> G r c = (Qaj R M k).M r c) /\ J 4 = .ms 2000000 R /\ J 6 = .int .i64 (k : Nat) /\ hp 2000000 = some ⟨1, 22, Qw (PV.rowD R) G R, false⟩ /\
   hp 5 = some ⟨3, 32, [PV.rat (Qaj R M k).det], false⟩ /\ hp 2 = some ⟨3, 32, [.agg [.bool false, .nilS, .nilS]], false⟩) R ?_ ?_
 ·refine ⟨0, M, rfl, by omega, rfl, fun _ _ _ _ _ => rfl, ?_⟩
  simp +decide (disch := first | omega | rfl | (simp +decide only [go_sem, ↓reduceIte] <;> rfl) | fail) only [go_sem, ↓reduceIte]
  rfl
 rintro _ J h ⟨k, G, rfl, hk, hpl, hG, j4, j6, hr, h5, h2⟩
 simp +decide (disch := first | omega | rfl | (simp +decide only [go_sem, ↓reduceIte, j4, j6] <;> rfl) | fail) only [go_sem, ↓reduceIte, j4, j6]
 refine Qb (fun hc => ?_) (fun hc => ?_)
 ·have hk' : k < R := by omega
  have hB0 := hB k hk
  have hB1 := hB (k + 1) hk'
  have hS : Qaj R M (k + 1) = Qb9 R (Qaj R M k) k := rfl
  have hdt : Qed (Qaj R M k).M R k k = R -> Qft R M = 0 := fun e => by
   have e1 : Qb9 R (Qaj R M k) k = Qaj R M k := by unfold Qb9; rw [hpl, if_pos e]
   have := Qwg (R := R) (M := M) (k := k + 1) (by rw [hS, e1, hpl]; omega) (R - (k + 1))
   rw [show k + 1 + (R - (k + 1)) = R by omega] at this
   unfold Qft; rw [if_pos this]
  obtain ⟨E, hE⟩ : ∃ E, Qaj R M k = E := ⟨_, rfl⟩
  rw [hS] at hB1
  rw [hE] at hB0 hB1 hpl hG h5 hS hdt
  simp +decide (disch := first | omega | rfl | (simp +decide only [go_sem, ↓reduceIte, j4, j6] <;> rfl) | fail) only [go_sem, ↓reduceIte, j4, j6]
  refine Qby (by repeat (first | exact Qz | exact Qq | exact Qr | exact Qt | exact Qu | apply Qp | apply Qy | apply Q4 | apply Q9 | apply Qaa | apply Qn | apply Q3)) [(4, 4), (7, 7), (31, 47)] [] (fun q J hp => ∃ i, q = R - i /\ k <= i /\ i <= R /\ Qhu E.M k (R - i) i = Qed E.M R k k /\ J 4 = .ms 2000000 R /\ J 7 = .int .i64 (i : Nat) /\ h = hp) (R - k) ?_ ?_
  ·refine ⟨k, rfl, Nat.le_refl _, by omega, rfl, ?_⟩
   simp +decide (disch := first | omega | rfl | (simp +decide only [go_sem, ↓reduceIte, j4] <;> rfl) | fail) only [go_sem, ↓reduceIte, j4]
  rintro _ J2 _ ⟨i, rfl, hi1, hi2, hpi, i4, i7, rfl⟩
  simp +decide (disch := first | omega | rfl | (simp +decide only [go_sem, ↓reduceIte, i4, i7] <;> rfl) | fail) only [go_sem, ↓reduceIte, i4, i7]
  refine Qbj (fun hg1 => ?_) (fun hg1 => ?_)
  ·have hi : i < R := by omega
   have hgi := hG i hi1 hi k hk'
   simp +decide (disch := first | omega | rfl | (simp +decide only [go_sem, ↓reduceIte, i4, i7, j6, hr, hgi] <;> rfl) | fail) only [go_sem, ↓reduceIte, i4, i7, j6, hr, hgi]
   refine Qa hP (Qrp (a := E.M i k) (by have := hB0.1 i hi k hk'; omega)) rfl rfl rfl ?_
   simp +decide (disch := first | omega | rfl | (simp +decide only [go_sem, ↓reduceIte, i4, i7, j6, hr] <;> rfl) | fail) only [go_sem, ↓reduceIte, i4, i7, j6, hr]
   refine Qb (fun hz => ?_) (fun hz => ?_)
   ·simp +decide (disch := first | omega | rfl | (simp +decide only [go_sem, ↓reduceIte, i7] <;> rfl) | fail) only [go_sem, ↓reduceIte, i7]
    refine Qaz (R - (i + 1)) (by omega) ⟨i + 1, rfl, by omega, by omega, ?_⟩
    simp +decide (disch := first | omega | rfl | (simp +decide only [go_sem, ↓reduceIte, i4] <;> rfl) | fail) only [go_sem, ↓reduceIte, i4]
    rw [<- hpi, show R - i = (R - (i + 1)) + 1 by omega]
    exact (if_pos (Qce.1 hz)).symm
   ·have hM0 : E.M i k ≠ 0 := fun e => hz (Qce.2 e)
    have hpe : Qed E.M R k k = i := by
     rw [<- hpi, show R - i = (R - (i + 1)) + 1 by omega]
     exact if_neg hM0
    have hS2 : Qb9 R E k = ⟨Qfq (Qc7 (Qa4 E.M i k) k (E.M i k)) k k, E.piv ++ [k], (if i = k then E.det else -E.det) * E.M i k⟩ := by
     unfold Qb9; rw [hpl, hpe, if_neg (by omega)]
    rw [hS2] at hB1 hS
    have hpk := hB0.1 i hi k hk'
    simp +decide (disch := first | omega | rfl | (simp +decide only [go_sem, ↓reduceIte, i4, i7, j6, hr, show ¬ i = R from by omega, show ¬ ((i : Int) = (R : Int)) from by omega] <;> rfl) | fail) only [go_sem, ↓reduceIte, i4, i7, j6, hr, show ¬ i = R from by omega, show ¬ ((i : Int) = (R : Int)) from by omega]
    simp (disch := decide) only [Qbk, Qbr, Qb7, Qb6]
    refine Qpr (by repeat (first | exact Qz | exact Qq | exact Qr | exact Qt | exact Qu | apply Qp | apply Qy | apply Q4 | apply Q9 | apply Qaa | apply Qn | apply Q3)) [(4, 4), (56, 71)] [] (fun J hp => ∃ G', (∀ r, k <= r -> r < R -> ∀ c, c < R -> G' r c = Qa4 E.M i k r c) /\ J 4 = .ms 2000000 R /\ hp 2000000 = some ⟨1, 22, Qw (PV.rowD R) G' R, false⟩ /\
     hp 5 = some ⟨3, 32, [PV.rat (if i = k then E.det else -E.det)], false⟩ /\ hp 2 = some ⟨3, 32, [.agg [.bool false, .nilS, .nilS]], false⟩) ?_ ?_
    ·refine Qb (fun hs => ?_) (fun hs => ?_)
     ·have hik : ¬ i = k := by omega
      have hq := Qug (a := E.det) (k := K) (by omega) (by omega)
      simp +decide (disch := first | omega | rfl | (simp +decide only [go_sem, ↓reduceIte, i4, i7, j6, hr] <;> rfl) | fail) only [go_sem, ↓reduceIte, i4, i7, j6, hr]
      rw [Qg6 hk']
      simp +decide (disch := first | omega | rfl | (simp +decide only [go_sem, ↓reduceIte, i4, i7, j6, hr] <;> rfl) | fail) only [go_sem, ↓reduceIte, i4, i7, j6, hr]
      rw [Qg6 hi]
      simp +decide (disch := first | omega | rfl | (simp +decide only [go_sem, ↓reduceIte, i4, i7, j6, hr, h5] <;> rfl) | fail) only [go_sem, ↓reduceIte, i4, i7, j6, hr, h5]
      refine Qa hP hq rfl rfl rfl ?_
      simp +decide (disch := first | omega | rfl | (simp +decide only [go_sem, ↓reduceIte, i4, i7, j6, hr, h5] <;> rfl) | fail) only [go_sem, ↓reduceIte, i4, i7, j6, hr, h5]
      refine Qg3 ⟨fun r => if r = i then G k else if r = k then G i else G r, fun r hr1 hr2 c hc' => ?_, ?_⟩
      ·show (if r = i then G k else if r = k then G i else G r) c = Qa4 E.M i k r c
       unfold Qa4
       by_cases e : r = k
       ·rw [if_neg (fun e' => hik (by omega)), if_pos e, if_pos e]
        exact hG i hi1 hi c hc'
       ·by_cases e2 : r = i
        ·rw [if_pos e2, if_neg e, if_pos e2]; exact hG k (Nat.le_refl _) hk' c hc'
        ·rw [if_neg e2, if_neg e, if_neg e, if_neg e2]; exact hG r hr1 hr2 c hc'
      ·simp +decide (disch := first | omega | rfl | (simp +decide only [go_sem, ↓reduceIte, i4, h2, hik] <;> rfl) | fail) only [go_sem, ↓reduceIte, i4, h2, hik]
     ·obtain rfl : i = k := by omega
      simp only [bse, Qbx]
      simp +decide (disch := first | omega | rfl | (simp +decide only [go_sem, ↓reduceIte] <;> rfl) | fail) only [go_sem, ↓reduceIte]
      refine Qg3 ⟨G, fun r hr1 hr2 c hc' => ?_, ?_⟩
      ·unfold Qa4
       by_cases e : r = i
       ·subst e; rw [if_pos rfl]; exact hG r hr1 hr2 c hc'
       ·rw [if_neg e, if_neg e]; exact hG r hr1 hr2 c hc'
      ·simp +decide (disch := first | omega | rfl | (simp +decide only [go_sem, ↓reduceIte, i4, h2, h5, hr] <;> rfl) | fail) only [go_sem, ↓reduceIte, i4, h2, h5, hr]
    rintro J3 g ⟨G', hG', k4, g0, g5, g2⟩
    simp (disch := decide) only [Qbk, Qbr, Qb7, Qb6]
    have hkk : G' k k = E.M i k := by rw [hG' k (Nat.le_refl _) hk' k hk']; unfold Qa4; rw [if_pos rfl]
    have hd1 : rs (if i = k then E.det else -E.det) <= K := by
     split
     ·exact hB0.2
     ·rw [Qkj]; exact hB0.2
    have hGb : ∀ r, k <= r -> r < R -> ∀ c, c < R -> rs (G' r c) <= K := fun r hr1 hr2 c hc' => by
     rw [hG' r hr1 hr2 c hc']
     unfold Qa4
     split
     ·exact hB0.1 i hi c hc'
     ·split
      ·exact hB0.1 k hk' c hc'
      ·exact hB0.1 r hr2 c hc'
    generalize hpE : E.M i k = pv at *
    simp +decide (disch := first | omega | rfl | (simp +decide only [go_sem, ↓reduceIte, k4, j6, g0, g5, hkk] <;> rfl) | fail) only [go_sem, ↓reduceIte, k4, j6, g0, g5, hkk]
    refine Qa hP (Quc (a := if i = k then E.det else -E.det) (b := pv) hd1 hpk (by omega)) rfl rfl rfl ?_
    obtain ⟨D, hD⟩ : ∃ D, (if i = k then E.det else -E.det) * pv = D := ⟨_, rfl⟩
    rw [hD] at hS ⊢
    simp +decide (disch := first | omega | rfl | (simp +decide only [go_sem, ↓reduceIte, k4, j6, g0, g5, hkk] <;> rfl) | fail) only [go_sem, ↓reduceIte, k4, j6, g0, g5, hkk]
    refine Qby (by repeat (first | exact Qz | exact Qq | exact Qr | exact Qt | exact Qu | apply Qp | apply Qy | apply Q4 | apply Q9 | apply Qaa | apply Qn | apply Q3)) [(4, 4), (8, 10), (83, 119)] [9] (fun q J hp => ∃ r, q = R - r /\ k < r /\ r <= R /\ J 4 = .ms 2000000 R /\ J 8 = .int .i64 (r : Nat) /\ hp 2000000 = some ⟨1, 22, Qw (PV.rowD R) (fun r' => if k < r' /\ r' < r then (fun c => G' r' c - G' r' k / pv * G' k c) else G' r') R, false⟩ /\
     hp 5 = some ⟨3, 32, [PV.rat D], false⟩ /\ hp 2 = some ⟨3, 32, [.agg [.bool false, .nilS, .nilS]], false⟩) (R - (k + 1)) ?_ ?_
    ·refine ⟨k + 1, rfl, by omega, by omega, ?_⟩
     simp +decide (disch := first | omega | rfl | (simp +decide only [go_sem, ↓reduceIte, k4, g0, g2] <;> rfl) | fail) only [go_sem, ↓reduceIte, k4, g0, g2]
     refine Qh8 (Qdj fun r' _ c' _ => ?_)
     rw [if_neg (by omega)]
    rintro _ J5 h3 ⟨r, rfl, hkr, hr2, u4, u8, v0, v5, v2⟩
    simp +decide (disch := first | omega | rfl | (simp +decide only [go_sem, ↓reduceIte, u4, u8] <;> rfl) | fail) only [go_sem, ↓reduceIte, u4, u8]
    refine Qb (fun hrR => ?_) (fun hrR => ?_)
    ·have hr1 : r < R := by omega
     obtain ⟨Z, hZ⟩ : ∃ Z : MF, (fun r' => if k < r' /\ r' < r then (fun c => G' r' c - G' r' k / pv * G' k c) else G' r') = Z := ⟨_, rfl⟩
     have z1 : Z r = G' r := by rw [<- hZ]; exact if_neg (by omega)
     have z2 : Z k = G' k := by rw [<- hZ]; exact if_neg (by omega)
     rw [hZ] at v0
     have c1 := Qud (a := G' r k) (b := pv) (k := K) (hGb r (by omega) hr1 k hk') hpk (by omega) hM0
     have hq := Q1e (a := G' r k) hM0
     have hq1 := hGb r (by omega) hr1 k hk'
     have c2 := Qwa (w := R) (x := G' r) (y := G' k) (c := G' r k / pv) (k := 2 * K) (by omega) (fun c hc' => by have := hGb r (by omega) hr1 c hc'; omega) (fun c hc' => by have := hGb k (Nat.le_refl _) hk' c hc'; omega) (by omega) (by omega)
     repeat' first
      | refine Qcr ?_ ?_
      | refine Qa hP c1 rfl rfl rfl ?_
      | refine Qa hP c2 rfl rfl rfl ?_
      | simp +decide (disch := first | omega | rfl | (simp +decide only [go_sem, ↓reduceIte, u4, u8, v0, v5, v2, z1, z2, j6, hkk] <;> rfl) | fail) only [go_sem, ↓reduceIte, u4, u8, v0, v5, v2, z1, z2, j6, hkk]
     all_goals
      rw [show PV.sl 3 (Qw PV.rat (fun i => G' r i - G' r k / pv * G' k i) R) = PV.rowD R (fun i => G' r i - G' r k / pv * G' k i) from rfl, Qg6 hr1]
      simp +decide (disch := first | omega | rfl | (simp +decide only [go_sem, ↓reduceIte, u4, u8, v5, v2] <;> rfl) | fail) only [go_sem, ↓reduceIte, u4, u8, v5, v2]
      refine Qaz (R - (r + 1)) (by omega) ⟨r + 1, rfl, by omega, by omega, ?_⟩
      simp +decide (disch := first | omega | rfl | (simp +decide only [go_sem, ↓reduceIte, u4, v5, v2] <;> rfl) | fail) only [go_sem, ↓reduceIte, u4, v5, v2]
      refine Qh8 (Qdj fun r' _ c' _ => ?_)
      by_cases e : r' = r
      ·subst e; rw [if_pos rfl, if_pos (by omega)]
      ·rw [if_neg e, <- hZ]
       show (if k < r' /\ r' < r then (fun c => G' r' c - G' r' k / pv * G' k c) else G' r') c' = _
       by_cases e2 : k < r' /\ r' < r
       ·rw [if_pos e2, if_pos (by omega)]
       ·rw [if_neg e2, if_neg (by omega)]
    ·have hrR' : r = R := by omega
     simp (disch := decide) only [Qbk, Qbr, Qb7, Qb6]
     simp +decide (disch := first | omega | rfl | (simp +decide only [go_sem, ↓reduceIte, u4, u8, j6] <;> rfl) | fail) only [go_sem, ↓reduceIte, u4, u8, j6]
     refine Qaz (R - (k + 1)) (by omega) ⟨k + 1, (fun r' => if k < r' /\ r' < r then (fun c => G' r' c - G' r' k / pv * G' k c) else G' r'), rfl, by omega, ?_, fun r' h1 h2' c hc' => ?_, ?_⟩
     ·rw [hS]; simp [hpl]
     ·rw [hS]
      show (if k < r' /\ r' < r then (fun c => G' r' c - G' r' k / pv * G' k c) else G' r') c = Qfq (Qc7 (Qa4 E.M i k) k pv) k k r' c
      rw [if_pos (by omega)]
      unfold Qfq Qc7
      rw [if_neg (by omega), if_neg (by omega), if_neg (by omega), if_pos rfl, <- hG' r' (by omega) h2' c hc', <- hG' r' (by omega) h2' k hk', <- hG' k (Nat.le_refl _) hk' c hc', Rat.div_def, Rat.div_def, Rat.mul_assoc, Rat.mul_comm pv⁻¹]
     ·rw [hS]
      simp +decide (disch := first | omega | rfl | (simp +decide only [go_sem, ↓reduceIte, u4, v0, v5, v2] <;> rfl) | fail) only [go_sem, ↓reduceIte, u4, v0, v5, v2]
  ·obtain rfl : i = R := by omega
   have e0 : Qft i M = 0 := hdt (by rw [<- hpi, Nat.sub_self]; rfl)
   simp +decide (disch := first | omega | rfl | (simp +decide only [go_sem, ↓reduceIte, i4, i7, j6] <;> rfl) | fail) only [go_sem, ↓reduceIte, i4, i7, j6]
   refine Qa hP (Qh7 (x := 0) (by omega) (by omega)) rfl rfl rfl ?_
   rw [show ((0 : Int) : Rat) = 0 from rfl, e0]
   generalize (0 : Rat) = z
   simp +decide (disch := first | omega | rfl | (simp +decide only [go_sem, ↓reduceIte, h2] <;> rfl) | fail) only [go_sem, ↓reduceIte, h2]
   refine Qcs ?_
   simp +decide (disch := first | omega | rfl | (simp +decide only [go_sem, ↓reduceIte, h2] <;> rfl) | fail) only [go_sem, ↓reduceIte, h2]
   exact Qcc rfl rfl rfl (Qo _) (Qo _)
 ·obtain rfl : k = R := by omega
  have e0 : (Qaj k M k).det = Qft k M := by unfold Qft; rw [if_neg (by omega)]
  rw [e0] at h5
  simp +decide (disch := first | omega | rfl | (simp +decide only [go_sem, ↓reduceIte, h5, h2] <;> rfl) | fail) only [go_sem, ↓reduceIte, h5, h2]
  refine Qcs ?_
  simp +decide (disch := first | omega | rfl | (simp +decide only [go_sem, ↓reduceIte, h5, h2] <;> rfl) | fail) only [go_sem, ↓reduceIte, h5, h2]
  exact Qcc rfl rfl rfl (Qo _) (Qo _)
end Go.Proofs.YtmnkngmmfnncoaaGreat
namespace Go.Proofs.YtmnkngmmfnncoaaGreat
open Go Go.FW
set_option linter.unusedSimpArgs false
set_option linter.unusedVariables false
set_option maxRecDepth 100000
theorem Qaae {n : Nat} (hn : n <= 2 ^ 30) : Qd Tryz.prog 116 [.int .i64 (n : Nat)] (· = .sl 3 (Qw PV.rat (fun _ => (0 : Rat)) n)) := by
 refine Qg Qm Tryz.func116 rfl Q9u (by simp [Q5l]) fun C hP => ?_; simp only [Q5l]
 simp +decide (disch := first | omega | rfl | (simp +decide only [go_sem, ↓reduceIte] <;> rfl) | fail) only [go_sem, ↓reduceIte]
 refine Qai (by repeat (first | exact Qz | exact Qq | exact Qr | exact Qt | exact Qu | apply Qp | apply Qy | apply Q4 | apply Q9 | apply Qaa | apply Qn | apply Q3)) [(4, 4), (9, 16)] [] (fun q J hp => ∃ i xs, q = n - i /\ i <= n /\ J 9 = .int .i64 (i : Nat) /\ xs.length = n /\ hp 6 = some ⟨3, 32, xs, false⟩ /\ ∀ j, j < i -> xs[j]? = some (PV.rat 0)) n ?_ ?_
 ·refine ⟨0, List.replicate n (.agg [.bool false, .nilS, .nilS]), rfl, by omega, ?_⟩
  simp +decide (disch := first | omega | rfl | (simp +decide only [go_sem, ↓reduceIte] <;> rfl) | fail) only [go_sem, ↓reduceIte]
  exact ⟨rfl, by simp, fun j hj => by omega⟩
 rintro _ J h ⟨i, xs, rfl, hi, h9, hl, h6, hx⟩
 simp +decide (disch := first | omega | rfl | (simp +decide only [go_sem, ↓reduceIte, h9] <;> rfl) | fail) only [go_sem, ↓reduceIte, h9]
 refine Qb (fun hg => ?_) (fun hg => ?_)
 ·have hi' : i < n := by omega
  simp +decide (disch := first | omega | rfl | (simp +decide only [go_sem, ↓reduceIte, h9] <;> rfl) | fail) only [go_sem, ↓reduceIte, h9]
  refine Qa hP (Qqs (x := 0) (by omega) (by omega)) rfl rfl rfl ?_
  rw [show ((0 : Int) : Rat) = 0 from rfl]
  generalize (0 : Rat) = z at *
  simp +decide (disch := first | omega | rfl | (simp +decide only [go_sem, ↓reduceIte, h9, h6] <;> rfl) | fail) only [go_sem, ↓reduceIte, h9, h6]
  rw [Qf7 (n := 3) (xs := xs) (v := PV.rat z) (by omega) rfl rfl]
  simp +decide (disch := first | omega | rfl | (simp +decide only [go_sem, ↓reduceIte, h9] <;> rfl) | fail) only [go_sem, ↓reduceIte, h9]
  refine Qab (n - (i + 1)) (by omega) ⟨i + 1, xs.set i (PV.rat z), rfl, by omega, ?_⟩
  simp +decide (disch := first | omega | rfl | (simp +decide only [go_sem, ↓reduceIte] <;> rfl) | fail) only [go_sem, ↓reduceIte]
  refine ⟨by simp [hl], fun j hj => ?_⟩
  rw [List.getElem?_set]
  by_cases e : i = j
  ·rw [if_pos e, if_pos (by omega)]
  ·rw [if_neg e]; exact hx j (by omega)
 ·obtain rfl : i = n := by omega
  have e : xs = Qw PV.rat (fun _ => (0 : Rat)) i := by
   refine List.ext_getElem (by simp [Qw, hl]) fun j h1 h2 => ?_
   have := hx j (by omega)
   rw [List.getElem?_eq_getElem h1] at this
   rw [Qff]; exact Option.some.inj this
  simp +decide (disch := first | omega | rfl | (simp +decide only [go_sem, ↓reduceIte, h9, h6] <;> rfl) | fail) only [go_sem, ↓reduceIte, h9, h6]
  refine Qc ?_ ?_
  ·simp +decide (disch := first | omega | rfl | (simp +decide only [go_sem, ↓reduceIte, Ql, List.contains_cons, List.contains_nil, List.flatMap_cons, List.flatMap_nil, List.append_nil, h6, e] <;> rfl) | fail) only [go_sem, ↓reduceIte, Ql, List.contains_cons, List.contains_nil, List.flatMap_cons, List.flatMap_nil, List.append_nil, h6, e]
   rw [List.take_of_length_le (by rw [Qaq]; omega)]
  ·simp +decide (disch := first | omega | rfl | (simp +decide only [go_sem, ↓reduceIte, Ql, List.contains_cons, List.contains_nil, List.flatMap_cons, List.flatMap_nil, List.append_nil, h6] <;> rfl) | fail) only [go_sem, ↓reduceIte, Ql, List.contains_cons, List.contains_nil, List.flatMap_cons, List.flatMap_nil, List.append_nil, h6]
theorem Qpt {x y : Nat -> Rat} {c : Rat} {w ty1 ty2 k : Nat} (hw : w <= 2 ^ 30) (hx : ∀ i, i < w -> rs (x i) <= k) (hy : ∀ i, i < w -> rs (y i) <= k) (hc : rs c <= k) (hk : k <= 2 ^ 33) :
  Qbw Tryz.prog 164 [.ms 1500000 w, .ms 1500001 w, PV.rat c] (fun _ => .undef) (Qi (Qi hp0 1500000 ⟨3, ty1, Qw PV.rat x w, true⟩) 1500001 ⟨3, ty2, Qw PV.rat y w, true⟩) (fun r _ _ => r = .sl 3 (Qw PV.rat (Qgr x y c) w)) := by
 refine Qdo Qm Tryz.func164 rfl Qv7 (by simp [Quf]) fun C hP => ?_; simp only [Quf]
 simp +decide (disch := first | omega | rfl | (simp +decide only [go_sem, ↓reduceIte] <;> rfl) | fail) only [go_sem, ↓reduceIte]
 refine Qai (by repeat (first | exact Qz | exact Qq | exact Qr | exact Qt | exact Qu | apply Qp | apply Qy | apply Q4 | apply Q9 | apply Qaa | apply Qn | apply Q3)) [(8, 8), (14, 31)] [] (fun q J hp => ∃ i xs, q = w - i /\ i <= w /\ J 14 = .int .i64 (i : Nat) /\ xs.length = w /\ hp 11 = some ⟨3, 32, xs, false⟩ /\ hp 5 = some ⟨3, 32, [PV.rat c], false⟩ /\ hp 1500000 = some ⟨3, ty1, Qw PV.rat x w, true⟩ /\ hp 1500001 = some ⟨3, ty2, Qw PV.rat y w, true⟩ /\ ∀ j, j < i -> xs[j]? = some (PV.rat (Qgr x y c j))) w ?_ ?_
 ·refine ⟨0, List.replicate w (.agg [.bool false, .nilS, .nilS]), rfl, by omega, ?_⟩
  simp +decide (disch := first | omega | rfl | (simp +decide only [go_sem, ↓reduceIte] <;> rfl) | fail) only [go_sem, ↓reduceIte]
  exact ⟨rfl, by simp, fun j hj => by omega⟩
 rintro _ J h ⟨i, xs, rfl, hi, h14, hl, h11, h5, hx1, hy1, hxs⟩
 simp +decide (disch := first | omega | rfl | (simp +decide only [go_sem, ↓reduceIte, h14] <;> rfl) | fail) only [go_sem, ↓reduceIte, h14]
 refine Qb (fun hg => ?_) (fun hg => ?_)
 ·have hi' : i < w := by omega
  have h1 := hx i hi'
  have h2 := hy i hi'
  have hm := Qfe c (y i)
  simp +decide (disch := first | omega | rfl | (simp +decide only [go_sem, ↓reduceIte, h14, h11, h5, hx1, hy1] <;> rfl) | fail) only [go_sem, ↓reduceIte, h14, h11, h5, hx1, hy1]
  refine Qa hP (Qna (k := k) hc h2 (by omega)) rfl rfl rfl ?_
  simp +decide (disch := first | omega | rfl | (simp +decide only [go_sem, ↓reduceIte, h14, h11, h5, hx1, hy1] <;> rfl) | fail) only [go_sem, ↓reduceIte, h14, h11, h5, hx1, hy1]
  refine Qa hP (Qxp (k := 2 * k) (by omega) (by omega) (by omega)) rfl rfl rfl ?_
  simp +decide (disch := first | omega | rfl | (simp +decide only [go_sem, ↓reduceIte, h14, h11, h5, hx1, hy1] <;> rfl) | fail) only [go_sem, ↓reduceIte, h14, h11, h5, hx1, hy1]
  rw [Qf7 (n := 3) (xs := xs) (v := PV.rat (x i + c * y i)) (by omega) rfl rfl]
  simp +decide (disch := first | omega | rfl | (simp +decide only [go_sem, ↓reduceIte, h14] <;> rfl) | fail) only [go_sem, ↓reduceIte, h14]
  refine Qab (w - (i + 1)) (by omega) ⟨i + 1, xs.set i (PV.rat (x i + c * y i)), rfl, by omega, ?_⟩
  simp +decide (disch := first | omega | rfl | (simp +decide only [go_sem, ↓reduceIte, h5, hx1, hy1] <;> rfl) | fail) only [go_sem, ↓reduceIte, h5, hx1, hy1]
  refine ⟨by simp [hl], fun j hj => ?_⟩
  rw [List.getElem?_set]
  by_cases e : i = j
  ·subst e; rw [if_pos rfl, if_pos (by omega)]; rfl
  ·rw [if_neg e]; exact hxs j (by omega)
 ·obtain rfl : i = w := by omega
  have e : xs = Qw PV.rat (Qgr x y c) i := by
   refine List.ext_getElem (by simp [Qw, hl]) fun j h1 h2 => ?_
   have := hxs j (by omega)
   rw [List.getElem?_eq_getElem h1] at this
   rw [Qff]; exact Option.some.inj this
  simp +decide (disch := first | omega | rfl | (simp +decide only [go_sem, ↓reduceIte, h14, h11] <;> rfl) | fail) only [go_sem, ↓reduceIte, h14, h11]
  refine Qdn ?_
  simp +decide (disch := first | omega | rfl | (simp +decide only [go_sem, ↓reduceIte, h11] <;> rfl) | fail) only [go_sem, ↓reduceIte, h11]
  refine Qc ?_ ?_
  ·simp +decide (disch := first | omega | rfl | (simp +decide only [go_sem, ↓reduceIte, Ql, List.contains_cons, List.contains_nil, List.flatMap_cons, List.flatMap_nil, List.append_nil, h11, e] <;> rfl) | fail) only [go_sem, ↓reduceIte, Ql, List.contains_cons, List.contains_nil, List.flatMap_cons, List.flatMap_nil, List.append_nil, h11, e]
   rw [List.take_of_length_le (by rw [Qaq]; omega)]
  ·simp +decide (disch := first | omega | rfl | (simp +decide only [go_sem, ↓reduceIte, Ql, List.contains_cons, List.contains_nil, List.flatMap_cons, List.flatMap_nil, List.append_nil, h11] <;> rfl) | fail) only [go_sem, ↓reduceIte, Ql, List.contains_cons, List.contains_nil, List.flatMap_cons, List.flatMap_nil, List.append_nil, h11]
theorem Qvi {x y : Nat -> Rat} {c : Rat} {w ty2 k : Nat} (hw : w <= 2 ^ 30) (hx : ∀ i, i < w -> rs (x i) <= k) (hy : ∀ i, i < w -> rs (y i) <= k) (hc : rs c <= k) (hk : k <= 2 ^ 33) :
  Qbw Tryz.prog 164 [.sl 3 (Qw PV.rat x w), .ms 1500001 w, PV.rat c] (fun _ => .undef) (Qi hp0 1500001 ⟨3, ty2, Qw PV.rat y w, true⟩) (fun r _ _ => r = .sl 3 (Qw PV.rat (Qgr x y c) w)) := by
 have hrl : (Qw PV.rat x w).length = w := Qaq _ _ _
 refine Qdo Qm Tryz.func164 rfl Qv7 (by simp [Quf]) fun C hP => ?_; simp only [Quf]
 simp +decide (disch := first | omega | rfl | (simp +decide only [go_sem, ↓reduceIte, hrl] <;> rfl) | fail) only [go_sem, ↓reduceIte, hrl]
 refine Qai (by repeat (first | exact Qz | exact Qq | exact Qr | exact Qt | exact Qu | apply Qp | apply Qy | apply Q4 | apply Q9 | apply Qaa | apply Qn | apply Q3)) [(8, 8), (14, 31)] [] (fun q J hp => ∃ i xs, q = w - i /\ i <= w /\ J 14 = .int .i64 (i : Nat) /\ xs.length = w /\ hp 11 = some ⟨3, 32, xs, false⟩ /\ hp 5 = some ⟨3, 32, [PV.rat c], false⟩ /\ hp 1500001 = some ⟨3, ty2, Qw PV.rat y w, true⟩ /\ ∀ j, j < i -> xs[j]? = some (PV.rat (Qgr x y c j))) w ?_ ?_
 ·refine ⟨0, List.replicate w (.agg [.bool false, .nilS, .nilS]), rfl, by omega, ?_⟩
  simp +decide (disch := first | omega | rfl | (simp +decide only [go_sem, ↓reduceIte] <;> rfl) | fail) only [go_sem, ↓reduceIte]
  exact ⟨rfl, by simp, fun j hj => by omega⟩
 rintro _ J h ⟨i, xs, rfl, hi, h14, hl, h11, h5, hy1, hxs⟩
 simp +decide (disch := first | omega | rfl | (simp +decide only [go_sem, ↓reduceIte, h14] <;> rfl) | fail) only [go_sem, ↓reduceIte, h14]
 refine Qb (fun hg => ?_) (fun hg => ?_)
 ·have hi' : i < w := by omega
  have h1 := hx i hi'
  have h2 := hy i hi'
  have hm := Qfe c (y i)
  simp +decide (disch := first | omega | rfl | (simp +decide only [go_sem, ↓reduceIte, h14, h11, h5, hy1] <;> rfl) | fail) only [go_sem, ↓reduceIte, h14, h11, h5, hy1]
  refine Qa hP (Qna (k := k) hc h2 (by omega)) rfl rfl rfl ?_
  simp +decide (disch := first | omega | rfl | (simp +decide only [go_sem, ↓reduceIte, h14, h11, h5, hy1] <;> rfl) | fail) only [go_sem, ↓reduceIte, h14, h11, h5, hy1]
  refine Qa hP (Qxp (k := 2 * k) (by omega) (by omega) (by omega)) rfl rfl rfl ?_
  simp +decide (disch := first | omega | rfl | (simp +decide only [go_sem, ↓reduceIte, h14, h11, h5, hy1] <;> rfl) | fail) only [go_sem, ↓reduceIte, h14, h11, h5, hy1]
  rw [Qf7 (n := 3) (xs := xs) (v := PV.rat (x i + c * y i)) (by omega) rfl rfl]
  simp +decide (disch := first | omega | rfl | (simp +decide only [go_sem, ↓reduceIte, h14] <;> rfl) | fail) only [go_sem, ↓reduceIte, h14]
  refine Qab (w - (i + 1)) (by omega) ⟨i + 1, xs.set i (PV.rat (x i + c * y i)), rfl, by omega, ?_⟩
  simp +decide (disch := first | omega | rfl | (simp +decide only [go_sem, ↓reduceIte, h5, hy1] <;> rfl) | fail) only [go_sem, ↓reduceIte, h5, hy1]
  refine ⟨by simp [hl], fun j hj => ?_⟩
  rw [List.getElem?_set]
  by_cases e : i = j
  ·subst e; rw [if_pos rfl, if_pos (by omega)]; rfl
  ·rw [if_neg e]; exact hxs j (by omega)
 ·obtain rfl : i = w := by omega
  have e : xs = Qw PV.rat (Qgr x y c) i := by
   refine List.ext_getElem (by simp [Qw, hl]) fun j h1 h2 => ?_
   have := hxs j (by omega)
   rw [List.getElem?_eq_getElem h1] at this
   rw [Qff]; exact Option.some.inj this
  simp +decide (disch := first | omega | rfl | (simp +decide only [go_sem, ↓reduceIte, h14, h11] <;> rfl) | fail) only [go_sem, ↓reduceIte, h14, h11]
  refine Qdn ?_
  simp +decide (disch := first | omega | rfl | (simp +decide only [go_sem, ↓reduceIte, h11] <;> rfl) | fail) only [go_sem, ↓reduceIte, h11]
  refine Qc ?_ ?_
  ·simp +decide (disch := first | omega | rfl | (simp +decide only [go_sem, ↓reduceIte, Ql, List.contains_cons, List.contains_nil, List.flatMap_cons, List.flatMap_nil, List.append_nil, h11, e] <;> rfl) | fail) only [go_sem, ↓reduceIte, Ql, List.contains_cons, List.contains_nil, List.flatMap_cons, List.flatMap_nil, List.append_nil, h11, e]
   rw [List.take_of_length_le (by rw [Qaq]; omega)]
  ·simp +decide (disch := first | omega | rfl | (simp +decide only [go_sem, ↓reduceIte, Ql, List.contains_cons, List.contains_nil, List.flatMap_cons, List.flatMap_nil, List.append_nil, h11] <;> rfl) | fail) only [go_sem, ↓reduceIte, Ql, List.contains_cons, List.contains_nil, List.flatMap_cons, List.flatMap_nil, List.append_nil, h11]
def Qum (M : MF) (R : Nat) : Prop := ∀ i, i < R -> ∀ k, k < i -> M i k = M k i
instance {M : MF} {R : Nat} : Decidable (Qum M R) := by unfold Qum; infer_instance
theorem Qvj {M : MF} {R K ty tyr : Nat} (hR2 : R <= 40) (hK : K < 2 ^ 35) (hB : MBd K R R M) :
  Qbw Tryz.prog 92 [.nso 1500000 0 R] (upd (fun _ => .undef) 1500000 (.nst 1500000 1 ty (Qac (Qat 1600000 R R id))))
   (fun x => if x = 1500000 then some ⟨1, ty, [], true⟩ else if 1600000 <= x /\ x < 1600000 + R then some ⟨3, tyr, Qw PV.rat (M (x - 1600000)) R, true⟩ else none) (fun r _ _ => r = .bool (decide (Qum M R))) := by
 refine Qdo Qm Tryz.func92 rfl Qac2 (by simp [c92]) fun C hP => ?_; simp only [c92]
 simp +decide (disch := first | omega | rfl | (simp +decide only [go_sem, ↓reduceIte] <;> rfl) | fail) only [go_sem, ↓reduceIte]
 refine Qby (by repeat (first | exact Qz | exact Qq | exact Qr | exact Qt | exact Qu | apply Qp | apply Qy | apply Q4 | apply Q9 | apply Qaa | apply Qn | apply Q3)) [(0, 0), (2, 4), (7, 31), (1500000, 1500000)] [] (fun q J hp => ∃ i, q = R - i /\ i <= R /\ J 0 = .nso 1500000 0 R /\ J 7 = .int .i64 (i : Nat) /\ J 1500000 = .nst 1500000 1 ty (Qac (Qat 1600000 R R id)) /\ hp 1500000 = some ⟨1, ty, [], true⟩ /\ (∀ r, r < R -> hp (1600000 + r) = some ⟨3, tyr, Qw PV.rat (M r) R, true⟩) /\ ∀ j, j < i -> ∀ k, k < j -> M j k = M k j) R ?_ ?_
 ·refine ⟨0, rfl, by omega, ?_⟩
  simp +decide (disch := first | omega | rfl | (simp +decide only [go_sem, ↓reduceIte] <;> rfl) | fail) only [go_sem, ↓reduceIte]
  refine ⟨rfl, fun r hr => ?_, fun j hj => by omega⟩
  rw [if_pos ⟨by omega, by omega⟩, Nat.add_sub_cancel_left]
 rintro _ J h ⟨i, rfl, hi, h0, h7, hg, hh, hr, hs⟩
 simp +decide (disch := first | omega | rfl | (simp +decide only [go_sem, ↓reduceIte, h7] <;> rfl) | fail) only [go_sem, ↓reduceIte, h7]
 refine Qb (fun hc => ?_) (fun hc => ?_)
 ·have hi' : i < R := by omega
  simp +decide (disch := first | omega | rfl | (simp +decide only [go_sem, ↓reduceIte, h0, h7, hg, hh] <;> rfl) | fail) only [go_sem, ↓reduceIte, h0, h7, hg, hh]
  refine Qby (by repeat (first | exact Qz | exact Qq | exact Qr | exact Qt | exact Qu | apply Qp | apply Qy | apply Q4 | apply Q9 | apply Qaa | apply Qn | apply Q3)) [(0, 0), (2, 2), (4, 4), (11, 30), (1500000, 1500000)] [] (fun q J hp => ∃ k, q = i - k /\ k <= i /\ J 0 = .nso 1500000 0 R /\ J 11 = .int .i64 (k : Nat) /\ J 1500000 = .nst 1500000 1 ty (Qac (Qat 1600000 R R id)) /\ h = hp /\ ∀ j, j < k -> M i j = M j i) i ?_ ?_
  ·refine ⟨0, rfl, by omega, ?_⟩
   simp +decide (disch := first | omega | rfl | (simp +decide only [go_sem, ↓reduceIte, h0, hg] <;> rfl) | fail) only [go_sem, ↓reduceIte, h0, hg]
   exact ⟨rfl, fun j hj => by omega⟩
  rintro _ J2 _ ⟨k, rfl, hk, i0, i11, ig, rfl, is⟩
  simp +decide (disch := first | omega | rfl | (simp +decide only [go_sem, ↓reduceIte, i11] <;> rfl) | fail) only [go_sem, ↓reduceIte, i11]
  refine Qb (fun hc2 => ?_) (fun hc2 => ?_)
  ·have hk' : k < i := by omega
   have r1 := hr i hi'
   have r2 := hr k (by omega)
   have b1 := hB i hi' k (by omega)
   have b2 := hB k (by omega) i hi'
   simp +decide (disch := first | omega | rfl | (simp +decide only [go_sem, ↓reduceIte, i0, i11, ig, hh, r1, r2, id] <;> rfl) | fail) only [go_sem, ↓reduceIte, i0, i11, ig, hh, r1, r2, id]
   refine Qa hP (Q81 (a := M i k) (b := M k i) b1 b2 (by omega)) rfl rfl rfl ?_
   by_cases e : M i k = M k i
   ·simp +decide (disch := first | omega | rfl | (simp +decide only [go_sem, ↓reduceIte, i11, e] <;> rfl) | fail) only [go_sem, ↓reduceIte, i11, e]
    refine Qaz (i - (k + 1)) (by omega) ⟨k + 1, rfl, by omega, ?_⟩
    simp +decide (disch := first | omega | rfl | (simp +decide only [go_sem, ↓reduceIte, i0, ig] <;> rfl) | fail) only [go_sem, ↓reduceIte, i0, ig]
    intro j hj
    by_cases e2 : j = k
    ·subst e2; exact e
    ·exact is j (by omega)
   ·simp +decide (disch := first | omega | rfl | (simp +decide only [go_sem, ↓reduceIte, e] <;> rfl) | fail) only [go_sem, ↓reduceIte, e]
    refine Qdn ?_
    simp +decide (disch := first | omega | rfl | (simp +decide only [go_sem, ↓reduceIte] <;> rfl) | fail) only [go_sem, ↓reduceIte]
    refine Qc ?_ rfl
    rw [decide_eq_false]
    exact fun h => e (h i hi' k hk')
  ·simp +decide (disch := first | omega | rfl | (simp +decide only [go_sem, ↓reduceIte, h7] <;> rfl) | fail) only [go_sem, ↓reduceIte, h7]
   simp (disch := decide) only [Qbk, Qbr, Qb7, Qb6]
   refine Qaz (R - (i + 1)) (by omega) ⟨i + 1, rfl, by omega, ?_⟩
   simp +decide (disch := first | omega | rfl | (simp +decide only [go_sem, ↓reduceIte, i0, ig, hh] <;> rfl) | fail) only [go_sem, ↓reduceIte, i0, ig, hh]
   refine ⟨hr, fun j hj k' hk' => ?_⟩
   by_cases e : j = i
   ·subst e; exact is k' (by omega)
   ·exact hs j (by omega) k' hk'
 ·simp +decide (disch := first | omega | rfl | (simp +decide only [go_sem, ↓reduceIte] <;> rfl) | fail) only [go_sem, ↓reduceIte]
  refine Qdn ?_
  simp +decide (disch := first | omega | rfl | (simp +decide only [go_sem, ↓reduceIte] <;> rfl) | fail) only [go_sem, ↓reduceIte]
  refine Qc ?_ rfl
  rw [decide_eq_true]
  exact fun j hj k hk => hs j (by omega) k hk
end Go.Proofs.YtmnkngmmfnncoaaGreat
namespace Go.Proofs.YtmnkngmmfnncoaaGreat
open Go Go.FW
set_option linter.unusedSimpArgs false
set_option linter.unusedVariables false
set_option maxRecDepth 100000
theorem Qadn {M : MF} {R K ty tyr : Nat} (hR2 : R <= 40) (hK : K < 2 ^ 30) (hB : MBd K R R M) :
  Qbw Tryz.prog 93 [.nso 1500000 0 R] (upd (fun _ => .undef) 1500000 (.nst 1500000 1 ty (Qac (Qat 1600000 R R id))))
   (fun x => if x = 1500000 then some ⟨1, ty, [], true⟩ else if 1600000 <= x /\ x < 1600000 + R then some ⟨3, tyr, Qw PV.rat (M (x - 1600000)) R, true⟩ else none) (fun r _ _ => r = .sl 4 ((Qev M R).map (PV.form R))) := by
 refine Qdo Qm Tryz.func93 rfl Qac3 (by simp [c93]) fun C hP => ?_; simp only [c93]
 simp +decide (disch := first | omega | rfl | (simp +decide only [go_sem, ↓reduceIte] <;> rfl) | fail) only [go_sem, ↓reduceIte]
 refine Qa hP (Qqs (x := 1) (by omega) (by omega)) rfl rfl rfl ?_
 rw [show ((1 : Int) : Rat) = 1 from rfl]
 obtain ⟨u, hu⟩ : ∃ u : Rat, (1 : Rat) = u := ⟨_, rfl⟩
 rw [hu]
 simp +decide (disch := first | omega | rfl | (simp +decide only [go_sem, ↓reduceIte] <;> rfl) | fail) only [go_sem, ↓reduceIte]
 refine Qby (by repeat (first | exact Qz | exact Qq | exact Qr | exact Qt | exact Qu | apply Qp | apply Qy | apply Q4 | apply Q9 | apply Qaa | apply Qn | apply Q3)) [(0, 0), (2, 2), (4, 7), (16, 47), (1500000, 1500000)] [5, 6, 46] (fun q J hp => ∃ i, q = R - i /\ i <= R /\ J 0 = .nso 1500000 0 R /\ J 16 = .int .i64 (i : Nat) /\ J 1500000 = .nst 1500000 1 ty (Qac (Qat 1600000 R R id)) /\ hp 1500000 = some ⟨1, ty, [], true⟩ /\ (∀ r, r < R -> hp (1600000 + r) = some ⟨3, tyr, Qw PV.rat (M r) R, true⟩) /\ hp 3 = some ⟨3, 32, [PV.rat u], false⟩ /\ ∀ j, j < i -> M j j = 0) R ?_ ?_
 ·refine ⟨0, rfl, by omega, ?_⟩
  simp +decide (disch := first | omega | rfl | (simp +decide only [go_sem, ↓reduceIte] <;> rfl) | fail) only [go_sem, ↓reduceIte]
  refine ⟨rfl, fun r hr => ?_, fun j hj => by omega⟩
  rw [if_pos ⟨by omega, by omega⟩, Nat.add_sub_cancel_left]
 rintro _ J h ⟨i, rfl, hi, h0, h16, hg, hh, hr, h3, hz⟩
 simp +decide (disch := first | omega | rfl | (simp +decide only [go_sem, ↓reduceIte, h16] <;> rfl) | fail) only [go_sem, ↓reduceIte, h16]
 refine Qb (fun hc => ?_) (fun hc => ?_)
 ·have hi' : i < R := by omega
  have r1 := hr i hi'
  have b1 := hB i hi' i hi'
  simp +decide (disch := first | omega | rfl | (simp +decide only [go_sem, ↓reduceIte, h0, h16, hg, hh, r1, id] <;> rfl) | fail) only [go_sem, ↓reduceIte, h0, h16, hg, hh, r1, id]
  refine Qa hP (Qmi (a := M i i) (by omega)) rfl rfl rfl ?_
  simp +decide (disch := first | omega | rfl | (simp +decide only [go_sem, ↓reduceIte, h0, h16, hg, hh, r1, id] <;> rfl) | fail) only [go_sem, ↓reduceIte, h0, h16, hg, hh, r1, id]
  refine Qb (fun hs => ?_) (fun hs => ?_)
  ·have hne : M i i ≠ 0 := fun e => hs (Qce.2 e)
   simp +decide (disch := first | omega | rfl | (simp +decide only [go_sem, ↓reduceIte, h3] <;> rfl) | fail) only [go_sem, ↓reduceIte, h3]
   refine Qa hP (Qxs (a := u) (b := M i i) (k := K + 1) (by rw [<- hu]; have := Qtm; omega) (by omega) (by omega) hne) rfl rfl rfl ?_
   simp +decide (disch := first | omega | rfl | (simp +decide only [go_sem, ↓reduceIte, h0, h16, hg, hh, r1, id] <;> rfl) | fail) only [go_sem, ↓reduceIte, h0, h16, hg, hh, r1, id]
   refine Qa hP (Qaae (n := R) (by omega)) rfl rfl rfl ?_
   simp +decide (disch := first | omega | rfl | (simp +decide only [go_sem, ↓reduceIte] <;> rfl) | fail) only [go_sem, ↓reduceIte]
   have hbd : rs (u / M i i) <= K + 2 := by
    rw [Rat.div_def]
    have q1 := Qfe u (M i i)⁻¹
    have q2 := Quk (M i i) hne
    have q3 := Qtm
    rw [hu] at q3
    omega
   have cmb := Qvi (w := R) (x := fun _ => (0 : Rat)) (y := M i) (c := u / M i i) (ty2 := tyr) (k := K + 2) (by omega) (fun _ _ => by have := Q24; omega) (fun c hc => by have := hB i hi' c hc; omega) hbd (by omega)
   refine Q93 hP (hb1 := ⟨3, tyr, Qw PV.rat (M i) R, true⟩) cmb (by simp +decide (disch := first | omega | rfl | (simp +decide only [go_sem, ↓reduceIte] <;> rfl) | fail) only [go_sem, ↓reduceIte]) (γ1 := 1600000 + i) (by simp +decide (disch := first | omega | rfl | (simp +decide only [go_sem, ↓reduceIte, r1] <;> rfl) | fail) only [go_sem, ↓reduceIte, r1]) (by simp +decide (disch := first | omega | rfl | (simp +decide only [go_sem, ↓reduceIte] <;> rfl) | fail) only [go_sem, ↓reduceIte]) (fun γ hγ => by simpa [PV.refs, PV.sref] using hγ) (by simp) ?_
   simp +decide (disch := first | omega | rfl | (simp +decide only [go_sem, ↓reduceIte, h0] <;> rfl) | fail) only [go_sem, ↓reduceIte, h0]
   refine Qdn ?_
   simp +decide (disch := first | omega | rfl | (simp +decide only [go_sem, ↓reduceIte] <;> rfl) | fail) only [go_sem, ↓reduceIte]
   refine Qc ?_ ?_
   ·simp +decide (disch := first | omega | rfl | (simp +decide only [go_sem, ↓reduceIte, Ql, List.contains_cons, List.contains_nil, List.flatMap_cons, List.flatMap_nil, List.append_nil] <;> rfl) | fail) only [go_sem, ↓reduceIte, Ql, List.contains_cons, List.contains_nil, List.flatMap_cons, List.flatMap_nil, List.append_nil]
    have hdi : Qh5 M R = i := Qm9 (Nat.zero_le _) (by omega) (decide_eq_true hne) fun j _ hj => decide_eq_false (fun h => h (hz j hj))
    unfold Qev
    rw [hdi, if_pos hi', <- hu]
    rfl
   ·simp +decide (disch := first | omega | rfl | (simp +decide only [go_sem, ↓reduceIte, Ql, List.contains_cons, List.contains_nil, List.flatMap_cons, List.flatMap_nil, List.append_nil] <;> rfl) | fail) only [go_sem, ↓reduceIte, Ql, List.contains_cons, List.contains_nil, List.flatMap_cons, List.flatMap_nil, List.append_nil]
  ·simp +decide (disch := first | omega | rfl | (simp +decide only [go_sem, ↓reduceIte, h16] <;> rfl) | fail) only [go_sem, ↓reduceIte, h16]
   refine Qaz (R - (i + 1)) (by omega) ⟨i + 1, rfl, by omega, ?_⟩
   simp +decide (disch := first | omega | rfl | (simp +decide only [go_sem, ↓reduceIte, h0, hg, hh, h3] <;> rfl) | fail) only [go_sem, ↓reduceIte, h0, hg, hh, h3]
   refine ⟨hr, fun j hj => ?_⟩
   by_cases e : j = i
   ·subst e; exact Qce.1 (Classical.not_not.1 hs)
   ·exact hz j (by omega)
 ·obtain rfl : i = R := by omega
  have hnd : ¬ Qh5 M i < i := by
   have : Qh5 M i = 0 + i := Qko fun j _ hj => decide_eq_false (fun h => h (hz j (by omega)))
   omega
  simp +decide (disch := first | omega | rfl | (simp +decide only [go_sem, ↓reduceIte, h0] <;> rfl) | fail) only [go_sem, ↓reduceIte, h0]
  refine Qby (by repeat (first | exact Qz | exact Qq | exact Qr | exact Qt | exact Qu | apply Qp | apply Qy | apply Q4 | apply Q9 | apply Qaa | apply Qn | apply Q3)) [(0, 0), (2, 2), (8, 12), (50, 101), (1500000, 1500000)] [10, 11, 99] (fun q J hp => ∃ a, q = i - a /\ a <= i /\ J 0 = .nso 1500000 0 i /\ J 50 = .int .i64 (a : Nat) /\ J 1500000 = .nst 1500000 1 ty (Qac (Qat 1600000 i i id)) /\ hp 1500000 = some ⟨1, ty, [], true⟩ /\ (∀ r, r < i -> hp (1600000 + r) = some ⟨3, tyr, Qw PV.rat (M r) i, true⟩) /\ hp 3 = some ⟨3, 32, [PV.rat u], false⟩ /\ ∀ j, j < a -> ∀ k, k < i -> M j k = 0) i ?_ ?_
  ·refine ⟨0, rfl, by omega, ?_⟩
   simp +decide (disch := first | omega | rfl | (simp +decide only [go_sem, ↓reduceIte, h0, hg, hh, h3] <;> rfl) | fail) only [go_sem, ↓reduceIte, h0, hg, hh, h3]
   exact ⟨rfl, hr, fun j hj => by omega⟩
  rintro _ J1 h1 ⟨a, rfl, ha, a0, a50, ag, ah, ar, a3, az⟩
  simp +decide (disch := first | omega | rfl | (simp +decide only [go_sem, ↓reduceIte, a50] <;> rfl) | fail) only [go_sem, ↓reduceIte, a50]
  refine Qb (fun hca => ?_) (fun hca => ?_)
  ·have ha' : a < i := by omega
   have r1 := ar a ha'
   simp +decide (disch := first | omega | rfl | (simp +decide only [go_sem, ↓reduceIte, a0, a50, ag, ah, r1, id] <;> rfl) | fail) only [go_sem, ↓reduceIte, a0, a50, ag, ah, r1, id]
   refine Qby (by repeat (first | exact Qz | exact Qq | exact Qr | exact Qt | exact Qu | apply Qp | apply Qy | apply Q4 | apply Q9 | apply Qaa | apply Qn | apply Q3)) [(0, 0), (2, 2), (9, 12), (56, 56), (58, 100), (1500000, 1500000)] [10, 11, 99] (fun q J hp => ∃ b, q = i - b /\ b <= i /\ J 0 = .nso 1500000 0 i /\ J 56 = .ms (1600000 + a) i /\ J 58 = .int .i64 (b : Nat) /\ J 1500000 = .nst 1500000 1 ty (Qac (Qat 1600000 i i id)) /\ hp 1500000 = some ⟨1, ty, [], true⟩ /\ (∀ r, r < i -> hp (1600000 + r) = some ⟨3, tyr, Qw PV.rat (M r) i, true⟩) /\ hp 3 = some ⟨3, 32, [PV.rat u], false⟩ /\ ∀ k, k < b -> M a k = 0) i ?_ ?_
   ·refine ⟨0, rfl, by omega, ?_⟩
    simp +decide (disch := first | omega | rfl | (simp +decide only [go_sem, ↓reduceIte, a0, ag, ah, a3] <;> rfl) | fail) only [go_sem, ↓reduceIte, a0, ag, ah, a3]
    exact ⟨rfl, ar, fun j hj => by omega⟩
   rintro _ J2 h2 ⟨b, rfl, hb, b0, b56, b58, bg, bh, br, b3, bz⟩
   simp +decide (disch := first | omega | rfl | (simp +decide only [go_sem, ↓reduceIte, b58] <;> rfl) | fail) only [go_sem, ↓reduceIte, b58]
   refine Qb (fun hcb => ?_) (fun hcb => ?_)
   ·have hb' : b < i := by omega
    have s1 := br a ha'
    have s2 := br b hb'
    have b1 := hB a ha' b hb'
    simp +decide (disch := first | omega | rfl | (simp +decide only [go_sem, ↓reduceIte, b0, b56, b58, bg, bh, s1, s2, id] <;> rfl) | fail) only [go_sem, ↓reduceIte, b0, b56, b58, bg, bh, s1, s2, id]
    refine Qa hP (Qmi (a := M a b) (by omega)) rfl rfl rfl ?_
    simp +decide (disch := first | omega | rfl | (simp +decide only [go_sem, ↓reduceIte, b0, b56, b58, bg, bh, s1, s2, id] <;> rfl) | fail) only [go_sem, ↓reduceIte, b0, b56, b58, bg, bh, s1, s2, id]
    refine Qb (fun hs => ?_) (fun hs => ?_)
    ·have hne : M a b ≠ 0 := fun e => hs (Qce.2 e)
     have hab : a ≠ b := fun e => hne (by rw [<- e]; exact hz a ha')
     simp +decide (disch := first | omega | rfl | (simp +decide only [go_sem, ↓reduceIte, b0, b56, b58, bg, bh, b3, s1, s2, id] <;> rfl) | fail) only [go_sem, ↓reduceIte, b0, b56, b58, bg, bh, b3, s1, s2, id]
     have q1 := Qzw (M a b) (M a b)
     have hne2 : M a b + M a b ≠ 0 := fun h => hne (by grind)
     have q2 : rs u <= 1 := by rw [<- hu]; exact Qtm
     have c1 := Qxp (a := M a b) (b := M a b) (k := K) b1 b1 (by omega)
     have c2 := Qxs (a := u) (b := M a b + M a b) (k := 2 * K + 1) (by omega) (by omega) (by omega) hne2
     have q3 : rs (u / (M a b + M a b)) <= 2 * K + 2 := by
      rw [Rat.div_def]
      have := Qfe u (M a b + M a b)⁻¹
      have := Quk (M a b + M a b) hne2
      omega
     have c3 := Q6c (a := u / (M a b + M a b)) q3 (by omega)
     have c4 := Qqs (x := -1) (by omega) (by omega)
     rw [show ((-1 : Int) : Rat) = -1 from rfl] at c4
     obtain ⟨v, hv⟩ : ∃ v : Rat, (-1 : Rat) = v := ⟨_, rfl⟩
     have q4 : rs v <= 1 := by rw [<- hv, Qkj]; exact Qtm
     rw [hv] at c4
     have c5 := Qpt (w := i) (x := M a) (y := M b) (c := u) (ty1 := tyr) (ty2 := tyr) (k := K + 2) (by omega) (fun c hc => by have := hB a ha' c hc; omega) (fun c hc => by have := hB b hb' c hc; omega) (by omega) (by omega)
     have c6 := Qpt (w := i) (x := M a) (y := M b) (c := v) (ty1 := tyr) (ty2 := tyr) (k := K + 2) (by omega) (fun c hc => by have := hB a ha' c hc; omega) (fun c hc => by have := hB b hb' c hc; omega) (by omega) (by omega)
     have hci : Qjy M i a = b := Qm9 (Nat.zero_le _) (by omega) (decide_eq_true hne) fun j _ hj => decide_eq_false (fun h => h (bz j hj))
     have hri : Qfu M i = a := Qm9 (Nat.zero_le _) (by omega) (decide_eq_true (by rw [hci]; exact hb')) fun j _ hj => decide_eq_false (fun h => by
      have : Qjy M i j = 0 + i := Qko fun k _ hk => decide_eq_false (fun h2 => h2 (az j (by omega) k (by omega)))
      omega)
     have hnx : Qev M i = [(u / (M a b + M a b), Qgr (M a) (M b) u), (-(u / (M a b + M a b)), Qgr (M a) (M b) v)] := by
      unfold Qev
      rw [if_neg hnd, hri, if_pos ha', hci, <- hu, <- hv]
     have hab2 : ¬ 1600000 + b = 1600000 + a := by omega
     repeat' first
      | refine Qcr ?_ ?_
      | refine Qa hP c1 rfl rfl rfl ?_
      | refine Qa hP c2 rfl rfl rfl ?_
      | simp +decide (disch := first | omega | rfl | (simp +decide only [go_sem, ↓reduceIte, b0, b56, b58, bg, bh, b3, s1, s2, id] <;> rfl) | fail) only [go_sem, ↓reduceIte, b0, b56, b58, bg, bh, b3, s1, s2, id]
     all_goals
      refine Qv9 hP (hb1 := ⟨3, tyr, Qw PV.rat (M a) i, true⟩) (hb2 := ⟨3, tyr, Qw PV.rat (M b) i, true⟩) c5 (by simp +decide (disch := first | omega | rfl | (simp +decide only [go_sem, ↓reduceIte] <;> rfl) | fail) only [go_sem, ↓reduceIte]) (γ1 := 1600000 + a) (γ2 := 1600000 + b) (by simp +decide (disch := first | omega | rfl | (simp +decide only [go_sem, ↓reduceIte, s1] <;> rfl) | fail) only [go_sem, ↓reduceIte, s1]) (by simp +decide (disch := first | omega | rfl | (simp +decide only [go_sem, ↓reduceIte, s2] <;> rfl) | fail) only [go_sem, ↓reduceIte, s2]) (by omega) (by simp +decide (disch := first | omega | rfl | (simp +decide only [go_sem, ↓reduceIte, hab2] <;> rfl) | fail) only [go_sem, ↓reduceIte, hab2]) (fun γ hγ => by simpa [PV.refs, PV.sref] using hγ) (by simp) ?_
      simp +decide (disch := first | omega | rfl | (simp +decide only [go_sem, ↓reduceIte, b0, b56, b58, bg, bh, b3, s1, s2, id] <;> rfl) | fail) only [go_sem, ↓reduceIte, b0, b56, b58, bg, bh, b3, s1, s2, id]
      refine Qa hP c3 rfl rfl rfl ?_
      simp +decide (disch := first | omega | rfl | (simp +decide only [go_sem, ↓reduceIte, b0, b56, b58, bg, bh, b3, s1, s2, id] <;> rfl) | fail) only [go_sem, ↓reduceIte, b0, b56, b58, bg, bh, b3, s1, s2, id]
      refine Qa hP c4 rfl rfl rfl ?_
      simp +decide (disch := first | omega | rfl | (simp +decide only [go_sem, ↓reduceIte, b0, b56, b58, bg, bh, b3, s1, s2, id] <;> rfl) | fail) only [go_sem, ↓reduceIte, b0, b56, b58, bg, bh, b3, s1, s2, id]
      refine Qv9 hP (hb1 := ⟨3, tyr, Qw PV.rat (M a) i, true⟩) (hb2 := ⟨3, tyr, Qw PV.rat (M b) i, true⟩) c6 (by simp +decide (disch := first | omega | rfl | (simp +decide only [go_sem, ↓reduceIte] <;> rfl) | fail) only [go_sem, ↓reduceIte]) (γ1 := 1600000 + a) (γ2 := 1600000 + b) (by simp +decide (disch := first | omega | rfl | (simp +decide only [go_sem, ↓reduceIte, s1] <;> rfl) | fail) only [go_sem, ↓reduceIte, s1]) (by simp +decide (disch := first | omega | rfl | (simp +decide only [go_sem, ↓reduceIte, s2] <;> rfl) | fail) only [go_sem, ↓reduceIte, s2]) (by omega) (by simp +decide (disch := first | omega | rfl | (simp +decide only [go_sem, ↓reduceIte, hab2] <;> rfl) | fail) only [go_sem, ↓reduceIte, hab2]) (fun γ hγ => by simpa [PV.refs, PV.sref] using hγ) (by simp) ?_
      simp +decide (disch := first | omega | rfl | (simp +decide only [go_sem, ↓reduceIte, b0, b56, b58, bg, bh, b3, s1, s2, id] <;> rfl) | fail) only [go_sem, ↓reduceIte, b0, b56, b58, bg, bh, b3, s1, s2, id]
      refine Qdn ?_
      simp +decide (disch := first | omega | rfl | (simp +decide only [go_sem, ↓reduceIte] <;> rfl) | fail) only [go_sem, ↓reduceIte]
      refine Qc ?_ ?_
      ·simp +decide (disch := first | omega | rfl | (simp +decide only [go_sem, ↓reduceIte, Ql, List.contains_cons, List.contains_nil, List.flatMap_cons, List.flatMap_nil, List.append_nil] <;> rfl) | fail) only [go_sem, ↓reduceIte, Ql, List.contains_cons, List.contains_nil, List.flatMap_cons, List.flatMap_nil, List.append_nil]
       rw [hnx]; rfl
      ·simp +decide (disch := first | omega | rfl | (simp +decide only [go_sem, ↓reduceIte, Ql, List.contains_cons, List.contains_nil, List.flatMap_cons, List.flatMap_nil, List.append_nil] <;> rfl) | fail) only [go_sem, ↓reduceIte, Ql, List.contains_cons, List.contains_nil, List.flatMap_cons, List.flatMap_nil, List.append_nil]
    ·simp +decide (disch := first | omega | rfl | (simp +decide only [go_sem, ↓reduceIte, b58] <;> rfl) | fail) only [go_sem, ↓reduceIte, b58]
     refine Qaz (i - (b + 1)) (by omega) ⟨b + 1, rfl, by omega, ?_⟩
     simp +decide (disch := first | omega | rfl | (simp +decide only [go_sem, ↓reduceIte, b0, b56, bg, bh, b3] <;> rfl) | fail) only [go_sem, ↓reduceIte, b0, b56, bg, bh, b3]
     refine ⟨br, fun j hj => ?_⟩
     by_cases e : j = b
     ·subst e; exact Qce.1 (Classical.not_not.1 hs)
     ·exact bz j (by omega)
   ·simp +decide (disch := first | omega | rfl | (simp +decide only [go_sem, ↓reduceIte] <;> rfl) | fail) only [go_sem, ↓reduceIte]
    simp (disch := decide) only [Qbk, Qbr, Qb7, Qb6]
    simp +decide (disch := first | omega | rfl | (simp +decide only [go_sem, ↓reduceIte, a50] <;> rfl) | fail) only [go_sem, ↓reduceIte, a50]
    refine Qaz (i - (a + 1)) (by omega) ⟨a + 1, rfl, by omega, ?_⟩
    simp +decide (disch := first | omega | rfl | (simp +decide only [go_sem, ↓reduceIte, b0, bg, bh, b3] <;> rfl) | fail) only [go_sem, ↓reduceIte, b0, bg, bh, b3]
    refine ⟨br, fun j hj k hk => ?_⟩
    by_cases e : j = a
    ·subst e; exact bz k (by omega)
    ·exact az j (by omega) k hk
  ·simp +decide (disch := first | omega | rfl | (simp +decide only [go_sem, ↓reduceIte] <;> rfl) | fail) only [go_sem, ↓reduceIte]
   refine Qdn ?_
   simp +decide (disch := first | omega | rfl | (simp +decide only [go_sem, ↓reduceIte] <;> rfl) | fail) only [go_sem, ↓reduceIte]
   refine ⟨rfl, .sl 4 [], trivial, ?_⟩
   unfold Qev
   have e1 : ¬ Qfu M i < i := by
    have : Qfu M i = 0 + i := Qko fun j _ hj => decide_eq_false (fun h => by
     have : Qjy M i j = 0 + i := Qko fun k _ hk => decide_eq_false (fun h2 => h2 (az j (by omega) k (by omega)))
     omega)
    omega
   rw [if_neg hnd, if_neg e1]
   rfl
end Go.Proofs.YtmnkngmmfnncoaaGreat
namespace Go.Proofs.YtmnkngmmfnncoaaGreat
open Go Go.FW
set_option linter.unusedSimpArgs false
set_option linter.unusedVariables false
set_option maxRecDepth 100000
def c29 : SFn := ⟨83, [.t 2, .cell 3 3 true, .t 4], .seq (.rg (.o none (.box 1 3 24 (.t 0)) <|
 .o none (.mv 2 (.c .nilS)) <|
 .o none (.alloc 3 3 24 (.agg [(.int .i64 0), (.int .i64 0), .nilS])) <|
 .o none (.mv 4 (.c (.int .i64 0))) .nil)) <| .seq (.seq (.rg (.o none (.ld 10 3 true (.t 1)) <|
 .o none (.call (some 11) false (.c (.fn 25 [] [])) [(.t 10)]) <|
 .o none (.un 12 .not (.t 11)) .nil)) <| .cond (.t 12) (.seq (.rg (.o none (.bld 13 [(.int .i64 0), (.int .i64 0), .nilS] []) <|
 .o none (.mv 2 (.c .nilS)) <|
 .o none (.st 3 (.t 3) (.t 13)) <|
 .o none (.mv 4 (.c (.int .i64 1))) .nil)) <| .ret) (.skip)) <| .seq (.rg (.o none (.ld 14 3 true (.t 1)) <|
 .o none (.call (some 15) false (.c (.fn 78 [] [])) [(.t 14)]) <|
 .o none (.mv 5 (.t 15)) .nil)) <| .seq (.seq (.rg (.o none (.fld 16 0 (.t 1)) <|
 .o none (.ld 17 1 false (.t 16)) <|
 .o none (.fld 18 1 (.t 1)) <|
 .o none (.ld 19 1 false (.t 18)) <|
 .o none (.bin 20 .neq false (.t 17) (.t 19)) <|
 .o none (.mv 21 (.t 20)) <|
 .o (some (21, false)) (.mv 22 (.t 5)) <|
 .o (some (21, false)) (.call (some 23) false (.c (.fn 92 [] [])) [(.t 22)]) <|
 .o (some (21, false)) (.un 24 .not (.t 23)) <|
 .o none (.pick 25 (.t 21) (.c (.bool true)) (.t 24)) .nil)) <| .cond (.t 25) (.seq (.rg (.o none (.bld 26 [(.int .i64 0), (.int .i64 0), .nilS] []) <|
 .o none (.mv 2 (.c .nilS)) <|
 .o none (.st 3 (.t 3) (.t 26)) <|
 .o none (.mv 4 (.c (.int .i64 16))) .nil)) <| .ret) (.skip)) <| .seq (.rg (.o none (.fld 27 1 (.t 1)) <|
 .o none (.ld 28 1 false (.t 27)) <|
 .o none (.fld 29 1 (.t 3)) <|
 .o none (.st 1 (.t 29) (.t 28)) .nil)) <| .seq (.seq (.rg (.o none (.fld 30 0 (.t 1)) <|
 .o none (.ld 31 1 false (.t 30)) <|
 .o none (.bin 32 .mul false (.c (.int .i64 2)) (.t 31)) <|
 .o none (.mv 33 (.c (.int .i64 0))) (.wk (.wk (.wk .nil))))) <| .block 0 (.loop (.seq (.rg (.o none (.bin 34 .lss false (.t 33) (.t 32)) .nil)) <| .seq (.cond (.t 34) (.skip) (.exit 0)) <| .seq (.block 1 (.seq (.rg (.o none (.mv 35 (.t 5)) <|
 .o none (.call (some 36) false (.c (.fn 93 [] [])) [(.t 35)]) <|
 .o none (.mv 6 (.t 36)) .nil)) <| .seq (.rg (.o none (.mv 37 (.t 6)) <|
 .o none (.len 38 (.t 37)) <|
 .o none (.mv 39 (.c (.int .i64 0))) .nil)) <| .block 2 (.loop (.seq (.rg (.o none (.bin 40 .lss false (.t 39) (.t 38)) .nil)) <| .seq (.cond (.t 40) (.skip) (.exit 2)) <| .seq (.block 3 (.seq (.rg (.o none (.idx 41 4 (.t 37) (.t 39)) <|
 .o none (.ld 42 4 true (.t 41)) <|
 .o none (.alloc 8 4 109 (.agg [(.bool false), .nilS, .nilS, .nilS])) <|
 .o none (.st 4 (.t 8) (.t 42)) .nil)) <| .seq (.rg (.o none (.mv 43 (.t 2)) <|
 .o none (.fld 44 0 (.t 8)) <|
 .o none (.ld 45 3 true (.t 44)) <|
 .o none (.bs 46 3 32 [(.t 45)]) <|
 .o none (.app 47 3 56 32 (.t 43) (.t 46)) <|
 .o none (.mv 2 (.t 47)) .nil)) <| .seq (.rg (.o none (.fld 48 2 (.t 3)) <|
 .o none (.ld 49 1 false (.t 48)) <|
 .o none (.fld 50 3 (.t 8)) <|
 .o none (.ld 51 1 false (.t 50)) <|
 .o none (.app 52 3 56 32 (.t 49) (.t 51)) <|
 .o none (.fld 53 2 (.t 3)) <|
 .o none (.st 1 (.t 53) (.t 52)) .nil)) <| .seq (.rg (.o none (.fld 54 0 (.t 3)) <|
 .o none (.ld 55 1 false (.t 54)) <|
 .o none (.bin 56 .add false (.t 55) (.c (.int .i64 1))) <|
 .o none (.fld 57 0 (.t 3)) <|
 .o none (.st 1 (.t 57) (.t 56)) .nil)) <| .seq (.rg (.o none (.mv 58 (.t 5)) <|
 .o none (.len 59 (.t 58)) <|
 .o none (.mv 60 (.c (.int .i64 0))) .nil)) <| .block 4 (.loop (.seq (.rg (.o none (.bin 61 .lss false (.t 60) (.t 59)) .nil)) <| .seq (.cond (.t 61) (.skip) (.exit 4)) <| .seq (.block 5 (.seq (.rg (.o none (.mv 62 (.t 60)) <|
 .o none (.mv 9 (.t 62)) .nil)) <| .rg (.o none (.mv 63 (.t 5)) <|
 .o none (.mv 64 (.t 9)) <|
 .o none (.idx 65 1 (.t 63) (.t 64)) <|
 .o none (.ld 66 1 false (.t 65)) <|
 .o none (.fld 67 3 (.t 8)) <|
 .o none (.ld 68 1 false (.t 67)) <|
 .o none (.fld 69 0 (.t 8)) <|
 .o none (.ld 70 3 true (.t 69)) <|
 .o none (.fld 71 3 (.t 8)) <|
 .o none (.ld 72 1 false (.t 71)) <|
 .o none (.mv 73 (.t 9)) <|
 .o none (.idx 74 3 (.t 72) (.t 73)) <|
 .o none (.ld 75 3 true (.t 74)) <|
 .o none (.call (some 76) true (.c (.fn 38 [] [])) [(.t 70), (.t 75)]) <|
 .o none (.call (some 77) false (.c (.fn 94 [] [])) [(.t 66), (.t 68), (.t 76)]) .nil))) <| .rg (.o none (.bin 78 .add false (.t 60) (.c (.int .i64 1))) <|
 .o none (.mv 60 (.t 78)) .nil))))) <| .rg (.o none (.bin 79 .add false (.t 39) (.c (.int .i64 1))) <|
 .o none (.mv 39 (.t 79)) .nil))))) <| .rg (.o none (.bin 80 .add false (.t 33) (.c (.int .i64 1))) <|
 .o none (.mv 33 (.t 80)) .nil)))) <| .seq (.rg (.o none (.mv 81 (.t 2)) <|
 .o none (.ld 82 3 true (.t 3)) <| .wk <|
 .o none (.mv 2 (.t 81)) <|
 .o none (.st 3 (.t 3) (.t 82)) <|
 .o none (.mv 4 (.c (.int .i64 0))) .nil)) <| .ret⟩
theorem Qado : Qe Tryz.prog Tryz.f29 = some c29.strip := by kernel_rfl
theorem Qvk {x y : Nat -> Rat} {c : Rat} {w ty1 k : Nat} (hw : 0 < w) (hw2 : w <= 2 ^ 30) (hx : ∀ i, i < w -> rs (x i) <= k) (hy : ∀ i, i < w -> rs (y i) <= k) (hc : rs c <= k) (hk : k <= 2 ^ 33) :
  Qbw Tryz.prog 94 [.ms 1000000 w, .sl 3 (Qw PV.rat y w), PV.rat c] (fun _ => .undef) (Qi hp0 1000000 ⟨3, ty1, Qw PV.rat x w, false⟩) (fun r F H => Qeu r /\ ∃ xs, H 1000000 = some ⟨3, ty1, xs, false⟩ /\ xs.length = (Qw PV.rat x w).length /\ (r = .tup [] /\ xs = Qw PV.rat (fun i => x i - c * y i) w)) := by
 refine Qdo Qm Tryz.func94 rfl Q0x (by simp [c94]) fun C hP => ?_; simp only [c94]
 simp +decide (disch := first | omega | rfl | (simp +decide only [go_sem, ↓reduceIte] <;> rfl) | fail) only [go_sem, ↓reduceIte]
 refine Qa hP (Qmi (a := c) (by omega)) rfl rfl rfl ?_
 simp +decide (disch := first | omega | rfl | (simp +decide only [go_sem, ↓reduceIte] <;> rfl) | fail) only [go_sem, ↓reduceIte]
 refine Qb (fun h0 => ?_) (fun h0 => ?_)
 ·simp +decide (disch := first | omega | rfl | (simp +decide only [go_sem, ↓reduceIte] <;> rfl) | fail) only [go_sem, ↓reduceIte]
  refine Qji ?_
  simp +decide (disch := first | omega | rfl | (simp +decide only [go_sem, ↓reduceIte] <;> rfl) | fail) only [go_sem, ↓reduceIte]
  refine ⟨_, rfl, rfl, Qb5 fun i hi => ?_⟩
  rw [Qce.1 h0, Rat.zero_mul, Rat.sub_eq_add_neg, Rat.neg_zero, Rat.add_zero]
 simp +decide (disch := first | omega | rfl | (simp +decide only [go_sem, ↓reduceIte] <;> rfl) | fail) only [go_sem, ↓reduceIte]
 refine Qai (by repeat (first | exact Qz | exact Qq | exact Qr | exact Qt | exact Qu | apply Qp | apply Qy | apply Q4 | apply Q9 | apply Qaa | apply Qn | apply Q3)) [(6, 6), (12, 29)] [] (fun n J hp => ∃ i, n = w - i /\ i <= w /\ J 12 = .int .i64 (i : Nat) /\ hp 5 = some ⟨3, 32, [PV.rat c], false⟩ /\ hp 1000000 = some ⟨3, ty1, Qw PV.rat (fun j => if j < i then x j - c * y j else x j) w, false⟩) w ?_ ?_
 ·refine ⟨0, rfl, by omega, ?_⟩
  simp +decide (disch := first | omega | rfl | (simp +decide only [go_sem, ↓reduceIte] <;> rfl) | fail) only [go_sem, ↓reduceIte]
  exact ⟨rfl, Qh8 (Qb5 fun k _ => (if_neg (Nat.not_lt_zero k)).symm)⟩
 rintro _ J h ⟨i, rfl, hi, h12, h5, hx1⟩
 simp +decide (disch := first | omega | rfl | (simp +decide only [go_sem, ↓reduceIte, h12] <;> rfl) | fail) only [go_sem, ↓reduceIte, h12]
 refine Qb (fun hg => ?_) (fun hg => ?_)
 ·have hi' : i < w := by omega
  have hm := Qfe c (y i)
  have h1 := hx i hi'
  have h2 := hy i hi'
  simp +decide (disch := first | omega | rfl | (simp +decide only [go_sem, ↓reduceIte, h12, h5, hx1] <;> rfl) | fail) only [go_sem, ↓reduceIte, h12, h5, hx1]
  rw [if_neg (Nat.lt_irrefl i)]
  refine Qa hP (Qna (k := k) hc h2 (by omega)) rfl rfl rfl ?_
  simp +decide (disch := first | omega | rfl | (simp +decide only [go_sem, ↓reduceIte, h12, h5, hx1] <;> rfl) | fail) only [go_sem, ↓reduceIte, h12, h5, hx1]
  refine Qa hP (Q6b (k := 2 * k) (by omega) (by omega) (by omega)) rfl rfl rfl ?_
  simp +decide (disch := first | omega | rfl | (simp +decide only [go_sem, ↓reduceIte, h12, h5, hx1] <;> rfl) | fail) only [go_sem, ↓reduceIte, h12, h5, hx1]
  rw [Qqt hi']
  simp +decide (disch := first | omega | rfl | (simp +decide only [go_sem, ↓reduceIte, h12] <;> rfl) | fail) only [go_sem, ↓reduceIte, h12]
  refine Qab (w - (i + 1)) (by omega) ⟨i + 1, rfl, by omega, ?_⟩
  simp +decide (disch := first | omega | rfl | (simp +decide only [go_sem, ↓reduceIte, h5] <;> rfl) | fail) only [go_sem, ↓reduceIte, h5]
  refine Qh8 (Qb5 fun k _ => ?_)
  by_cases e : k = i
  ·subst e; rw [if_pos rfl, if_pos (by omega)]
  ·rw [if_neg e]
   by_cases e2 : k < i
   ·rw [if_pos e2, if_pos (by omega)]
   ·rw [if_neg e2, if_neg (by omega)]
 ·obtain rfl : i = w := by omega
  simp +decide (disch := first | omega | rfl | (simp +decide only [go_sem, ↓reduceIte, h12] <;> rfl) | fail) only [go_sem, ↓reduceIte, h12]
  refine Qji ?_
  simp +decide (disch := first | omega | rfl | (simp +decide only [go_sem, ↓reduceIte, hx1] <;> rfl) | fail) only [go_sem, ↓reduceIte, hx1]
  exact ⟨_, rfl, by rw [Qaq, Qaq], Qb5 fun k hk => if_pos hk⟩
theorem Qjl {R w x : Nat} {M : MF} {hp : HP} (h : x < 3000000) (h2 : ¬ x = 2000000) : Qgt R w M hp x = hp x := by
 unfold Qgt
 rw [if_neg h2, if_neg (by omega)]
abbrev Qx4 (R n : Nat) : PV := .rag [.int .i64 (n : Nat), .int .i64 (R : Nat), .mso 2000002 0 (n * R)]
abbrev redA (R : Nat) (l : List LF) : PV := .tup [PV.rats (l.map (·.1)), PV.mat l.length R (Qef R l), .int .i64 0]
theorem Q5y {R K : Nat} {l : List Rat} (hl : l.length = R * R) (hR0 : 0 < R) (hR2 : R <= 40) (hs : ∀ q ∈ l, rs q <= 1048576) (hK : K < 2 ^ 28) (hB : Q5t K R (2 * R) (Qal l R)) (hsym : Qum (Qal l R) R) :
  Qd Tryz.prog 29 [PV.mat R R l] (· = redA R (Qbs R (Qal l R) (2 * R)).2) := by
 refine Qmm Qm Tryz.func29 rfl Qado (by simp [c29]) fun C hP => ?_; simp only [c29]
 simp +decide (disch := first | omega | rfl | (simp +decide only [go_sem, ↓reduceIte] <;> rfl) | fail) only [go_sem, ↓reduceIte]
 refine Qa hP (Qlp hl hR2 hR2 hs) rfl rfl rfl ?_
 simp +decide (disch := first | omega | rfl | (simp +decide only [go_sem, ↓reduceIte] <;> rfl) | fail) only [go_sem, ↓reduceIte]
 have hfree : ∀ (hp : HP), (∀ x, 5 <= x -> hp x = none) -> ∀ x, nmR R x = true -> hp x = none := fun hp h x hx => h x (by have := Qjk hx; omega)
 refine Qmo hP hl hR0 hR2 hR2 (by omega) (hfree _ (fun x hx => by simp +decide (disch := first | omega | rfl | (simp +decide only [go_sem, ↓reduceIte, show ¬ x = 1 from by omega, show ¬ x = 2 from by omega, show ¬ x = 3 from by omega, show ¬ x = 4 from by omega] <;> rfl) | fail) only [go_sem, ↓reduceIte, show ¬ x = 1 from by omega, show ¬ x = 2 from by omega, show ¬ x = 3 from by omega, show ¬ x = 4 from by omega] <;> rfl)) ?_
 simp +decide (disch := first | omega | rfl | (simp +decide only [go_sem, ↓reduceIte, Qcb, Qfz, Qa8] <;> rfl) | fail) only [go_sem, ↓reduceIte, Qcb, Qfz, Qa8]
 have hB0 := hB 0 (by omega)
 have hx := Qvj (K := K) (ty := 22) (tyr := 32) hR2 (by omega) hB0.1
 repeat' first
  | refine Qcr ?_ ?_
  | refine Qwb (ys := fun r => Qw PV.rat (Qal l R r) R) hP (by omega) hx (by simp [Qpp]) (by simp +decide (disch := first | omega | rfl | (simp +decide only [go_sem, ↓reduceIte] <;> rfl) | fail) only [go_sem, ↓reduceIte]) (by simp +decide (disch := first | omega | rfl | (simp +decide only [go_sem, ↓reduceIte, Qg5] <;> rfl) | fail) only [go_sem, ↓reduceIte, Qg5]) (fun r hr => by simp +decide (disch := first | omega | rfl | (simp +decide only [go_sem, ↓reduceIte, Qfg] <;> rfl) | fail) only [go_sem, ↓reduceIte, Qfg]) ?_
  | simp +decide (disch := first | omega | rfl | (simp +decide only [go_sem, ↓reduceIte, Qcb, Qfz, Qa8] <;> rfl) | fail) only [go_sem, ↓reduceIte, Qcb, Qfz, Qa8]
 rw [show (Qbs R (Qal l R) 0).1 = Qal l R from rfl, decide_eq_true hsym]
 simp +decide (disch := first | omega | rfl | (simp +decide only [go_sem, ↓reduceIte, Qcb, Qfz, Qa8] <;> rfl) | fail) only [go_sem, ↓reduceIte, Qcb, Qfz, Qa8]
 refine Qd3 (Qpe 3 2000001 (by simp +decide (disch := first | omega | rfl | (simp +decide only [go_sem, ↓reduceIte, Qjl] <;> rfl) | fail) only [go_sem, ↓reduceIte, Qjl] <;> rfl) (by omega) rfl (by omega)) ?_
 have hmv : rnP (mvN 3 2000001) (.nst 2000000 1 22 (Qac (Qat 3000000 R R id))) = .nst 2000000 1 22 (Qac (Qat 3000000 R R id)) := mv_P (by omega) (by omega) (by omega)
 simp +decide (disch := first | omega | rfl | (simp +decide only [go_sem, ↓reduceIte, hmv] <;> rfl) | fail) only [go_sem, ↓reduceIte, hmv]
 refine Qd3 (Qtw (γ := 2000001) (e := 3) (ty := 24) (xs := [.agg [.int .i64 0, .int .i64 (R : Nat), .nilS]]) (fz := false) (by simp +decide (disch := first | omega | rfl | (simp +decide only [go_sem, ↓reduceIte] <;> rfl) | fail) only [go_sem, ↓reduceIte]) (by simp) (by omega) (fun x hx => by rw [List.mem_singleton.1 hx]; rfl)) ?_
 refine Qd3 (Q5v (γ := 2000001) (e := 3) (ty := 24) (cs := [.int .i64 0, .int .i64 (R : Nat), .nilS]) (cs' := [.int .i64 0, .int .i64 (R : Nat), .mso 2000002 0 0]) 2000002 3 32 (by simp +decide (disch := first | omega | rfl | (simp +decide only [go_sem, ↓reduceIte] <;> rfl) | fail) only [go_sem, ↓reduceIte]) (by simp +decide (disch := first | omega | rfl | (simp +decide only [go_sem, ↓reduceIte, Qjl] <;> rfl) | fail) only [go_sem, ↓reduceIte, Qjl] <;> rfl) (by omega) (by omega) rfl (by simp)) ?_
 simp +decide (disch := first | omega | rfl | (simp +decide only [go_sem, ↓reduceIte] <;> rfl) | fail) only [go_sem, ↓reduceIte]
 refine Qfo 2 900 3 32 (by omega) (by simp +decide (disch := first | omega | rfl | (simp +decide only [go_sem, ↓reduceIte] <;> rfl) | fail) only [go_sem, ↓reduceIte]) ?_
 obtain ⟨M, hM⟩ : ∃ M, Qal l R = M := ⟨_, rfl⟩
 rw [hM] at hB ⊢
 refine Qby (by repeat (first | exact Qz | exact Qq | exact Qr | exact Qt | exact Qu | apply Qp | apply Qy | apply Q4 | apply Q9 | apply Qaa | apply Qn | apply Q3)) [(2, 3), (5, 6), (8, 9), (33, 80), (2000000, 2000001)] [8, 46, 47, 52, 900] (fun q J hp => ∃ k, q = 2 * R - k /\ k <= 2 * R /\ J 2 = .ms 900 (Qbs R M k).2.length /\ J 3 = .np 2000001 0 0 /\ J 5 = .nso 2000000 0 R /\ J 33 = .int .i64 (k : Nat) /\ J 2000000 = .nst 2000000 1 22 (Qac (Qat 3000000 R R id)) /\ J 2000001 = .nst 2000001 3 24 [Qx4 R (Qbs R M k).2.length] /\
   hp 2000000 = some ⟨1, 22, [], false⟩ /\ hp 2000001 = some ⟨3, 24, [], false⟩ /\ hp 2000002 = some ⟨3, 32, (Qef R (Qbs R M k).2).map PV.rat, false⟩ /\ hp 900 = some ⟨3, 32, ((Qbs R M k).2.map (·.1)).map PV.rat, false⟩ /\
   ∀ r, r < R -> hp (3000000 + r) = some ⟨3, 32, Qw PV.rat ((Qbs R M k).1 r) R, false⟩) (2 * R) ?_ ?_
 ·refine ⟨0, rfl, by omega, ?_⟩
  simp +decide (disch := first | omega | rfl | (simp +decide only [go_sem, ↓reduceIte, Qcb, Qfz, Qa8] <;> rfl) | fail) only [go_sem, ↓reduceIte, Qcb, Qfz, Qa8]
  refine ⟨rfl, rfl, ?_, Qg5, rfl, rfl, fun r hr => Qfg hr⟩
  simp [Qbs]
 rintro _ J h ⟨k, rfl, hk, j2, j3, j5, j33, jg, jb, h0, h1, h2, h9, hrow⟩
 simp +decide (disch := first | omega | rfl | (simp +decide only [go_sem, ↓reduceIte, j33] <;> rfl) | fail) only [go_sem, ↓reduceIte, j33]
 refine Qb (fun hc => ?_) (fun hc => ?_)
 ·have hk' : k < 2 * R := by omega
  have hBk := hB k hk
  have hlk := Qnx R M k
  have hfl := Qi1 R (Qbs R M k).2
  have hn1 : (Qbs R M (k + 1)).1 = Qjj (Qbs R M k).1 (Qev (Qbs R M k).1 R) := rfl
  have hn2 : (Qbs R M (k + 1)).2 = (Qbs R M k).2 ++ Qev (Qbs R M k).1 R := rfl
  obtain ⟨E, hE⟩ : ∃ E, Qbs R M k = E := ⟨_, rfl⟩
  rw [hE] at hBk hlk hfl hn1 hn2 j2 jb h2 h9 hrow
  obtain ⟨N, fs⟩ := E
  simp only at hBk hlk hfl hn1 hn2 j2 jb h2 h9 hrow
  have hnl := Qmn N R
  have hx2 := Qadn (K := K) (ty := 22) (tyr := 32) hR2 (by omega) hBk.1
  simp +decide (disch := first | omega | rfl | (simp +decide only [go_sem, ↓reduceIte, j2, j3, j5, jg, jb] <;> rfl) | fail) only [go_sem, ↓reduceIte, j2, j3, j5, jg, jb]
  refine Qwb (ys := fun r => Qw PV.rat (N r) R) hP (by omega) hx2 (by simp [Qpp]) (by simp +decide (disch := first | omega | rfl | (simp +decide only [go_sem, ↓reduceIte, jg] <;> rfl) | fail) only [go_sem, ↓reduceIte, jg]) h0 hrow ?_
  obtain ⟨L, hL⟩ : ∃ L, Qev N R = L := ⟨_, rfl⟩
  rw [hL] at hBk hnl hn1 hn2 ⊢
  simp +decide (disch := first | omega | rfl | (simp +decide only [go_sem, ↓reduceIte, j2, j3, j5, jg, jb] <;> rfl) | fail) only [go_sem, ↓reduceIte, j2, j3, j5, jg, jb]
  refine Qby (by repeat (first | exact Qz | exact Qq | exact Qr | exact Qt | exact Qu | apply Qp | apply Qy | apply Q4 | apply Q9 | apply Qaa | apply Qn | apply Q3)) [(2, 3), (5, 5), (8, 9), (39, 79), (2000000, 2000001)] [8, 46, 47, 52, 900] (fun q J hp => ∃ i, q = L.length - i /\ i <= L.length /\ J 2 = .ms 900 (fs ++ L.take i).length /\ J 3 = .np 2000001 0 0 /\ J 5 = .nso 2000000 0 R /\ J 39 = .int .i64 (i : Nat) /\ J 2000000 = .nst 2000000 1 22 (Qac (Qat 3000000 R R id)) /\ J 2000001 = .nst 2000001 3 24 [Qx4 R (fs ++ L.take i).length] /\
   hp 2000000 = some ⟨1, 22, [], false⟩ /\ hp 2000001 = some ⟨3, 24, [], false⟩ /\ hp 2000002 = some ⟨3, 32, (Qef R (fs ++ L.take i)).map PV.rat, false⟩ /\ hp 900 = some ⟨3, 32, ((fs ++ L.take i).map (·.1)).map PV.rat, false⟩ /\
   ∀ r, r < R -> hp (3000000 + r) = some ⟨3, 32, Qw PV.rat (Qjj N (L.take i) r) R, false⟩) L.length ?_ ?_
  ·refine ⟨0, rfl, by omega, ?_⟩
   simp +decide (disch := first | omega | rfl | (simp +decide only [go_sem, ↓reduceIte, j2, j3, j5, jg, jb, h0, h1, h2, h9] <;> rfl) | fail) only [go_sem, ↓reduceIte, j2, j3, j5, jg, jb, h0, h1, h2, h9]
   simp only [List.append_nil]
   exact ⟨trivial, rfl, trivial, trivial, trivial, hrow⟩
  rintro _ J1 g ⟨i, rfl, hi, i2, i3, i5, i39, ig, ib, g0, g1, g2, g9, growr⟩
  simp +decide (disch := first | omega | rfl | (simp +decide only [go_sem, ↓reduceIte, i39] <;> rfl) | fail) only [go_sem, ↓reduceIte, i39]
  refine Qb (fun hci => ?_) (fun hci => ?_)
  ·have hi' : i < L.length := by omega
   have htk : L.take (i + 1) = L.take i ++ [L[i]] := List.take_succ_eq_append_getElem hi'
   have hfb := hBk.2.1 _ (List.getElem_mem hi')
   have hMb := hBk.2.2 i hi
   have hll : (fs ++ L.take i).length <= 200 := by
    rw [List.length_append, List.length_take]; omega
   have hfl2 := Qi1 R (fs ++ L.take i)
   generalize hf : L[i] = f at *
   have hsn := Qx0 N (L.take i) f
   have hfsn := Qx1 R (fs ++ L.take i) f
   have hTk : fs ++ L.take (i + 1) = (fs ++ L.take i) ++ [f] := by rw [htk, <- List.append_assoc]
   rw [<- htk] at hsn
   generalize hT : fs ++ L.take i = T at *
   generalize hZ : Qjj N (L.take i) = Z at *
   have hTR : T.length * R <= 200 * 40 := Nat.mul_le_mul hll hR2
   have hrl : (Qw PV.rat f.2 R).length = R := Qaq _ _ _
   simp +decide (disch := first | omega | rfl | (simp +decide only [go_sem, ↓reduceIte, i2, i3, i5, i39, ig, ib, g0, g1, g2, g9, hf] <;> rfl) | fail) only [go_sem, ↓reduceIte, i2, i3, i5, i39, ig, ib, g0, g1, g2, g9, hf]
   rw [Qbz (f := PV.rat) (y := f.1) (xs := T.map (·.1)) (ty' := 32) (fz := false) (by simp +decide (disch := first | omega | rfl | (simp +decide only [go_sem, ↓reduceIte, g9] <;> rfl) | fail) only [go_sem, ↓reduceIte, g9]) (by simp +decide (disch := first | omega | rfl | (simp +decide only [go_sem, ↓reduceIte] <;> rfl) | fail) only [go_sem, ↓reduceIte]) (by omega) (by simp) (by omega) (by omega)]
   simp +decide (disch := first | omega | rfl | (simp +decide only [go_sem, ↓reduceIte, i2, i3, i5, i39, ig, ib, g0, g1, g2, g9] <;> rfl) | fail) only [go_sem, ↓reduceIte, i2, i3, i5, i39, ig, ib, g0, g1, g2, g9]
   rw [Qadf (xs := (Qef R T).map PV.rat) (by simp +decide (disch := first | omega | rfl | (simp +decide only [go_sem, ↓reduceIte, g2] <;> rfl) | fail) only [go_sem, ↓reduceIte, g2]) (by omega) (by rw [List.length_map, hfl2]) (Qqq hR0) (by rw [hrl]; omega) (by rw [hrl]; omega) (by omega), hrl]
   simp +decide (disch := first | omega | rfl | (simp +decide only [go_sem, ↓reduceIte, i2, i3, i5, i39, ig, ib, g0, g1, g2, g9] <;> rfl) | fail) only [go_sem, ↓reduceIte, i2, i3, i5, i39, ig, ib, g0, g1, g2, g9]
   obtain ⟨g8, hg8⟩ : ∃ g8, g8 = HB.mk 4 109 [PV.form R f] false := ⟨_, rfl⟩
   refine Qby (by repeat (first | exact Qz | exact Qq | exact Qr | exact Qt | exact Qu | apply Qp | apply Qy | apply Q4 | apply Q9 | apply Qaa | apply Qn | apply Q3)) [(3, 3), (5, 5), (9, 9), (60, 78), (2000000, 2000001)] [] (fun q J hp => ∃ r, q = R - r /\ r <= R /\ J 3 = .np 2000001 0 0 /\ J 5 = .nso 2000000 0 R /\ J 60 = .int .i64 (r : Nat) /\ J 2000000 = .nst 2000000 1 22 (Qac (Qat 3000000 R R id)) /\ J 2000001 = .nst 2000001 3 24 [Qx4 R (T.length + 1)] /\
    hp 2000000 = some ⟨1, 22, [], false⟩ /\ hp 2000001 = some ⟨3, 24, [], false⟩ /\ hp 2000002 = some ⟨3, 32, (Qef R (T ++ [f])).map PV.rat, false⟩ /\ hp 900 = some ⟨3, 32, ((T ++ [f]).map (·.1)).map PV.rat, false⟩ /\ hp 8 = some g8 /\
    ∀ r', r' < R -> hp (3000000 + r') = some ⟨3, 32, Qw PV.rat (if r' < r then Qxz Z f r' else Z r') R, false⟩) R ?_ ?_
   ·refine ⟨0, rfl, by omega, ?_⟩
    simp +decide (disch := first | omega | rfl | (simp +decide only [go_sem, ↓reduceIte, i2, i3, i5, i39, ig, ib, g0, g1, g2, g9] <;> rfl) | fail) only [go_sem, ↓reduceIte, i2, i3, i5, i39, ig, ib, g0, g1, g2, g9]
    refine ⟨rfl, ?_, ?_, ?_, hg8.symm, fun r' hr' => ?_⟩
    ·have e1 : T.length * R + R = (T.length + 1) * R := by rw [Nat.add_mul, Nat.one_mul]
     rw [e1]
    ·rw [hfsn, List.map_append, Qg4]
    ·simp
    ·rw [if_neg (by omega)]; exact growr r' hr'
   rintro _ J2 e ⟨r, rfl, hr, k3, k5, k60, kg, kb, e0, e1, e2, e9, e8, erow⟩
   simp +decide (disch := first | omega | rfl | (simp +decide only [go_sem, ↓reduceIte, k60] <;> rfl) | fail) only [go_sem, ↓reduceIte, k60]
   refine Qb (fun hcr => ?_) (fun hcr => ?_)
   ·have hr' : r < R := by omega
    have er := erow r hr'
    rw [if_neg (Nat.lt_irrefl r)] at er
    simp +decide (disch := first | omega | rfl | (simp +decide only [go_sem, ↓reduceIte, k3, k5, k60, kg, kb, e0, e1, e2, e9, e8, hg8, er, id] <;> rfl) | fail) only [go_sem, ↓reduceIte, k3, k5, k60, kg, kb, e0, e1, e2, e9, e8, hg8, er, id]
    have hm := Qfe f.1 (f.2 r)
    have hfr := hfb.2 r hr'
    refine Qa hP (Qna (a := f.1) (b := f.2 r) (k := K) hfb.1 hfr (by omega)) rfl rfl rfl ?_
    simp +decide (disch := first | omega | rfl | (simp +decide only [go_sem, ↓reduceIte, k3, k5, k60, kg, kb, e0, e1, e2, e9, e8, hg8, er, id] <;> rfl) | fail) only [go_sem, ↓reduceIte, k3, k5, k60, kg, kb, e0, e1, e2, e9, e8, hg8, er, id]
    have sub := Qvk (w := R) (x := Z r) (y := f.2) (c := f.1 * f.2 r) (ty1 := 32) (k := 2 * K) hR0 (by omega) (fun c hc => by have := hMb r hr' c hc; omega) (fun c hc => by have := hfb.2 c hc; omega) (by omega) (by omega)
    refine Q98 hP sub er rfl (Qqq hR0) (by simp [isB]; omega) (by simp +decide (disch := first | omega | rfl | (simp +decide only [go_sem, ↓reduceIte] <;> rfl) | fail) only [go_sem, ↓reduceIte]) (fun γ hγ => by simpa [PV.refs, PV.sref] using hγ) (by simp) ?_
    rintro _ xs _ ⟨rfl, rfl⟩
    simp +decide (disch := first | omega | rfl | (simp +decide only [go_sem, ↓reduceIte, k60] <;> rfl) | fail) only [go_sem, ↓reduceIte, k60]
    refine Qaz (R - (r + 1)) (by omega) ⟨r + 1, rfl, by omega, ?_⟩
    simp +decide (disch := first | omega | rfl | (simp +decide only [go_sem, ↓reduceIte, k3, k5, kg, kb, e0, e1, e2, e9, e8] <;> rfl) | fail) only [go_sem, ↓reduceIte, k3, k5, kg, kb, e0, e1, e2, e9, e8]
    refine ⟨hg8, fun r' hr2 => ?_⟩
    by_cases e3 : r' = r
    ·subst e3
     rw [if_pos rfl, if_pos (by omega)]
     rfl
    ·rw [if_neg e3, erow r' hr2]
     by_cases e4 : r' < r
     ·rw [if_pos e4, if_pos (by omega)]
     ·rw [if_neg e4, if_neg (by omega)]
   ·have hrR : r = R := by omega
    subst hrR
    rw [Qbk]
    rotate_left
    ·decide
    simp +decide (disch := first | omega | rfl | (simp +decide only [go_sem, ↓reduceIte, i39] <;> rfl) | fail) only [go_sem, ↓reduceIte, i39]
    refine Qaz (L.length - (i + 1)) (by omega) ⟨i + 1, rfl, by omega, ?_⟩
    rw [hTk, hsn]
    simp +decide (disch := first | omega | rfl | (simp +decide only [go_sem, ↓reduceIte, i2, k3, k5, kg, kb, e0, e1, e2, e9] <;> rfl) | fail) only [go_sem, ↓reduceIte, i2, k3, k5, kg, kb, e0, e1, e2, e9]
    rw [List.length_append]
    exact ⟨rfl, rfl, fun r' hr' => by rw [erow r' hr', if_pos hr']⟩
  ·have hiL : i = L.length := by omega
   subst hiL
   rw [List.take_length] at i2 ib g2 g9 growr
   simp (disch := decide) only [Qbk, Qbr, Qb7, Qb6]
   simp +decide (disch := first | omega | rfl | (simp +decide only [go_sem, ↓reduceIte, j33] <;> rfl) | fail) only [go_sem, ↓reduceIte, j33]
   refine Qaz (2 * R - (k + 1)) (by omega) ⟨k + 1, rfl, by omega, ?_⟩
   rw [hn1, hn2]
   simp +decide (disch := first | omega | rfl | (simp +decide only [go_sem, ↓reduceIte, i2, i3, i5, ig, ib, g0, g1, g2, g9] <;> rfl) | fail) only [go_sem, ↓reduceIte, i2, i3, i5, ig, ib, g0, g1, g2, g9]
   exact growr
 ·have hkR : k = 2 * R := by omega
  subst hkR
  simp +decide (disch := first | omega | rfl | (simp +decide only [go_sem, ↓reduceIte, j2, j3, j5, jg, jb, h0, h1, h2, h9] <;> rfl) | fail) only [go_sem, ↓reduceIte, j2, j3, j5, jg, jb, h0, h1, h2, h9]
  have hfl := Qi1 R (Qbs R M (2 * R)).2
  have hml : (Qef R (Qbs R M (2 * R)).2).map PV.rat = (Qef R (Qbs R M (2 * R)).2).map PV.rat := rfl
  refine Q97 82 2 [2000002] (p := Qx4 R (Qbs R M (2 * R)).2.length) (by simp +decide (disch := first | omega | rfl | (simp +decide only [go_sem, ↓reduceIte] <;> rfl) | fail) only [go_sem, ↓reduceIte]) (D := PV.mat (Qbs R M (2 * R)).2.length R (Qef R (Qbs R M (2 * R)).2)) ?_ ?_ rfl ?_
  ·intro c hc
   simp only [List.mem_cons, List.not_mem_nil, or_false] at hc
   rcases hc with rfl | rfl | rfl
   ·trivial
   ·trivial
   ·simp only [okD, isY]; simp
  ·show PV.agg [_, _, dsn _ h 2 (.mso 2000002 0 _)] = _
   simp only [dsn, h2, List.drop_zero]
   rw [List.take_of_length_le (by rw [List.length_map, hfl]; omega)]
  simp +decide (disch := first | omega | rfl | (simp +decide only [go_sem, ↓reduceIte, j2, j3, jb, h1, h9, Ql, List.contains_cons, List.contains_nil, List.flatMap_cons, List.flatMap_nil, List.append_nil] <;> rfl) | fail) only [go_sem, ↓reduceIte, j2, j3, jb, h1, h9, Ql, List.contains_cons, List.contains_nil, List.flatMap_cons, List.flatMap_nil, List.append_nil]
  refine Q8d (Qade (γ := 2000001) (e := 3) (ty := 24) (xs := [PV.mat (Qbs R M (2 * R)).2.length R (Qef R (Qbs R M (2 * R)).2)]) 3 (by simp +decide (disch := first | omega | rfl | (simp +decide only [go_sem, ↓reduceIte] <;> rfl) | fail) only [go_sem, ↓reduceIte]) (by simp +decide (disch := first | omega | rfl | (simp +decide only [go_sem, ↓reduceIte, j3] <;> rfl) | fail) only [go_sem, ↓reduceIte, j3] <;> rfl) rfl (fun x hx => by rw [List.mem_singleton.1 hx]; exact ⟨rfl, rfl, fun c hc => by
   simp only [PV.ncells, PV.cells, List.mem_cons, List.not_mem_nil, or_false] at hc
   rcases hc with rfl | rfl | rfl <;> rfl⟩)) ?_
  refine Qad1 ?_
  simp +decide (disch := first | omega | rfl | (simp +decide only [go_sem, ↓reduceIte, h9, Ql, List.contains_cons, List.contains_nil, List.flatMap_cons, List.flatMap_nil, List.append_nil] <;> rfl) | fail) only [go_sem, ↓reduceIte, h9, Ql, List.contains_cons, List.contains_nil, List.flatMap_cons, List.flatMap_nil, List.append_nil]
  rw [List.take_of_length_le (by simp)]
  exact Qk2 rfl rfl rfl rfl (Qo _) (Qo _) (Qo _)
end Go.Proofs.YtmnkngmmfnncoaaGreat
namespace Go.Proofs.YtmnkngmmfnncoaaGreat
open Go Go.FW
set_option linter.unusedSimpArgs false
set_option linter.unusedVariables false
set_option maxRecDepth 100000
theorem Qpu {xs : List Int} (hl : xs.length <= 1000) (hx : ∀ x ∈ xs, -9223372036854775808 <= x /\ x <= 9223372036854775807) : Qd Tryz.prog 76 [.sl 1 (Qn6 xs)] (· = PV.rats (xs.map fun x : Int => (x : Rat))) := by
 refine Qg Qm Tryz.func76 rfl Qacy (by simp [c76]) fun C hP => ?_; simp only [c76]
 simp +decide (disch := first | omega | rfl | (simp +decide only [go_sem, ↓reduceIte] <;> rfl) | fail) only [go_sem, ↓reduceIte]
 refine Qfo 3 900 3 32 (by omega) (by simp +decide (disch := first | omega | rfl | (simp +decide only [go_sem, ↓reduceIte] <;> rfl) | fail) only [go_sem, ↓reduceIte]) ?_
 refine Qai (by repeat (first | exact Qz | exact Qq | exact Qr | exact Qt | exact Qu | apply Qp | apply Qy | apply Q4 | apply Q9 | apply Qaa | apply Qn | apply Q3)) [(3, 18)] [17, 18, 900] (fun n J hp => ∃ i, n = xs.length - i /\ i <= xs.length /\ J 3 = .ms 900 i /\ J 4 = .int .i64 (i : Nat) /\ hp 900 = some ⟨3, 32, ((xs.take i).map fun x : Int => (x : Rat)).map PV.rat, false⟩) xs.length ?_ ?_
 ·refine ⟨0, rfl, by omega, ?_⟩
  simp +decide (disch := first | omega | rfl | (simp +decide only [go_sem, ↓reduceIte] <;> rfl) | fail) only [go_sem, ↓reduceIte]
  rfl
 rintro _ J h ⟨i, rfl, hi, h3, h4, hh⟩
 simp +decide (disch := first | omega | rfl | (simp +decide only [go_sem, ↓reduceIte, h3, h4] <;> rfl) | fail) only [go_sem, ↓reduceIte, h3, h4]
 refine Qb (fun hg => ?_) (fun hg => ?_)
 ·have hi' : i < xs.length := by omega
  have htk : xs.take (i + 1) = xs.take i ++ [xs[i]] := List.take_succ_eq_append_getElem hi'
  have hb := hx _ (List.getElem_mem hi')
  generalize hz : xs[i] = z at *
  simp +decide (disch := first | omega | rfl | (simp +decide only [go_sem, ↓reduceIte, h3, h4, hz] <;> rfl) | fail) only [go_sem, ↓reduceIte, h3, h4, hz]
  refine Qa hP (Qh7 (x := z) hb.1 hb.2) rfl rfl rfl ?_
  simp +decide (disch := first | omega | rfl | (simp +decide only [go_sem, ↓reduceIte, h3, h4, hz] <;> rfl) | fail) only [go_sem, ↓reduceIte, h3, h4, hz]
  rw [Qbz (f := PV.rat) (y := (z : Rat)) (xs := (xs.take i).map fun x : Int => (x : Rat)) (ty' := 32) (fz := false) (by simp +decide (disch := first | omega | rfl | (simp +decide only [go_sem, ↓reduceIte, hh] <;> rfl) | fail) only [go_sem, ↓reduceIte, hh]) (by simp +decide (disch := first | omega | rfl | (simp +decide only [go_sem, ↓reduceIte] <;> rfl) | fail) only [go_sem, ↓reduceIte]) (by omega) (by rw [List.length_map, List.length_take]; omega) (by omega) (by omega)]
  simp +decide (disch := first | omega | rfl | (simp +decide only [go_sem, ↓reduceIte, h3, h4] <;> rfl) | fail) only [go_sem, ↓reduceIte, h3, h4]
  refine Qab (xs.length - (i + 1)) (by omega) ⟨i + 1, rfl, by omega, ?_⟩
  simp +decide (disch := first | omega | rfl | (simp +decide only [go_sem, ↓reduceIte] <;> rfl) | fail) only [go_sem, ↓reduceIte]
  rw [htk]
  simp
 ·obtain rfl : i = xs.length := by omega
  simp +decide (disch := first | omega | rfl | (simp +decide only [go_sem, ↓reduceIte, h3, hh, Ql, List.contains_cons, List.contains_nil, List.flatMap_cons, List.flatMap_nil, List.append_nil] <;> rfl) | fail) only [go_sem, ↓reduceIte, h3, hh, Ql, List.contains_cons, List.contains_nil, List.flatMap_cons, List.flatMap_nil, List.append_nil]
  refine Qc ?_ rfl
  rw [List.take_of_length_le (i := xs.length) (by simp)]; simp [PV.rats]
theorem alD : Qft 2 (Qal [0, 1, 1, 0] 2) = -1 := by decide +kernel
theorem alE : Qjx 1000 2 2 2 (Qal [0, 1, 1, 0] 2) := by unfold Qjx MBd; decide +kernel
theorem alR : Q5t 1000 2 4 (Qal [0, 1, 1, 0] 2) := by unfold Q5t MBd; decide +kernel
theorem alS : Qum (Qal [0, 1, 1, 0] 2) 2 := by decide +kernel
theorem alW : ((Qbs 2 (Qal [0, 1, 1, 0] 2) 4).2.map (·.1)) = [((1 : Int) : Rat) / ((2 : Int) : Rat), ((-1 : Int) : Rat) / ((2 : Int) : Rat)] := by decide +kernel
theorem alF : Qef 2 (Qbs 2 (Qal [0, 1, 1, 0] 2) 4).2 = (([1, 1, -1, 1] : List Int).map fun x : Int => (x : Rat)) := by decide +kernel
theorem alL : (Qbs 2 (Qal [0, 1, 1, 0] 2) 4).2.length = 2 := by decide +kernel
theorem Q1f {k : Nat} {l : List Rat} (h : ∀ q ∈ l, rs q <= k) : RRk k (l.map qR) := RRk.of h
theorem Qmp {l : List Rat} {k : Nat} (h : ∀ q ∈ l, rs q <= k) (hk : k < 2 ^ 34) (ll : l.length < 2 ^ 40) : Qd Tryz.prog 33 [PV.rats l, PV.rats l] (· = .bool true) := by
 have := Qvh (a := l.map qR) (b := l.map qR) (Q1f h) (Q1f h) hk (by simpa using ll) (by simpa using ll)
 rw [decide_eq_true rfl, <- Qt3] at this
 exact this
theorem Q5z {R m : Nat} {l : List Rat} (hl : l.length = R * m) (hR : R <= 40) (hm : m <= 40) : Qsb R m (l.map qR) = .tup [PV.mat R m l, .int .i64 0] := by
 have h := Qmg hl hR hm
 unfold Qbt at h
 rw [Bool.and_eq_true, decide_eq_true_eq] at h
 unfold Qsb
 rw [if_pos (by omega), if_pos h.1.2.2.2.2, if_pos h.2, Qt4]
theorem Qun : Qd Tryz.prog 15 [] (· = .bool true) := by
 have n1 := Qpu (xs := [0, 1, 1, 0]) (by simp) (by simp)
 have n2 := Qpu (xs := [1, 1, -1, 1]) (by simp) (by simp)
 have s1 : ∀ q ∈ ([0, 1, 1, 0] : List Int).map fun x : Int => (x : Rat), rs q <= 10 := by decide +kernel
 have s2 : ∀ q ∈ ([1, 1, -1, 1] : List Int).map fun x : Int => (x : Rat), rs q <= 10 := by decide +kernel
 have s3 : ∀ q ∈ [((1 : Int) : Rat) / ((2 : Int) : Rat), ((-1 : Int) : Rat) / ((2 : Int) : Rat)], rs q <= 10 := by decide +kernel
 have f1 := Qml (x := 1) (y := 2) (by omega) (by omega) (by omega)
 have f2 := Qml (x := -1) (y := 2) (by omega) (by omega) (by omega)
 have o1 := Qh7 (x := -1) (by omega) (by omega)
 have hmk := Qadd (r := 2) (c := 2) (l := (([0, 1, 1, 0] : List Int).map fun x : Int => (x : Rat)).map qR) ⟨by simp, RRk.of fun q hq => by have := s1 q hq; omega⟩
 rw [<- Qt3] at hmk
 rw [show (2 : Int) = ((2 : Nat) : Int) from rfl, Q5z (R := 2) (m := 2) rfl (by omega) (by omega)] at hmk
 have hdet := Q6e (R := 2) (K := 1000) (l := [0, 1, 1, 0]) rfl (by omega) (fun q hq => by have := s1 q hq; omega) (by omega) alE
 have hred := Q5y (R := 2) (K := 1000) (l := [0, 1, 1, 0]) rfl (by omega) (by omega) (fun q hq => by have := s1 q hq; omega) (by omega) alR alS
 rw [alD] at hdet
 rw [show 2 * 2 = 4 from rfl, redA, alW, alF, alL] at hred
 rw [show ([0, 1, 1, 0] : List Rat) = (([0, 1, 1, 0] : List Int).map fun x : Int => (x : Rat)) from rfl] at hdet hred
 have eq1 := Qxr (a := -1) (b := -1) (k := 10) (by decide +kernel) (by decide +kernel) (by omega)
 have sm1 := Qmp s3 (by omega) (by simp)
 have sm2 := Qmp s2 (by omega) (by simp)
 rw [show ((-1 : Int) : Rat) = -1 from rfl] at o1
 rw [decide_eq_true rfl] at eq1
 obtain ⟨lA, hA⟩ : ∃ l, (([0, 1, 1, 0] : List Int).map fun x : Int => (x : Rat)) = l := ⟨_, rfl⟩
 obtain ⟨lB, hB⟩ : ∃ l, (([1, 1, -1, 1] : List Int).map fun x : Int => (x : Rat)) = l := ⟨_, rfl⟩
 obtain ⟨q1, hq1⟩ : ∃ q, ((1 : Int) : Rat) / ((2 : Int) : Rat) = q := ⟨_, rfl⟩
 obtain ⟨q2, hq2⟩ : ∃ q, ((-1 : Int) : Rat) / ((2 : Int) : Rat) = q := ⟨_, rfl⟩
 obtain ⟨q3, hq3⟩ : ∃ q, (-1 : Rat) = q := ⟨_, rfl⟩
 rw [hA] at n1 hmk hdet hred
 rw [hB] at n2 hred sm2
 rw [hq1] at f1 hred sm1
 rw [hq2] at f2 hred sm1
 rw [hq3] at o1 eq1 hdet
 clear hA hB s1 s2 s3
 refine Qg Qm Tryz.func15 rfl Qacz (by simp [c15]) fun C hP => ?_; simp only [c15]
 simp +decide (disch := first | omega | rfl | (simp +decide only [go_sem, ↓reduceIte] <;> rfl) | fail) only [go_sem, ↓reduceIte]
 rw [Qkg (by rfl) (by simp [PV.cells]) (by omega)]
 simp +decide (disch := first | omega | rfl | (simp +decide only [go_sem, ↓reduceIte, Ql, List.contains_cons, List.contains_nil, List.flatMap_cons, List.flatMap_nil, List.append_nil] <;> rfl) | fail) only [go_sem, ↓reduceIte, Ql, List.contains_cons, List.contains_nil, List.flatMap_cons, List.flatMap_nil, List.append_nil]
 refine Qc6 hP n1 (by simp +decide (disch := first | omega | rfl | (simp +decide only [go_sem, ↓reduceIte, Ql, List.contains_cons, List.contains_nil, List.flatMap_cons, List.flatMap_nil, List.append_nil] <;> rfl) | fail) only [go_sem, ↓reduceIte, Ql, List.contains_cons, List.contains_nil, List.flatMap_cons, List.flatMap_nil, List.append_nil] <;> rfl) rfl ?_
 simp +decide (disch := first | omega | rfl | (simp +decide only [go_sem, ↓reduceIte, Ql, List.contains_cons, List.contains_nil, List.flatMap_cons, List.flatMap_nil, List.append_nil] <;> rfl) | fail) only [go_sem, ↓reduceIte, Ql, List.contains_cons, List.contains_nil, List.flatMap_cons, List.flatMap_nil, List.append_nil]
 repeat' first
  | refine Qcr ?_ ?_
  | rw [Qkg (by rfl) (by simp [PV.cells]) (by omega)]
  | refine Qa hP hmk rfl rfl rfl ?_
  | refine Qa hP hdet rfl rfl rfl ?_
  | refine Qa hP hred rfl rfl rfl ?_
  | refine Qa hP o1 rfl rfl rfl ?_
  | refine Qa hP eq1 rfl rfl rfl ?_
  | refine Qa hP f1 rfl rfl rfl ?_
  | refine Qa hP f2 rfl rfl rfl ?_
  | refine Qa hP sm2 rfl rfl rfl ?_
  | refine Qc6 hP sm1 (by simp +decide (disch := first | omega | rfl | (simp +decide only [go_sem, ↓reduceIte, Ql, List.contains_cons, List.contains_nil, List.flatMap_cons, List.flatMap_nil, List.append_nil] <;> rfl) | fail) only [go_sem, ↓reduceIte, Ql, List.contains_cons, List.contains_nil, List.flatMap_cons, List.flatMap_nil, List.append_nil] <;> rfl) rfl ?_
  | refine Qc6 hP n2 (by simp +decide (disch := first | omega | rfl | (simp +decide only [go_sem, ↓reduceIte, Ql, List.contains_cons, List.contains_nil, List.flatMap_cons, List.flatMap_nil, List.append_nil] <;> rfl) | fail) only [go_sem, ↓reduceIte, Ql, List.contains_cons, List.contains_nil, List.flatMap_cons, List.flatMap_nil, List.append_nil] <;> rfl) rfl ?_
  | simp +decide (disch := first | omega | rfl | (simp +decide only [go_sem, ↓reduceIte, Ql, List.contains_cons, List.contains_nil, List.flatMap_cons, List.flatMap_nil, List.append_nil] <;> rfl) | fail) only [go_sem, ↓reduceIte, Ql, List.contains_cons, List.contains_nil, List.flatMap_cons, List.flatMap_nil, List.append_nil]
 all_goals exact Qc rfl rfl
end Go.Proofs.YtmnkngmmfnncoaaGreat
namespace Go.Proofs.YtmnkngmmfnncoaaGreat
open Go Go.FW
set_option linter.unusedSimpArgs false
set_option linter.unusedVariables false
set_option maxRecDepth 100000
end Go.Proofs.YtmnkngmmfnncoaaGreat
namespace Go.Proofs.YtmnkngmmfnncoaaGreat
open Go Go.FW
set_option linter.unusedSimpArgs false
set_option linter.unusedVariables false
set_option maxRecDepth 100000
end Go.Proofs.YtmnkngmmfnncoaaGreat
namespace Go.Proofs.YtmnkngmmfnncoaaGreat
open Go Go.FW
set_option linter.unusedSimpArgs false
set_option linter.unusedVariables false
set_option maxRecDepth 100000
end Go.Proofs.YtmnkngmmfnncoaaGreat
namespace Go.Proofs.YtmnkngmmfnncoaaGreat
open Go Go.FW
set_option linter.unusedSimpArgs false
set_option linter.unusedVariables false
set_option maxRecDepth 100000
end Go.Proofs.YtmnkngmmfnncoaaGreat
namespace Go.Proofs.YtmnkngmmfnncoaaGreat
open Go Go.FW
set_option linter.unusedSimpArgs false
set_option linter.unusedVariables false
set_option maxRecDepth 100000
theorem Quo {n : Bool} {a d : List Nat} {k : Nat} (h : Raw k n a d) (hk : k < 2 ^ 36) : Qd Tryz.prog 20 [PV.rr n a d, PV.rr n a d] (· = .bool true) := by
 have := Qub h h hk
 rwa [decide_eq_true (show (n = n /\ a = a) /\ d = d from ⟨⟨rfl, rfl⟩, rfl⟩)] at this
end Go.Proofs.YtmnkngmmfnncoaaGreat
namespace Go.Proofs.YtmnkngmmfnncoaaGreat
open Go Go.FW
set_option linter.unusedSimpArgs false
set_option linter.unusedVariables false
set_option maxRecDepth 100000
abbrev I64' (x : Int) : Prop := -9223372036854775808 <= x /\ x <= 9223372036854775807
end Go.Proofs.YtmnkngmmfnncoaaGreat
namespace Go.Proofs.YtmnkngmmfnncoaaGreat
open Go Go.FW
set_option linter.unusedSimpArgs false
set_option linter.unusedVariables false
set_option maxRecDepth 100000
theorem Qx5 {r c : Int} {l : List RQ} (hl : Qcw l) (h : Qbt r c l = false) : Qd Tryz.prog 17 [PV.rmat r c l] (· = .tup [PV.rr false [] [], .int .i64 1]) := by
 refine Qg Qm Tryz.func17 rfl Qul (by simp [c17]) fun C hP => ?_; simp only [c17]
 simp +decide (disch := first | omega | rfl | (simp +decide only [go_sem, ↓reduceIte] <;> rfl) | fail) only [go_sem, ↓reduceIte]
 refine Qa hP (Qlo hl) rfl rfl rfl ?_
 rw [h]
 simp +decide (disch := first | omega | rfl | (simp +decide only [go_sem, ↓reduceIte] <;> rfl) | fail) only [go_sem, ↓reduceIte]
 refine Qcs ?_
 simp +decide (disch := first | omega | rfl | (simp +decide only [go_sem, ↓reduceIte] <;> rfl) | fail) only [go_sem, ↓reduceIte]
 exact Qcc rfl rfl rfl Qm8 (Qo _)
theorem Q1g {r c : Int} {l : List RQ} (hl : Qcw l) (h : Qbt r c l = true) (hne : r ≠ c) : Qd Tryz.prog 17 [PV.rmat r c l] (· = .tup [PV.rr false [] [], .int .i64 16]) := by
 refine Qg Qm Tryz.func17 rfl Qul (by simp [c17]) fun C hP => ?_; simp only [c17]
 simp +decide (disch := first | omega | rfl | (simp +decide only [go_sem, ↓reduceIte] <;> rfl) | fail) only [go_sem, ↓reduceIte]
 refine Qa hP (Qlo hl) rfl rfl rfl ?_
 rw [h]
 simp +decide (disch := first | omega | rfl | (simp +decide only [go_sem, ↓reduceIte, hne] <;> rfl) | fail) only [go_sem, ↓reduceIte, hne]
 refine Qcs ?_
 simp +decide (disch := first | omega | rfl | (simp +decide only [go_sem, ↓reduceIte] <;> rfl) | fail) only [go_sem, ↓reduceIte]
 exact Qcc rfl rfl rfl Qm8 (Qo _)
theorem Qvl {r c : Int} {l : List RQ} (hl : Qcw l) (h : Qbt r c l = false) : Qd Tryz.prog 19 [PV.rmat r c l] (· = .tup [.int .i64 0, .int .i64 1]) := by
 refine Qg Qm Tryz.func19 rfl Q1d (by simp [c19]) fun C hP => ?_; simp only [c19]
 simp +decide (disch := first | omega | rfl | (simp +decide only [go_sem, ↓reduceIte] <;> rfl) | fail) only [go_sem, ↓reduceIte]
 refine Qa hP (Qlo hl) rfl rfl rfl ?_
 rw [h]
 simp +decide (disch := first | omega | rfl | (simp +decide only [go_sem, ↓reduceIte] <;> rfl) | fail) only [go_sem, ↓reduceIte]
 exact Qcc rfl rfl rfl (Qo _) (Qo _)
theorem Q50 {l : List RQ} {n : Nat} (hl : Qcw l) (hs : Qdb l n = true) : l.length <= n /\ ∀ q ∈ l.map rqV, rs q <= 3 := by
 unfold Qdb at hs
 rw [Bool.and_eq_true, decide_eq_true_eq, List.all_eq_true] at hs
 refine ⟨hs.1, fun q hq => ?_⟩
 obtain ⟨x, hx, rfl⟩ := List.mem_map.1 hq
 have h1 := hs.2 x hx
 rw [Bool.and_eq_true, decide_eq_true_eq, decide_eq_true_eq] at h1
 have h2 := hl.2 x hx
 exact Qzx (n := 0) h2.la h2.ld h1.1 h1.2 (by omega)
theorem Qaaf {l : List Rat} {k m r c : Nat} (hk : 1 <= k) (h : ∀ q ∈ l, rs q <= k) : rs (Qal l m r c) <= k := by
 unfold Qal
 rw [List.getD_eq_getElem?_getD]
 cases hq : l[r * m + c]? with
 | none => have := Q24; show rs 0 <= k; omega
 | some q => exact h q (List.mem_of_getElem? hq)
theorem Qaag {R m : Nat} (h : R * m <= 25) : R <= 5 ∨ m <= 5 := by
 refine Classical.byContradiction fun hn => ?_
 have : 6 * 6 <= R * m := Nat.mul_le_mul (by omega) (by omega)
 omega
theorem Qew {r c : Int} {l : List RQ} {n : Bool} {a d : List Nat} {e1 x e2 : Int} (hl : Qcw l) (hr : Raw 1048576 n a d)
  (hm : Qdb l 25 = true -> Qd Tryz.prog 16 [PV.rmat r c l] (· = .tup [PV.rr n a d, .int .i64 e1]) /\ Qd Tryz.prog 17 [PV.rmat r c l] (· = .tup [PV.rr n a d, .int .i64 e1]) /\ Qd Tryz.prog 18 [PV.rmat r c l] (· = .tup [.int .i64 x, .int .i64 e2]) /\ Qd Tryz.prog 19 [PV.rmat r c l] (· = .tup [.int .i64 x, .int .i64 e2])) :
  Qd Tryz.prog 3 [PV.rmat r c l] (· = .bool true) := by
 have hsm := Q5s (l := [⟨r, c, l⟩]) (by simpa using hl) (by simp)
 have hsa := Quo hr (by omega)
 simp only [List.all_cons, List.all_nil, Bool.and_true] at hsm
 cases hq : Qdb l 25
 all_goals
  rw [hq] at hsm
  refine Qg Qm Tryz.func3 rfl Qaeh (by simp [c3]) fun C hP => ?_; simp only [c3]
  simp +decide (disch := first | omega | rfl | (simp +decide only [go_sem, ↓reduceIte] <;> rfl) | fail) only [go_sem, ↓reduceIte]
 ·repeat' first
   | refine Qcr ?_ ?_
   | refine Qa hP Qun rfl rfl rfl ?_
   | refine Qc6 hP hsm (by simp +decide (disch := first | omega | rfl | (simp +decide only [go_sem, ↓reduceIte, Ql, List.contains_cons, List.contains_nil, List.flatMap_cons, List.flatMap_nil, List.append_nil] <;> rfl) | fail) only [go_sem, ↓reduceIte, Ql, List.contains_cons, List.contains_nil, List.flatMap_cons, List.flatMap_nil, List.append_nil] <;> rfl) rfl ?_
   | simp +decide (disch := first | omega | rfl | (simp +decide only [go_sem, ↓reduceIte, Ql, List.contains_cons, List.contains_nil, List.flatMap_cons, List.flatMap_nil, List.append_nil] <;> rfl) | fail) only [go_sem, ↓reduceIte, Ql, List.contains_cons, List.contains_nil, List.flatMap_cons, List.flatMap_nil, List.append_nil]
  all_goals exact Qc rfl rfl
 ·obtain ⟨h1, h2, h3, h4⟩ := hm hq
  repeat' first
   | refine Qcr ?_ ?_
   | refine Qa hP Qun rfl rfl rfl ?_
   | refine Qa hP h1 rfl rfl rfl ?_
   | refine Qa hP h2 rfl rfl rfl ?_
   | refine Qa hP h3 rfl rfl rfl ?_
   | refine Qa hP h4 rfl rfl rfl ?_
   | refine Qa hP hsa rfl rfl rfl ?_
   | refine Qc6 hP hsm (by simp +decide (disch := first | omega | rfl | (simp +decide only [go_sem, ↓reduceIte, Ql, List.contains_cons, List.contains_nil, List.flatMap_cons, List.flatMap_nil, List.append_nil] <;> rfl) | fail) only [go_sem, ↓reduceIte, Ql, List.contains_cons, List.contains_nil, List.flatMap_cons, List.flatMap_nil, List.append_nil] <;> rfl) rfl ?_
   | simp +decide (disch := first | omega | rfl | (simp +decide only [go_sem, ↓reduceIte, Ql, List.contains_cons, List.contains_nil, List.flatMap_cons, List.flatMap_nil, List.append_nil] <;> rfl) | fail) only [go_sem, ↓reduceIte, Ql, List.contains_cons, List.contains_nil, List.flatMap_cons, List.flatMap_nil, List.append_nil]
  all_goals exact Qc rfl rfl
theorem Qpv {r c : Int} {l : List RQ} (h : I64' r /\ I64' c /\ Qcw l) : Qd Tryz.prog 3 [PV.rmat r c l] (· = .bool true) := by
 have hl := h.2.2
 have h0 : Raw 1048576 false [] [] := ⟨(fun x hx => by cases hx), (fun x hx => by cases hx), Nat.zero_le _, Nat.zero_le _, by omega⟩
 cases hok : Qbt r c l
 ·exact Qew hl h0 fun _ => ⟨Q1b hl hok, Qx5 hl hok, Qx2 hl hok, Qvl hl hok⟩
 obtain ⟨R, m, l', rfl, rfl, hR, hm, hl', hlen, hmat⟩ := Q8z hl hok
 have hE : Qdb l 25 = true -> (∀ q ∈ l', rs q <= 3) /\ Qjx 9375 R m m (Qal l' m) := fun hq => by
  obtain ⟨h1, h2⟩ := Q50 hl hq
  rw [<- hl'] at h2
  have h25 : R * m <= 25 := by rw [<- hlen, hl', List.length_map]; exact h1
  exact ⟨h2, Qaad (b := 3) (by omega) (fun r _ c _ => Qaaf (by omega) h2) (Nat.le_refl _) (Qaag h25)⟩
 by_cases hRm : R = m
 ·subst hRm
  cases hq : Qdb l 25
  ·exact Qew (n := false) (a := []) (d := []) (e1 := 0) (x := 0) (e2 := 0) hl h0 fun hq' => by rw [hq] at hq'; cases hq'
  ·obtain ⟨h2, hB⟩ := hE hq
   have hdr : rs (Qft R (Qal l' R)) <= 9375 := by
    unfold Qft
    split
    ·have := Q24; omega
    ·exact (hB R (Nat.le_refl _)).2
   refine Qew (n := decide ((Qft R (Qal l' R)).num < 0)) (a := dig (Qft R (Qal l' R)).num.natAbs) (d := dig (Qft R (Qal l' R)).den) (e1 := 0) (x := (Qpj R R (Qal l' R) : Nat)) (e2 := 0) hl (Qb8 (by omega)) fun _ => ?_
   have hs : ∀ q ∈ l', rs q <= 1048576 := fun q hq => by have := h2 q hq; omega
   rw [hmat]
   exact ⟨Q6e hlen hR hs (by omega) hB, Qadm hlen hR hs (by omega) hB, Q1a hlen hR hm hs (by omega) hB, Qwe hlen hR hm hs (by omega) hB⟩
 ·refine Qew (e1 := 16) (x := (Qpj R m (Qal l' m) : Nat)) (e2 := 0) hl h0 fun hq => ?_
  obtain ⟨h2, hB⟩ := hE hq
  have hs : ∀ q ∈ l', rs q <= 1048576 := fun q hq => by have := h2 q hq; omega
  refine ⟨Q5u hl hok (by omega), Q1g hl hok (by omega), ?_⟩
  rw [hmat]
  exact ⟨Q1a hlen hR hm hs (by omega) hB, Qwe hlen hR hm hs (by omega) hB⟩
end Go.Proofs.YtmnkngmmfnncoaaGreat
namespace Go.Proofs.YtmnkngmmfnncoaaGreat
open Go Go.FW Go.ChangeShapes Go.WideShapes Go.ChangeAt Go.RowKit
set_option linter.unusedSimpArgs false
set_option linter.unusedVariables false
set_option maxRecDepth 100000
theorem Qlq (H : Type) (enc : TypeId × Value -> H) (W : World) (base : Nat) (args : Array Value) (ds gs : List (DataW H)) (before : List MemPlace)
  (Qdg : ∀ (j : Nat) t v, Tryz.f3.params[j]? = some t -> args[j]? = some v -> Value.okWide Tryz.prog W .any base t v)
  (hW : DataW.Whole enc Tryz.prog Tryz.f3.params.toList Rows.matrixRanksSpec.vars false W args.toList ds gs before) (hk : Rows.uptoSmall H (ds ++ gs) = true) :
  Calls Tryz.prog 3 args W fun e W' => ∃ v, e = .returned v /\ Rows.matrixRanksSpec.post enc Tryz.prog Tryz.f3 false true false false W args v W' := by
 have hW' := hW
 obtain ⟨p, q, hA0, hV, rfl, hfz, hnd⟩ := hW
 have hA : DataW.TrodAll enc Tryz.prog W 0 (fun _ => true) true Tryz.f3.params.toList args.toList ds p := hA0
 rw [Tryz.params3] at hA Qdg
 obtain ⟨v0, vs0, e0, ds0, p0, q0, hargs, rfl, rfl, h0, r0⟩ := trodAll_cons hA
 obtain ⟨rfl, rfl, rfl⟩ := trodAll_nil r0
 obtain rfl : args = #[v0] := by cases args; simp_all
 obtain ⟨rfl, rfl⟩ := trodVars_none hV
 have hb := Q4q hk
 simp only [List.append_nil, Rows.uptoBulkAll] at hb
 obtain ⟨r0, c0, l0, g0, b0⟩ := Qxo (Qdg 0 _ v0 rfl rfl) h0 (by omega)
 exact Q0k hW' rfl (by kernel_rfl) (by kernel_rfl) rfl (Qpv b0) rfl
  (Q4r (vs := [v0]) (by
   intro i x hx v hv
   match i, hx, hv with
   | 0, hx, hv => simp at hx hv; subst hx hv; exact g0
   | i + 1, hx, hv => simp at hx) rfl)
theorem Qmq (os : Os) (started : os.Started) (H : Type) (enc : TypeId × Value -> H) (F : Stop.Interp) :
  ReturnsInHanded {} Tryz.checked os 3 .any ((Rows.OpenSpec.upto Rows.matrixRanksSpec).pre6 enc Tryz.prog Tryz.f3 Rows.matrixRanksUptoRow.domain false) (((Rows.OpenSpec.upto Rows.matrixRanksSpec).at F).post enc Tryz.prog Tryz.f3 false true false false) := by
 refine returnsInHanded_of_cond (C := Tryz.checked) (s := Rows.OpenSpec.upto Rows.matrixRanksSpec) (k := Rows.uptoSmall) rfl own started (by kernel_rfl) Tryz.func3
  (OpenSpec.witness (enc := enc) (C := Tryz.checked) (s := Rows.OpenSpec.upto Rows.matrixRanksSpec) (k := Rows.uptoSmall) rfl false ⟨#[], #[.agg #[.int .i64 0, .int .i64 0, .slice none 0 0]], []⟩ 8 (by kernel_rfl) (by kernel_rfl) (by kernel_rfl)
   (x := ([.agg [.lit (.int .i64 0), .lit (.int .i64 0), .nil]], [], [])) (by kernel_rfl) rfl (by kernel_rfl)) ?_
 intro W base args ds gs before Qdg hW _ hk _
 exact Qlq H enc W base args ds gs before Qdg hW hk
theorem matrixRanks_proved : Rows.MatrixRanksUptoSaid :=
 OpenClaim.holds_of_cond 3 Tryz.f3 rfl rfl rfl rfl rfl rfl rfl ⟨rfl, rfl, rfl, rfl, rfl⟩ rfl rfl rfl rfl rfl (by kernel_rfl) Tryz.func3 (by kernel_rfl)
  (of_decide_eq_true (by kernel_rfl)) (by unfold Func.isWrapper; first | (rw [if_pos (by decide +kernel)]; kernel_rfl) | (rw [if_neg (by decide +kernel)]; exact ⟨rfl, rfl⟩))
  (fun os started H enc _ F => Qmq os started H enc F)
end Go.Proofs.YtmnkngmmfnncoaaGreat
