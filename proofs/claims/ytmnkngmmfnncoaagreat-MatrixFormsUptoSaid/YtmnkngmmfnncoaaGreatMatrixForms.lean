/- MatrixForms holds, for arguments of bulk at most 1048576. -/
import Derived.Test.YtmnkngmmfnncoaaGreatMatrixFormsPart13
set_option linter.unusedSimpArgs false
set_option linter.unnecessarySimpa false
set_option linter.unusedVariables false
namespace Go.Proofs.YtmnkngmmfnncoaaGreat
open Go Go.FW
set_option linter.unusedSimpArgs false
set_option linter.unusedVariables false
set_option maxRecDepth 100000
end Go.Proofs.YtmnkngmmfnncoaaGreat
namespace Go.Proofs.YtmnkngmmfnncoaaGreat
open Go Go.FW
set_option linter.unusedSimpArgs false
set_option linter.unusedVariables false
set_option maxRecDepth 100000
end Go.Proofs.YtmnkngmmfnncoaaGreat
namespace Go.Proofs.YtmnkngmmfnncoaaGreat
open Go Go.FW
set_option linter.unusedSimpArgs false
set_option linter.unusedVariables false
set_option maxRecDepth 100000
def c30 : SFn := ⟨132, [.t 2, .cell 3 3 true, .t 4], Zr (Zo (.box 1 3 24 (.t 0)) <|
 Zo (.mv 2 (.c .nilS)) <|
 Zo (.alloc 3 3 24 (.agg [Zz 0, Zz 0, .nilS])) <|
 Zc 4 0 .nil) <| .seq (Zr (Zh 17 3 1 <|
 Zq 18 false 26 [.t 17] <|
 Zu 19 18 .nil) <| .cond (.t 19) (Zr (Zo (.bld 20 [Zz 0, Zz 0, .nilS] []) <|
 Zo (.mv 2 (.c .nilS)) <|
 Zs 3 3 20 <|
 Zc 4 1 .nil) .ret) .skip) <| .seq (Zr (Zf 21 0 1 <|
 Zl 22 1 21 <|
 Zf 23 1 1 <|
 Zl 24 1 23 <|
 Zb 25 .neq 22 24 <|
 Zm 26 25 <|
 Zg 26 false (.ld 27 3 true (.t 1)) <|
 Zg 26 false (.call (some 28) false (.c (.fn 95 [] [])) [.t 27]) <|
 Zg 26 false (.un 29 .not (.t 28)) <|
 Zo (.pick 30 (.t 26) (.c (.bool true)) (.t 29)) .nil) <| .cond (.t 30) (Zr (Zo (.bld 31 [Zz 0, Zz 0, .nilS] []) <|
 Zo (.mv 2 (.c .nilS)) <|
 Zs 3 3 31 <|
 Zc 4 16 .nil) .ret) .skip) <| Zr (Zh 32 3 1 <|
 Zq 33 false 80 [.t 32] <|
 Zm 5 33 .nil) <| Zr (Zo (.mv 6 (.c .nilS)) .nil) <| Zr (Zf 34 1 1 <|
 Zl 35 1 34 <|
 Zo (.bld 36 [Zz 0, Zz 0, .nilS] [(1, 1, .t 35)]) <|
 Zo (.alloc 7 3 24 (.agg [Zz 0, Zz 0, .nilS])) <|
 .wk <| .wk <| Zs 3 7 36 <|
 .wk .nil) <| .seq (.block 0 <| .loop <| .block 1 <| Zr (Zm 38 5 <|
 Zq 39 false 96 [.t 38] <|
 Zm 37 39 <|
 Zo (.ext 40 (.t 37) 0) <|
 Zo (.ext 41 (.t 37) 1) <|
 Zo (.ext 42 (.t 37) 2) <|
 Zm 8 40 <|
 Zm 9 41 <|
 Zm 10 42 .nil) <| .seq (Zr (Zm 43 10 <|
 Zu 44 43 .nil) <| .cond (.t 44) (.exit 0) .skip) <| Zr (Zm 45 5 <|
 Zm 46 8 <|
 Zi 47 1 45 46 <|
 Zl 48 1 47 <|
 Zm 49 9 <|
 Zi 50 3 48 49 <|
 Zh 51 3 50 <|
 Zo (.alloc 11 3 32 (.agg [.bool false, .nilS, .nilS])) <|
 Zs 3 11 51 .nil) <| Zr (Zm 52 5 <|
 Zm 53 8 <|
 Zi 54 1 52 53 <|
 Zl 55 1 54 <|
 Zh 56 3 11 <|
 Zq 57 false 97 [.t 55, .t 56] <|
 Zo (.bs 58 1 22 [.t 57]) <|
 Zm 12 58 .nil) <| Zr (Zh 59 3 11 <|
 Zo (.bs 60 3 32 [.t 59]) <|
 Zm 13 60 .nil) <| .seq (Zr (Zm 61 8 <|
 Zm 62 9 <|
 Zb 63 .neq 61 62 .nil) <| .cond (.t 63) (Zr (Zh 66 3 11 <|
 .br (Zq 65 true 71 [.c (Zz 1), .c (Zz 2)] <|
 .br (Zq 67 true 84 [.t 65, .t 66] <|
 Zm 64 67 <|
 Zo (.ext 68 (.t 64) 0) <|
 Zo (.ext 69 (.t 64) 1) <|
 Zo (.alloc 14 3 32 (.agg [.bool false, .nilS, .nilS])) <|
 Zs 3 14 68 <|
 Zm 15 69 .nil) (Zo (.alloc 14 3 32 (.agg [.bool false, .nilS, .nilS])) <|
 Zq 67 true 84 [.t 65, .t 66] <|
 Zm 64 67 <|
 Zo (.ext 68 (.t 64) 0) <|
 Zo (.ext 69 (.t 64) 1) <|
 Zs 3 14 68 <|
 Zm 15 69 .nil)) (Zo (.alloc 14 3 32 (.agg [.bool false, .nilS, .nilS])) <|
 Zq 65 true 71 [.c (Zz 1), .c (Zz 2)] <|
 Zq 67 true 84 [.t 65, .t 66] <|
 Zm 64 67 <|
 Zo (.ext 68 (.t 64) 0) <|
 Zo (.ext 69 (.t 64) 1) <|
 Zs 3 14 68 <|
 Zm 15 69 .nil)) <| Zr (Zm 70 5 <|
 Zm 71 8 <|
 Zi 72 1 70 71 <|
 Zl 73 1 72 <|
 Zm 74 5 <|
 Zm 75 9 <|
 Zi 76 1 74 75 <|
 Zl 77 1 76 <|
 Zm 80 5 <|
 Zm 81 8 <|
 Zi 82 1 80 81 <|
 Zl 83 1 82 <|
 Zm 84 5 <|
 Zm 85 9 <|
 Zi 86 1 84 85 <|
 Zl 87 1 86 <|
 Zq 78 true 34 [.c (Zz 1)] <|
 Zq 79 true 98 [.t 73, .t 77, .t 78] <|
 Zq 88 true 34 [.c (Zz (-1))] <|
 Zq 89 true 98 [.t 83, .t 87, .t 88] <|
 Zo (.bs 90 1 22 [.t 79, .t 89]) <|
 Zm 12 90 .nil) <| .rg (Zh 91 3 14 <|
 Zh 92 3 14 <|
 Zq 93 true 82 [.t 92] <|
 Zo (.bs 94 3 32 [.t 91, .t 93]) <|
 Zm 13 94 .nil)) .skip) <| Zr (Zc 16 0 .nil) <| .block 2 <| .loop <| .seq (Zr (Zm 95 16 <|
 Zm 96 12 <|
 Zn 97 96 <|
 Zb 98 .lss 95 97 .nil) <| .cond (.t 98) .skip (.exit 2)) <| .seq (.block 3 <| Zr (Zm 101 5 <|
 Zm 102 12 <|
 Zm 103 16 <|
 Zi 104 1 102 103 <|
 Zl 105 1 104 <|
 Zm 106 13 <|
 Zm 107 16 <|
 Zi 108 3 106 107 <|
 Zh 109 3 108 <|
 Zq 110 false 99 [.t 101, .t 105, .t 109] <|
 Zm 5 110 .nil) <| Zr (Zm 111 6 <|
 Zm 112 13 <|
 Zm 113 16 <|
 Zi 114 3 112 113 <|
 Zh 115 3 114 <|
 Zo (.bs 116 3 32 [.t 115]) <|
 Zo (.app 117 3 56 32 (.t 111) (.t 116)) <|
 Zm 6 117 .nil) <| Zr (Zf 118 0 7 <|
 Zl 119 1 118 <|
 Zk 120 .add 119 1 <|
 Zf 121 0 7 <|
 Zs 1 121 120 .nil) <| .rg (Zf 122 2 7 <|
 Zl 123 1 122 <|
 Zm 124 12 <|
 Zm 125 16 <|
 Zi 126 1 124 125 <|
 Zl 127 1 126 <|
 Zo (.app 128 3 56 32 (.t 123) (.t 127)) <|
 Zf 129 2 7 <|
 Zs 1 129 128 .nil)) <| .rg (Zm 99 16 <|
 Zk 100 .add 99 1 <|
 Zm 16 100 .nil)) <| Zr (Zm 130 6 <|
 Zh 131 3 7 <|
 .wk <| Zm 2 130 <|
 Zs 3 3 131 <|
 Zc 4 0 .nil) .ret⟩
theorem Qafq : Qe Tryz.prog Tryz.f30 = some c30.strip := by kernel_rfl
theorem Q74 {R : Nat} {M : MF} (h : Qno M R) : Sym R M := fun i hi k hk => by
 rcases Nat.lt_trichotomy i k with e | e | e
 ·exact (h k hk i e).symm
 ·rw [e]
 ·exact h i hi k e
end Go.Proofs.YtmnkngmmfnncoaaGreat
namespace Go.Proofs.YtmnkngmmfnncoaaGreat
open Go Go.FW
set_option linter.unusedSimpArgs false
set_option linter.unusedVariables false
set_option maxRecDepth 100000
end Go.Proofs.YtmnkngmmfnncoaaGreat
namespace Go.Proofs.YtmnkngmmfnncoaaGreat
open Go Go.FW
set_option linter.unusedSimpArgs false
set_option linter.unusedVariables false
set_option maxRecDepth 100000
end Go.Proofs.YtmnkngmmfnncoaaGreat
namespace Go.Proofs.YtmnkngmmfnncoaaGreat
open Go Go.FW
set_option linter.unusedSimpArgs false
set_option linter.unusedVariables false
set_option maxRecDepth 100000
end Go.Proofs.YtmnkngmmfnncoaaGreat
namespace Go.Proofs.YtmnkngmmfnncoaaGreat
open Go Go.FW
set_option linter.unusedSimpArgs false
set_option linter.unusedVariables false
set_option maxRecDepth 100000
theorem Q75 {l : List Rat} {k : Nat} (hl : l.length <= 1048576) (hk : k <= 1048576) (hs : ∀ q ∈ l, rs q <= k) : Qb7 (l.map qR) := ⟨by rw [List.length_map]; exact hl, RRk.of fun q hq => Nat.le_trans (hs q hq) hk⟩
end Go.Proofs.YtmnkngmmfnncoaaGreat
namespace Go.Proofs.YtmnkngmmfnncoaaGreat
open Go Go.FW
set_option linter.unusedSimpArgs false
set_option linter.unusedVariables false
set_option maxRecDepth 100000
def Qc2 (M : MF) (x : Nat -> Rat) (w : Nat) : Nat -> Rat
 | 0 => 0
 | n + 1 => Qc2 M x w n + x n * Qn (M n) x w
def Qec (l : List Rat) : Nat -> Rat := fun i => l.getD i 0
theorem Qs5 (l : List Rat) : Q6 PV.rat (Qec l) l.length = l.map PV.rat := by
 refine List.ext_getElem (by simp [Q6]) fun j h1 h2 => ?_
 rw [Qew, List.getElem_map]
 unfold Qec
 rw [List.getD_eq_getElem?_getD, List.getElem?_eq_getElem (by simpa using h2)]; rfl
theorem Qpj {l : List Rat} {k : Nat} (hk : 1 <= k) (h : ∀ q ∈ l, rs q <= k) (i : Nat) : rs (Qec l i) <= k := by
 unfold Qec
 rw [List.getD_eq_getElem?_getD]
 cases hq : l[i]? with
 | none => have := Qru; show rs 0 <= k; omega
 | some q => exact h q (List.mem_of_getElem? hq)
theorem Qv9 {M : MF} {x : Nat -> Rat} {w k : Nat} (hM : ∀ r c, rs (M r c) <= k) (hx : ∀ i, rs (x i) <= k) : ∀ n, rs (Qc2 M x w n) <= (n + 1) * (k + (w + 1) * (2 * k + 2) + 2)
 | 0 => by
  have := Qru
  simp only [Qc2]; omega
 | n + 1 => by
  have h1 := Qv9 (w := w) hM hx n
  have h2 := Qhs (x := M n) (y := x) (k := k) w fun i _ => ⟨hM n i, hx i⟩
  have h3 := Qb0 (x n) (Qn (M n) x w)
  have h4 := Qle (Qc2 M x w n) (x n * Qn (M n) x w)
  have h5 := hx n
  have h6 : (n + 1 + 1) * (k + (w + 1) * (2 * k + 2) + 2) = (n + 1) * (k + (w + 1) * (2 * k + 2) + 2) + (k + (w + 1) * (2 * k + 2) + 2) := Nat.succ_mul _ _
  simp only [Qc2]; omega
theorem Qxa {R : Nat} {l x : List Rat} (hl : l.length = R * R) (hlx : x.length = R) (hR : R <= 8) (sl : ∀ q ∈ l, rs q <= 3) (sx : ∀ q ∈ x, rs q <= 3) : Qd Tryz.prog 31 [PV.mat R R l, PV.rats x] (· = .tup [PV.rat (Qc2 (Qam l R) (Qec x) R R), .int .i64 0]) := by
 have c1 := Qfd hl (by omega) (by omega) fun q hq => by have := sl q hq; omega
 have c2 := Qgd hl (show R <= 40 by omega) (by omega)
 rw [show ∀ M k w, Qmm M k w = Q6 (PV.rowD w) M k from fun _ _ _ => rfl] at c2
 have hx0 : ∀ i, rs (Qec x i) <= 3 := Qpj (by omega) sx
 have hM0 : ∀ r c, rs (Qam l R r c) <= 3 := fun r c => Qln (by omega) sl
 obtain ⟨M, hM⟩ : ∃ M, Qam l R = M := ⟨_, rfl⟩
 obtain ⟨X, hX⟩ : ∃ X, Qec x = X := ⟨_, rfl⟩
 rw [hM] at hM0
 rw [hX] at hx0
 have hrx : PV.rats x = .sl 3 (Q6 PV.rat X R) := by rw [PV.rats, <- hX, <- hlx, Qs5]
 have hq0 := fun n => Qv9 (w := R) hM0 hx0 n
 rw [hM, hX, hrx]
 have hnm : Qd Tryz.prog 89 [.sl 3 (Q6 PV.rat X R)] (· = .bool true) := by
  have := Qkd (l := x.map qR) (Q75 (by omega) (k := 3) (by omega) sx)
  rw [<- Qqs, hrx] at this
  have e : (x.map qR).all Qe0 = true := by
   rw [List.all_eq_true]
   intro y hy
   obtain ⟨q, _, rfl⟩ := List.mem_map.1 hy
   exact Qvn q
  rw [e] at this; exact this
 rw [hM] at c2
 have hrl : (Q6 PV.rat X R).length = R := Qas _ _ _
 have hrr : (Q6 (PV.rowD R) M R).length = R := Qas _ _ _
 refine Qg Ql Tryz.func31 rfl Q2z (by simp [c31]) fun C hP => ?_; simp only [c31, Zo, Zg, Zm, Zc, Zf, Zl, Zh, Zs, Zi, Zb, Zk, Zn, Zu, Zq, Zr, Zz]
 simp +decide (disch := first | exact D0 | fail) only [go_sem, ↓reduceIte]
 refine Qa hP c1 rfl rfl rfl ?_
 simp +decide (disch := first | exact D0 | fail) only [go_sem, ↓reduceIte]
 refine Qa hP hnm rfl rfl rfl ?_
 simp +decide (disch := first | exact D1 hrl | fail) only [go_sem, ↓reduceIte, hrl]
 refine Qa hP (Qnl (x := 0) (by omega) (by omega)) rfl rfl rfl ?_
 rw [show ((0 : Int) : Rat) = Qc2 M X R 0 from rfl]
 simp +decide (disch := first | exact D0 | fail) only [go_sem, ↓reduceIte]
 refine Qa hP c2 rfl rfl rfl ?_
 simp +decide (disch := first | exact D1 hrr | fail) only [go_sem, ↓reduceIte, hrr]
 refine Qal (by repeat (first | exact Q5 | exact Qq | exact Qr | exact Qt | exact Qu | apply Qp | apply Qz | apply Q9 | apply Qaf | apply Qag | apply Qm | apply Q7)) [(7, 8), (35, 50)] [] (fun n J hp => ∃ i, n = R - i /\ i <= R /\ J 35 = .int .i64 (i : Nat) /\ hp 4 = some ⟨3, 32, [.agg [.bool false, .nilS, .nilS]], false⟩ /\ hp 6 = some ⟨3, 32, [PV.rat (Qc2 M X R i)], false⟩) R ?_ ?_
 ·refine ⟨0, rfl, by omega, ?_⟩
  simp +decide (disch := first | exact D0 | fail) only [go_sem, ↓reduceIte]
  rfl
 rintro _ J h ⟨i, rfl, hi, h35, h4, h6⟩
 simp +decide (disch := first | exact D1 h35 | fail) only [go_sem, ↓reduceIte, h35]
 refine Qb (fun hg => ?_) (fun hg => ?_)
 ·have hi' : i < R := by omega
  have d1 := Qagr (x := M i) (y := X) (w := R) (k := 3) (by omega) (fun c _ => hM0 i c) (fun c _ => hx0 c) (by omega)
  have b1 := Qhs (x := M i) (y := X) (k := 3) R fun c _ => ⟨hM0 i c, hx0 c⟩
  have b2 := hx0 i
  have b3 := Qb0 (X i) (Qn (M i) X R)
  have b4 := hq0 i
  have b5 : (R + 1) * (2 * 3 + 2) <= 9 * 8 := Nat.mul_le_mul_right _ (by omega)
  have b6 : (i + 1) * (3 + (R + 1) * (2 * 3 + 2) + 2) <= 9 * (3 + 72 + 2) := Nat.mul_le_mul (by omega) (by omega)
  have hsu : Qc2 M X R (i + 1) = Qc2 M X R i + X i * Qn (M i) X R := rfl
  have d2 := Qh1 (a := X i) (b := Qn (M i) X R) (k := 1000) (by omega) (by omega) (by omega)
  have d3 := Qod (a := Qc2 M X R i) (b := X i * Qn (M i) X R) (k := 1000) (by omega) (by omega) (by omega)
  rw [<- hsu] at d3
  obtain ⟨Q1, eq1⟩ : ∃ Q, Qc2 M X R (i + 1) = Q := ⟨_, rfl⟩
  rw [eq1] at d3
  clear hsu
  generalize X i * Qn (M i) X R = Q2 at *
  generalize Qn (M i) X R = Q3 at *
  generalize Qc2 M X R i = Q4 at *
  repeat' first
   | refine Qev ?_ ?_
   | refine Qa hP d1 rfl rfl rfl ?_
   | refine Qa hP d2 rfl rfl rfl ?_
   | refine Qa hP d3 rfl rfl rfl ?_
   | simp +decide (disch := first | exact D2 h35 h6 | fail) only [go_sem, ↓reduceIte, h35, h6]
  refine Qad (R - (i + 1)) (by omega) ⟨i + 1, rfl, by omega, ?_⟩
  rw [eq1]
  simp +decide (disch := first | exact D1 h4 | fail) only [go_sem, ↓reduceIte, h4]
 ·obtain rfl : i = R := by omega
  simp +decide (disch := first | exact D3 h35 h6 h4 | fail) only [go_sem, ↓reduceIte, h35, h6, h4]
  refine Qdt ?_
  simp +decide (disch := first | exact D2 h6 h4 | fail) only [go_sem, ↓reduceIte, h6, h4]
  exact Qdk rfl rfl rfl (Qv _) (Qv _)
end Go.Proofs.YtmnkngmmfnncoaaGreat
namespace Go.Proofs.YtmnkngmmfnncoaaGreat
open Go Go.FW
set_option linter.unusedSimpArgs false
set_option linter.unusedVariables false
set_option maxRecDepth 100000
end Go.Proofs.YtmnkngmmfnncoaaGreat
namespace Go.Proofs.YtmnkngmmfnncoaaGreat
open Go Go.FW
set_option linter.unusedSimpArgs false
set_option linter.unusedVariables false
set_option maxRecDepth 100000
theorem Qem {x x' y y' : Nat -> Rat} : ∀ n, (∀ c, c < n -> x c = x' c /\ y c = y' c) -> Qn x y n = Qn x' y' n
 | 0, _ => rfl
 | n + 1, h => by
  simp only [Qn]
  rw [Qem n fun c hc => h c (by omega), (h n (by omega)).1, (h n (by omega)).2]
theorem Qht {x y : Nat -> Rat} : ∀ n, (∀ c, c < n -> x c = 0) -> Qn x y n = 0
 | 0, _ => rfl
 | n + 1, h => by
  simp only [Qn]
  rw [Qht n fun c hc => h c (by omega), h n (by omega)]; grind
theorem Qij {x : Nat -> Rat} : ∀ n, Qn x (fun _ => 0) n = 0
 | 0 => rfl
 | n + 1 => by
  simp only [Qn]
  rw [Qij n]; grind
theorem Qyb {f x : Nat -> Rat} {p : Rat} (hp : p ≠ 0) : ∀ n, Qn (fun c => f c / p) x n * p = Qn f x n
 | 0 => by simp only [Qn]; grind
 | n + 1 => by
  have := Qyb (f := f) (x := x) hp n
  simp only [Qn]
  rw [<- this]
  grind
theorem Qi8 {f g x : Nat -> Rat} {q : Rat} : ∀ n, Qn (fun c => f c - q * g c) x n = Qn f x n - q * Qn g x n
 | 0 => by simp only [Qn]; grind
 | n + 1 => by
  have := Qi8 (f := f) (g := g) (x := x) (q := q) n
  simp only [Qn]
  rw [this]
  grind
theorem Qlo {y x : Nat -> Rat} {a : Nat} {v : Rat} : ∀ n, Qn y (fun c => if c = a then v else x c) n = Qn y x n + (if a < n then y a * (v - x a) else 0)
 | 0 => by simp only [Qn]; grind
 | n + 1 => by
  have h := Qlo (y := y) (x := x) (a := a) (v := v) n
  simp only [Qn]
  rw [h]
  by_cases e : n = a
  ·subst e
   rw [if_pos rfl, if_neg (by omega), if_pos (by omega)]; grind
  ·rw [if_neg e]
   by_cases e2 : a < n
   ·rw [if_pos e2, if_pos (by omega)]; grind
   ·rw [if_neg e2, if_neg (by omega)]; grind
def Qkx (M : MF) (R w : Nat) (x : Nat -> Rat) : Prop := ∀ r, r < R -> Qn (M r) x w = 0
theorem Q76 {R w k : Nat} {E : Ech} {x : Nat -> Rat} (hn : E.piv.length <= R) : Qkx (Qdf R E k).M R w x ↔ Qkx E.M R w x := by
 unfold Qdf
 split
 ·exact Iff.rfl
 rename_i hp
 have hle := Qli E.M k (R - E.piv.length) E.piv.length
 have hne := Qob E.M k (R - E.piv.length) E.piv.length
 have hi1 : E.piv.length <= Qcy E.M R k E.piv.length := hle.1
 have hi2 : Qcy E.M R k E.piv.length < R := by
  have : Qcy E.M R k E.piv.length <= E.piv.length + (R - E.piv.length) := hle.2
  omega
 have hp0 : E.M (Qcy E.M R k E.piv.length) k ≠ 0 := hne (by
  show Qcy E.M R k E.piv.length < _
  omega)
 generalize hi : Qcy E.M R k E.piv.length = i at *
 generalize hn' : E.piv.length = n at *
 generalize hpp : E.M i k = p at *
 have hN : ∀ r, Qn (Qbm (Qa3 E.M i n) n p r) x w * (if r = n then p else 1) = Qn (if r = n then E.M i else if r = i then E.M n else E.M r) x w := by
  intro r
  by_cases e : r = n
  ·subst e
   rw [if_pos rfl, if_pos rfl]
   have : Qbm (Qa3 E.M i r) r p r = fun c => E.M i c / p := by funext c; simp [Qbm, Qa3]
   rw [this]
   exact Qyb hp0 w
  ·rw [if_neg e, if_neg e]
   have : Qbm (Qa3 E.M i n) n p r = if r = i then E.M n else E.M r := by
    funext c; simp [Qbm, Qa3, e]
   rw [this]; grind
 have hL : ∀ r, Qn (Qf9 (Qbm (Qa3 E.M i n) n p) n k r) x w = if r = n then Qn (Qbm (Qa3 E.M i n) n p n) x w else Qn (Qbm (Qa3 E.M i n) n p r) x w - Qbm (Qa3 E.M i n) n p r k * Qn (Qbm (Qa3 E.M i n) n p n) x w := by
  intro r
  by_cases e : r = n
  ·subst e; rw [if_pos rfl]
   refine Qem w fun c _ => ⟨by simp [Qf9], rfl⟩
  ·rw [if_neg e, <- Qi8]
   refine Qem w fun c _ => ⟨by simp [Qf9, e], rfl⟩
 generalize Qbm (Qa3 E.M i n) n p = N at *
 constructor
 ·intro h
  have h1 : Qn (N n) x w = 0 := by have := h n (by omega); rwa [hL, if_pos rfl] at this
  have h2 : ∀ r, r < R -> Qn (N r) x w = 0 := fun r hr => by
   by_cases e : r = n
   ·rw [e]; exact h1
   ·have := h r hr
    rw [hL, if_neg e, h1] at this; grind
  have h3 : ∀ r, r < R -> Qn (if r = n then E.M i else if r = i then E.M n else E.M r) x w = 0 := fun r hr => by
   rw [<- hN r, h2 r hr]; grind
  intro r hr
  by_cases e : r = i
  ·have := h3 n (by omega)
   rw [if_pos rfl] at this; rw [e]; exact this
  ·by_cases e2 : r = n
   ·have := h3 i hi2
    by_cases e3 : i = n
    ·omega
    ·rw [if_neg e3, if_pos rfl] at this; rw [e2]; exact this
   ·have := h3 r hr
    rw [if_neg e2, if_neg e] at this; exact this
 ·intro h
  have h3 : ∀ r, r < R -> Qn (if r = n then E.M i else if r = i then E.M n else E.M r) x w = 0 := fun r hr => by
   split
   ·exact h i hi2
   ·split
    ·exact h n (by omega)
    ·exact h r hr
  have h2 : ∀ r, r < R -> Qn (N r) x w = 0 := fun r hr => by
   have := hN r
   rw [h3 r hr] at this
   by_cases e : r = n
   ·rw [if_pos e] at this; grind
   ·rw [if_neg e] at this; grind
  intro r hr
  show Qn (Qf9 N n k r) x w = 0
  rw [hL]
  split
  ·exact h2 n (by omega)
  ·rw [h2 r hr, h2 n (by omega)]; grind
theorem Qpk {R w : Nat} {M : MF} {x : Nat -> Rat} : ∀ k, Qkx (Qae R M k).M R w x ↔ Qkx M R w x
 | 0 => Iff.rfl
 | k + 1 => (Q76 (Qdn R M k).2.1).trans (Qpk k)
def Qz5 (R k : Nat) (E : Ech) : Prop := (∀ j (hj : j < E.piv.length), ∀ r, r < R -> E.M r E.piv[j] = if r = j then 1 else 0) /\ ∀ r, E.piv.length <= r -> r < R -> ∀ c, c < k -> E.M r c = 0
theorem Q3h {R k : Nat} {E : Ech} (hn : E.piv.length <= R) (hpk : ∀ x ∈ E.piv, x < k) (h : Qz5 R k E) : Qz5 R (k + 1) (Qdf R E k) := by
 obtain ⟨hu, hz⟩ := h
 unfold Qdf
 split
 ·rename_i hp
  refine ⟨hu, fun r h1 h2 c hc => ?_⟩
  by_cases e : c = k
  ·subst e
   exact Qsz E.M c (R - E.piv.length) E.piv.length r h1 (by
    show r < Qcy E.M R c E.piv.length
    omega)
  ·exact hz r h1 h2 c (by omega)
 rename_i hp
 have hle := Qli E.M k (R - E.piv.length) E.piv.length
 have hne := Qob E.M k (R - E.piv.length) E.piv.length
 have hi1 : E.piv.length <= Qcy E.M R k E.piv.length := hle.1
 have hi2 : Qcy E.M R k E.piv.length < R := by
  have : Qcy E.M R k E.piv.length <= E.piv.length + (R - E.piv.length) := hle.2
  omega
 have hp0 : E.M (Qcy E.M R k E.piv.length) k ≠ 0 := hne (by
  show Qcy E.M R k E.piv.length < _
  omega)
 generalize hi : Qcy E.M R k E.piv.length = i at *
 obtain ⟨n, hn'⟩ : ∃ n, n = E.piv.length := ⟨_, rfl⟩
 rw [<- hn'] at hz hi1 hi hn ⊢
 generalize hpp : E.M i k = p at *
 have hN : ∀ r c, Qbm (Qa3 E.M i n) n p r c = if r = n then E.M i c / p else if r = i then E.M n c else E.M r c := by
  intro r c
  by_cases e : r = n
  ·rw [if_pos e]; simp [Qbm, Qa3, e]
  ·rw [if_neg e]
   simp only [Qbm, Qa3]
   rw [if_neg e, if_neg e]
   by_cases e2 : r = i
   ·rw [if_pos e2, if_pos e2]
   ·rw [if_neg e2, if_neg e2]
 have hNu : ∀ j (hj : j < n) r, r < R -> Qbm (Qa3 E.M i n) n p r (E.piv[j]'(by omega)) = if r = j then 1 else 0 := by
  intro j hj r hr
  have hj2 : j < E.piv.length := by omega
  rw [hN]
  by_cases e : r = n
  ·have h1 := hu j (by omega) i hi2
   rw [if_neg (by omega)] at h1
   rw [if_pos e, h1, if_neg (by omega)]; grind
  ·rw [if_neg e]
   by_cases e2 : r = i
   ·rw [if_pos e2, hu j (by omega) n (by omega), if_neg (by omega), if_neg (by omega)]
   ·rw [if_neg e2]; exact hu j (by omega) r hr
 have hNz : ∀ r, n <= r -> r < R -> ∀ c, c < k -> Qbm (Qa3 E.M i n) n p r c = 0 := by
  intro r h1 h2 c hc
  rw [hN]
  split
  ·rw [hz i hi1 hi2 c hc]; grind
  ·split
   ·exact hz n (by omega) (by omega) c hc
   ·exact hz r h1 h2 c hc
 have hNk : Qbm (Qa3 E.M i n) n p n k = 1 := by rw [hN, if_pos rfl, hpp]; grind
 have hE : ∀ r c, Qf9 (Qbm (Qa3 E.M i n) n p) n k r c = if r = n then Qbm (Qa3 E.M i n) n p n c else Qbm (Qa3 E.M i n) n p r c - Qbm (Qa3 E.M i n) n p r k * Qbm (Qa3 E.M i n) n p n c := fun r c => rfl
 generalize Qbm (Qa3 E.M i n) n p = N at *
 have hlen : (E.piv ++ [k]).length = n + 1 := by simp [hn']
 refine ⟨fun j hj r hr => ?_, fun r h1 h2 c hc => ?_⟩
 ·simp only [hlen] at hj
  show Qf9 N n k r ((E.piv ++ [k])[j]) = _
  rw [hE]
  by_cases e : j = n
  ·have : (E.piv ++ [k])[j]'(by rw [hlen]; omega) = k := by
    rw [List.getElem_append_right (by omega)]; simp
   rw [this, hNk, e]
   by_cases e2 : r = n
   ·rw [if_pos e2, if_pos e2]
   ·rw [if_neg e2, if_neg e2]; grind
  ·have hj' : j < n := by omega
   have : (E.piv ++ [k])[j]'(by rw [hlen]; omega) = E.piv[j]'(by omega) := List.getElem_append_left (by omega)
   rw [this, hNu j hj' n (by omega), if_neg (by omega : ¬ n = j)]
   by_cases e2 : r = n
   ·rw [if_pos e2, if_neg (by omega)]
   ·rw [if_neg e2, hNu j hj' r hr]; grind
 ·rw [hlen] at h1
  show Qf9 N n k r c = 0
  rw [hE, if_neg (by omega)]
  by_cases e : c = k
  ·rw [e, hNk]; grind
  ·rw [hNz r (by omega) h2 c (by omega), hNz n (by omega) (by omega) c (by omega)]; grind
theorem Qkg {R : Nat} {M : MF} : ∀ k, Qz5 R k (Qae R M k)
 | 0 => ⟨fun j hj => by simp [Qae] at hj, fun r _ _ c hc => by omega⟩
 | k + 1 => Q3h (Qdn R M k).2.1 (Qdn R M k).2.2 (Qkg k)
def Qhf (piv : List Nat) (x : Nat -> Rat) (val : Nat -> Rat) : Nat -> (Nat -> Rat)
 | 0 => x
 | j + 1 => fun c => if c = piv.getD j 0 then val j else Qhf piv x val j c
theorem Qmo {piv : List Nat} {x val : Nat -> Rat} {c : Nat} : ∀ j, j <= piv.length -> (∀ i (hi : i < piv.length), i < j -> piv[i] ≠ c) -> Qhf piv x val j c = x c
 | 0, _, _ => rfl
 | j + 1, hj, h => by
  have e : piv.getD j 0 = piv[j]'(by omega) := by rw [List.getD_eq_getElem?_getD, List.getElem?_eq_getElem (by omega), Option.getD_some]
  simp only [Qhf]
  rw [e, if_neg fun e2 => h j (by omega) (by omega) e2.symm]
  exact Qmo j (by omega) fun i hi hij => h i hi (by omega)
theorem Qr7 {R w : Nat} {E : Ech} {x val : Nat -> Rat} (hs : E.piv.Pairwise (· < ·)) (hu : Qz5 R w E) (hw : ∀ y ∈ E.piv, y < w) (hx : ∀ y ∈ E.piv, x y = 0) {r : Nat} (hr : r < R) : ∀ j, j <= E.piv.length -> Qn (E.M r) (Qhf E.piv x val j) w = Qn (E.M r) x w + if r < j then val r else 0
 | 0, _ => by
  rw [if_neg (by omega)]
  simp only [Qhf]; grind
 | j + 1, hj => by
  have hj' : j < E.piv.length := by omega
  have h := Qr7 (val := val) hs hu hw hx hr j (by omega)
  have e : E.piv.getD j 0 = E.piv[j] := by rw [List.getD_eq_getElem?_getD, List.getElem?_eq_getElem (by omega), Option.getD_some]
  have hm : E.piv[j] ∈ E.piv := List.getElem_mem hj'
  have h0 : Qhf E.piv x val j E.piv[j] = 0 := by
   rw [Qmo j (by omega) fun i hi hij => by have := Qv2 hs hij hj'; omega]
   exact hx _ hm
  simp only [Qhf]
  rw [e, Qlo, h, if_pos (hw _ hm), h0, hu.1 j hj' r hr]
  by_cases e1 : r = j
  ·subst e1
   rw [if_pos rfl, if_neg (by omega), if_pos (by omega)]; grind
  ·rw [if_neg e1]
   by_cases e2 : r < j
   ·rw [if_pos e2, if_pos (by omega)]; grind
   ·rw [if_neg e2, if_neg (by omega)]; grind
theorem Qmp {E : MF} {piv : List Nat} {k : Nat} : ∀ j, Qz2 E piv k j = Qhf piv (fun c => if c = k then 1 else 0) (fun j => -(E j k)) j
 | 0 => rfl
 | j + 1 => by simp only [Qz2, Qhf]; rw [Qmp j]
theorem Qyc {R m k : Nat} {M : MF} (hk : k < m) (hf : k ∉ (Qae R M m).piv) : Qkx M R m (Qz2 (Qae R M m).M (Qae R M m).piv k (Qae R M m).piv.length) := by
 rw [<- Qpk (k := m)]
 intro r hr
 have hp := Qdn R M m
 have hu := Qkg (R := R) (M := M) m
 rw [Qmp, Qr7 (Qfk R M m) hu hp.2.2 (fun y hy => if_neg fun e => hf (by rw [<- e]; exact hy)) hr _ (Nat.le_refl _)]
 have hd : Qn ((Qae R M m).M r) (fun c => if c = k then 1 else 0) m = (Qae R M m).M r k := by
  rw [Qlo (x := fun _ => 0), Qij, if_pos hk]; grind
 rw [hd]
 split
 ·grind
 ·rw [hu.2 r (by omega) hr k hk]; grind
end Go.Proofs.YtmnkngmmfnncoaaGreat
namespace Go.Proofs.YtmnkngmmfnncoaaGreat
open Go Go.FW
set_option linter.unusedSimpArgs false
set_option linter.unusedVariables false
set_option maxRecDepth 100000
theorem Qq4 {r c : Int} {l x : List RQ} (hl : Qb7 l) (hx : Qb7 x) (h : (Qbl r c l && x.all Qe0) = false) : Qd Tryz.prog 31 [PV.rmat r c l, PV.rqs x] (· = .tup [PV.rr false [] [], .int .i64 1]) := by
 refine Qg Ql Tryz.func31 rfl Q2z (by simp [c31]) fun C hP => ?_; simp only [c31, Zo, Zg, Zm, Zc, Zf, Zl, Zh, Zs, Zi, Zb, Zk, Zn, Zu, Zq, Zr, Zz]
 simp +decide (disch := first | exact D0 | fail) only [go_sem, ↓reduceIte]
 refine Qa hP (Qx4 hl) rfl rfl rfl ?_
 cases hq : Qbl r c l
 ·simp +decide (disch := first | exact D0 | fail) only [go_sem, ↓reduceIte]
  refine Qdt ?_
  simp +decide (disch := first | exact D0 | fail) only [go_sem, ↓reduceIte]
  exact Qdk rfl rfl rfl Qxx (Qv _)
 ·rw [hq, Bool.true_and] at h
  simp +decide (disch := first | exact D0 | fail) only [go_sem, ↓reduceIte]
  refine Qa hP (Qkd hx) rfl rfl rfl ?_
  rw [h]
  simp +decide (disch := first | exact D0 | fail) only [go_sem, ↓reduceIte]
  refine Qdt ?_
  simp +decide (disch := first | exact D0 | fail) only [go_sem, ↓reduceIte]
  exact Qdk rfl rfl rfl Qxx (Qv _)
abbrev Qwa (e : Int) : PV := .tup [PV.rqs [], PV.rmat 0 0 [], .int .i64 e]
theorem Qoe : PV.le .nilS (PV.rqs []) := trivial
theorem r9_Reduce_ne {r c : Int} {l : List RQ} (hl : Qb7 l) (h : Qbl r c l = true) (hne : r ≠ c) : Qd Tryz.prog 30 [PV.rmat r c l] (· = Qwa 16) := by
 refine Qe7 Ql Tryz.func30 rfl Qafq (by simp [c30]) fun C hP => ?_; simp only [c30, Zo, Zg, Zm, Zc, Zf, Zl, Zh, Zs, Zi, Zb, Zk, Zn, Zu, Zq, Zr, Zz]
 simp +decide (disch := first | exact D0 | fail) only [go_sem, ↓reduceIte]
 refine Qa hP (Qhr hl) rfl rfl rfl ?_
 rw [h]
 simp +decide (disch := first | exact D1 hne | fail) only [go_sem, ↓reduceIte, hne]
 refine Qfy (Qqi ?_)
 simp +decide (disch := first | exact D0 | fail) only [go_sem, ↓reduceIte]
 exact Qhm rfl rfl rfl rfl Qoe Qfj (Qv _)
theorem Qxb {R m : Nat} {l : List Rat} (hl : l.length = R * m) (hR : R <= 40) (hm : m <= 40) (hs : ∀ q ∈ l, rs q <= 1048576) (hne : R ≠ m) : Qd Tryz.prog 29 [PV.mat R m l] (· = Qwa 16) := by
 have c2 := Qgd hl hR hm
 refine Qe7 Ql Tryz.func29 rfl Qqz (by simp [c29]) fun C hP => ?_; simp only [c29, Zo, Zg, Zm, Zc, Zf, Zl, Zh, Zs, Zi, Zb, Zk, Zn, Zu, Zq, Zr, Zz]
 simp +decide (disch := first | exact D0 | fail) only [go_sem, ↓reduceIte]
 refine Qa hP (Qfd hl hR hm hs) rfl rfl rfl ?_
 simp +decide (disch := first | exact D0 | fail) only [go_sem, ↓reduceIte]
 refine Qa hP c2 rfl rfl rfl ?_
 simp +decide (disch := first | exact D1 (show ¬ (R : Int) = (m : Int) from by omega) | fail) only [go_sem, ↓reduceIte, show ¬ (R : Int) = (m : Int) from by omega]
 refine Qfy (Qqi ?_)
 simp +decide (disch := first | exact D0 | fail) only [go_sem, ↓reduceIte]
 exact Qhm rfl rfl rfl rfl Qoe Qfj (Qv _)
theorem Qxc {R K : Nat} {l : List Rat} (hl : l.length = R * R) (hR2 : R <= 40) (hs : ∀ q ∈ l, rs q <= 1048576) (hK : K < 2 ^ 28) (hB : MBd K R R (Qam l R)) (h : ¬ Qno (Qam l R) R) : Qd Tryz.prog 29 [PV.mat R R l] (· = Qwa 16) := by
 have hR0 : 0 < R := Nat.pos_of_ne_zero fun e => h (by subst e; intro i hi; omega)
 have hx := Qo0 (K := K) (ty := 22) (tyr := 32) hR2 (by omega) hB
 rw [decide_eq_false h] at hx
 have hfree : ∀ (hp : HP), (∀ x, 5 <= x -> hp x = none) -> ∀ x, nmR R x = true -> hp x = none := fun hp h x hx => h x (by have := Qi0 hx; omega)
 refine Qe7 Ql Tryz.func29 rfl Qqz (by simp [c29]) fun C hP => ?_; simp only [c29, Zo, Zg, Zm, Zc, Zf, Zl, Zh, Zs, Zi, Zb, Zk, Zn, Zu, Zq, Zr, Zz]
 simp +decide (disch := first | exact D0 | fail) only [go_sem, ↓reduceIte]
 refine Qa hP (Qfd hl hR2 hR2 hs) rfl rfl rfl ?_
 simp +decide (disch := first | exact D0 | fail) only [go_sem, ↓reduceIte]
 refine Qke hP hl hR0 hR2 hR2 (by omega) (hfree _ (fun x hx => by simp +decide (disch := first | exact D4 (show ¬ x = 1 from by omega) (show ¬ x = 2 from by omega) (show ¬ x = 3 from by omega) (show ¬ x = 4 from by omega) | fail) only [go_sem, ↓reduceIte, show ¬ x = 1 from by omega, show ¬ x = 2 from by omega, show ¬ x = 3 from by omega, show ¬ x = 4 from by omega] <;> rfl)) ?_
 simp +decide (disch := first | omega | rfl | (simp +decide only [go_sem, ↓reduceIte, Qbr, Qeb, Qaz] <;> rfl) | fail) only [go_sem, ↓reduceIte, Qbr, Qeb, Qaz]
 refine Qr6 (ys := fun r => Q6 PV.rat (Qam l R r) R) hP (by omega) hx (by simp [Qqw]) T0 (by simp +decide (disch := first | omega | rfl | (simp +decide only [go_sem, ↓reduceIte, Qga] <;> rfl) | fail) only [go_sem, ↓reduceIte, Qga]) (fun r hr => by simp +decide (disch := first | omega | rfl | (simp +decide only [go_sem, ↓reduceIte, Qel] <;> rfl) | fail) only [go_sem, ↓reduceIte, Qel]) ?_
 simp +decide (disch := first | omega | rfl | (simp +decide only [go_sem, ↓reduceIte, Qbr, Qeb, Qaz] <;> rfl) | fail) only [go_sem, ↓reduceIte, Qbr, Qeb, Qaz]
 refine Qfy (Qqi ?_)
 simp +decide (disch := first | omega | rfl | (simp +decide only [go_sem, ↓reduceIte, Qbr, Qeb, Qaz] <;> rfl) | fail) only [go_sem, ↓reduceIte, Qbr, Qeb, Qaz]
 exact Qhm rfl rfl rfl rfl Qoe Qfj (Qv _)
theorem Qwb : Qd Tryz.prog 92 [.sl 1 []] (· = .bool true) := by
 refine Qe7 Ql Tryz.func92 rfl Q22 (by simp [c92]) fun C hP => ?_; simp only [c92, Zo, Zg, Zm, Zc, Zf, Zl, Zh, Zs, Zi, Zb, Zk, Zn, Zu, Zq, Zr, Zz]
 simp +decide (disch := first | exact D0 | fail) only [go_sem, ↓reduceIte]
 refine Qal (by repeat (first | exact Q5 | exact Qq | exact Qr | exact Qt | exact Qu | apply Qp | apply Qz | apply Q9 | apply Qaf | apply Qag | apply Qm | apply Q7)) [(2, 4), (7, 31)] [] (fun q J hp => J 7 = .int .i64 (0 : Nat)) 0 ?_ ?_
 ·simp +decide (disch := first | exact D0 | fail) only [go_sem, ↓reduceIte]
  rfl
 rintro _ J h h7
 simp +decide (disch := first | exact D1 h7 | fail) only [go_sem, ↓reduceIte, h7]
 refine Qfy (Qa1 ?_)
 simp +decide (disch := first | exact D0 | fail) only [go_sem, ↓reduceIte]
 exact Qc rfl rfl
theorem Q3i : Qd Tryz.prog 29 [PV.mat 0 0 []] (· = Qwa 0) := by
 have c2 := Qgd (l := []) (R := 0) (m := 0) rfl (by omega) (by omega)
 have e : Qmm (Qam [] 0) 0 0 = [] := rfl
 rw [e] at c2
 refine Qe7 Ql Tryz.func29 rfl Qqz (by simp [c29]) fun C hP => ?_; simp only [c29, Zo, Zg, Zm, Zc, Zf, Zl, Zh, Zs, Zi, Zb, Zk, Zn, Zu, Zq, Zr, Zz]
 simp +decide (disch := first | exact D0 | fail) only [go_sem, ↓reduceIte]
 refine Qa hP (Qfd (R := 0) (m := 0) (l := []) rfl (by omega) (by omega) (fun q hq => by cases hq)) rfl rfl rfl ?_
 simp +decide (disch := first | exact D0 | fail) only [go_sem, ↓reduceIte]
 refine Qa hP c2 rfl rfl rfl ?_
 simp +decide (disch := first | exact D0 | fail) only [go_sem, ↓reduceIte]
 refine Qa hP Qwb rfl rfl rfl ?_
 simp +decide (disch := first | exact D0 | fail) only [go_sem, ↓reduceIte]
 refine Qc9 (Wk.refl _ _) ?_
 refine Qc9 (Wk.refl _ _) ?_
 refine Qc9 (Wk.refl _ _) ?_
 simp +decide (disch := first | exact D0 | fail) only [go_sem, ↓reduceIte]
 refine Qal (by repeat (first | exact Q5 | exact Qq | exact Qr | exact Qt | exact Qu | apply Qp | apply Qz | apply Q9 | apply Qaf | apply Qag | apply Qm | apply Q7)) [(2, 2), (6, 6), (8, 9), (33, 80)] [8, 46, 47, 52] (fun q J hp => J 33 = .int .i64 (0 : Nat) /\ J 2 = .nilS /\ hp 3 = some ⟨3, 24, [.agg [.int .i64 0, .int .i64 0, .nilS]], false⟩) 0 ?_ ?_
 ·simp +decide (disch := first | exact D0 | fail) only [go_sem, ↓reduceIte]
  exact ⟨rfl, rfl⟩
 rintro _ J h ⟨h33, h2, h3⟩
 simp +decide (disch := first | exact D3 h33 h2 h3 | fail) only [go_sem, ↓reduceIte, h33, h2, h3]
 refine Qc9 (Wk.refl _ _) ?_
 simp +decide (disch := first | exact D3 h33 h2 h3 | fail) only [go_sem, ↓reduceIte, h33, h2, h3]
 refine Qfy (Qqi ?_)
 simp +decide (disch := first | exact D3 h33 h2 h3 | fail) only [go_sem, ↓reduceIte, h33, h2, h3]
 exact Qhm rfl rfl rfl rfl Qoe Qfj (Qv _)
end Go.Proofs.YtmnkngmmfnncoaaGreat
namespace Go.Proofs.YtmnkngmmfnncoaaGreat
open Go Go.FW
set_option linter.unusedSimpArgs false
set_option linter.unusedVariables false
set_option maxRecDepth 100000
theorem Q77 {R m k : Nat} {l : List Rat} {x : Nat -> Rat} (hl : l.length = R * m) (hR2 : R <= 40) (hm : m <= 40) (hs : ∀ q ∈ l, rs q <= k) (hx : ∀ i, i < m -> rs (x i) <= k) (h1 : 1 <= k) (hk : k <= 2 ^ 24) :
  Qd Tryz.prog 35 [PV.mat R m l, .sl 3 (Q6 PV.rat x m)] (· = .sl 3 (Q6 PV.rat (fun r => Qn (Qam l m r) x m) R)) := by
 refine Qg Ql Tryz.func35 rfl Qae6 (by simp [c35]) fun C hP => ?_; simp only [c35, Zo, Zg, Zm, Zc, Zf, Zl, Zh, Zs, Zi, Zb, Zk, Zn, Zu, Zq, Zr, Zz]
 simp +decide (disch := first | exact D0 | fail) only [go_sem, ↓reduceIte]
 refine Qi6 5 900 3 32 (by omega) T0 ?_
 refine Qal (by repeat (first | exact Q5 | exact Qq | exact Qr | exact Qt | exact Qu | apply Qp | apply Qz | apply Q9 | apply Qaf | apply Qag | apply Qm | apply Q7)) [(5, 29)] [28, 29, 900] (fun n J hp => ∃ i, n = R - i /\ i <= R /\ J 5 = .ms 900 i /\ J 6 = .int .i64 (i : Nat) /\ hp 2 = some ⟨3, 24, [PV.mat R m l], false⟩ /\ hp 900 = some ⟨3, 32, ((List.range i).map fun r => Qn (Qam l m r) x m).map PV.rat, false⟩) R ?_ ?_
 ·refine ⟨0, rfl, by omega, ?_⟩
  simp +decide (disch := first | exact D0 | fail) only [go_sem, ↓reduceIte]
  exact ⟨rfl, rfl⟩
 rintro _ J h ⟨i, rfl, hi, h5, h6, h2, hh⟩
 simp +decide (disch := first | exact D3 h5 h6 h2 | fail) only [go_sem, ↓reduceIte, h5, h6, h2]
 refine Qb (fun hg => ?_) (fun hg => ?_)
 ·have hi' : i < R := by omega
  have hb1 : (i + 1) * m <= R * m := Nat.mul_le_mul_right _ hi'
  have hb2 : i * m <= (i + 1) * m := Nat.mul_le_mul_right _ (by omega)
  have e1 : (i : Int) * (m : Int) = ((i * m : Nat) : Int) := by rw [Int.natCast_mul]
  have e2 : ((i : Int) + 1) * (m : Int) = (((i + 1) * m : Nat) : Int) := by rw [Int.natCast_mul]; rfl
  have hcr := Qsy hl hi'
  have hRm : R * m <= 40 * 40 := Nat.mul_le_mul hR2 hm
  have d1 := Qafi (x := Qam l m i) (y := x) (w := m) (k := k) (by omega) (fun c _ => Qln h1 hs) hx hk
  simp +decide (disch := first | exact D5 h5 h6 h2 e1 e2 | fail) only [go_sem, ↓reduceIte, h5, h6, h2, e1, e2]
  rw [hcr]
  refine Qa hP d1 rfl rfl rfl ?_
  generalize hy : Qn (Qam l m i) x m = y at *
  simp +decide (disch := first | exact D3 h5 h6 h2 | fail) only [go_sem, ↓reduceIte, h5, h6, h2]
  rw [Qcw (f := PV.rat) (y := y) (xs := (List.range i).map fun r => Qn (Qam l m r) x m) (ty' := 32) (fz := false) (T1 hh) Tr0 (by omega) (by simp) (by omega) (by omega)]
  simp +decide (disch := first | exact D3 h5 h6 h2 | fail) only [go_sem, ↓reduceIte, h5, h6, h2]
  refine Qad (R - (i + 1)) (by omega) ⟨i + 1, rfl, by omega, ?_⟩
  simp +decide (disch := first | exact D1 h2 | fail) only [go_sem, ↓reduceIte, h2]
  rw [List.map_append (l₁ := List.range i), List.map_cons, List.map_nil, hy]
 ·obtain rfl : i = R := by omega
  simp +decide (disch := first | exact E2 h5 hh | fail) only [go_sem, ↓reduceIte, h5, hh, Qx, List.contains_cons, List.contains_nil, List.flatMap_cons, List.flatMap_nil, List.append_nil]
  refine Qc ?_ rfl
  rw [List.take_of_length_le (by simp), Qpg]
theorem Q3j {x : Nat -> Rat} {n : Nat} : PV.sl 3 (Q6 PV.rat x n) = PV.rats ((List.range n).map x) := by rw [PV.rats, Qpg]
end Go.Proofs.YtmnkngmmfnncoaaGreat
namespace Go.Proofs.YtmnkngmmfnncoaaGreat
open Go Go.FW
set_option linter.unusedSimpArgs false
set_option linter.unusedVariables false
set_option maxRecDepth 100000
inductive Spl (R : Nat) : MF -> List LF -> Prop
 | nil {M : MF} (h : ∀ i, i < R -> ∀ k, k < R -> M i k = 0) : Spl R M []
 | one {M : MF} {f : LF} {L : List LF} (i : Nat) (hi : i < R) (α : Rat) (hw : f.1 ≠ 0) (h2 : ∀ c, f.2 c = α * M i c) (hfi : f.2 i ≠ 0) (hz : ∀ c, c < R -> Qbo M f i c = 0) (hL : Spl R (Qbo M f) L) : Spl R M (f :: L)
 | two {M : MF} {f g : LF} {L : List LF} (i k : Nat) (hi : i < R) (hk : k < R) (a : Rat) (ha : a ≠ 0) (wf : f.1 ≠ 0) (wg : g.1 ≠ 0) (hf : ∀ c, f.2 c = M i c + M k c) (hg : ∀ c, g.2 c = M i c - M k c)
   (fi : f.2 i = a) (fk : f.2 k = a) (gi : g.2 i = -a) (gk : g.2 k = a) (hzi : ∀ c, c < R -> Qbo (Qbo M f) g i c = 0) (hzk : ∀ c, c < R -> Qbo (Qbo M f) g k c = 0) (hL : Spl R (Qbo (Qbo M f) g) L) : Spl R M (f :: g :: L)
theorem Q78 {R : Nat} {M : MF} {L : List LF} (hs : Sym R M) (h : Spl R (Qdb M (Qbe M R)) L) : Spl R M (Qbe M R ++ L) := by
 unfold Qbe at h ⊢
 by_cases hd : Qdw M R < R
 ·rw [if_pos hd] at h ⊢
  have h0 := Qv7 hd
  generalize Qdw M R = i at *
  obtain ⟨p, hp⟩ : ∃ p, M i i = p := ⟨_, rfl⟩
  rw [hp] at h0 h ⊢
  have hq : 1 / p * p = 1 := by rw [Rat.div_def, Rat.one_mul, Rat.inv_mul_cancel _ h0]
  generalize 1 / p = q at *
  have f2 : ∀ c, Qea (fun _ => 0) (M i) q c = q * M i c := fun c => Rat.zero_add _
  refine Spl.one i hd q h0 f2 ?_ ?_ h
  ·show Qea (fun _ => 0) (M i) q i ≠ 0
   rw [f2, hp, hq]; decide
  ·intro c hc
   show M i c - p * Qea (fun _ => 0) (M i) q i * Qea (fun _ => 0) (M i) q c = 0
   rw [f2, f2, hp, hq]
   grind
 rw [if_neg hd] at h ⊢
 by_cases hr0 : Qdo M R < R
 ·rw [if_pos hr0] at h ⊢
  have hb0 := Qx9 hr0
  have h0 := Qx8 hb0
  have hdz := Qv8 hd
  generalize Qdo M R = a at *
  generalize Qe1 M R a = b at *
  obtain ⟨α, hα⟩ : ∃ α, M a b = α := ⟨_, rfl⟩
  rw [hα] at h0 h ⊢
  have h2 : α + α ≠ 0 := fun h => h0 (by grind)
  have hwα : 1 / (α + α) * (α + α) = 1 := by rw [Rat.div_def, Rat.one_mul, Rat.inv_mul_cancel _ h2]
  generalize 1 / (α + α) = w at *
  have hw0 : w ≠ 0 := fun e => by rw [e] at hwα; grind
  have hba : M b a = α := by rw [hs b hb0 a hr0, hα]
  have haa := hdz a hr0
  have hbb := hdz b hb0
  refine Spl.two a b hr0 hb0 α h0 hw0 (fun e => hw0 (by grind)) ?_ ?_ ?_ ?_ ?_ ?_ ?_ ?_ h
  ·intro c; show M a c + 1 * M b c = _; grind
  ·intro c; show M a c + -1 * M b c = _; grind
  ·show M a a + 1 * M b a = _; rw [haa, hba]; grind
  ·show M a b + 1 * M b b = _; rw [hα, hbb]; grind
  ·show M a a + -1 * M b a = _; rw [haa, hba]; grind
  ·show M a b + -1 * M b b = _; rw [hα, hbb]; grind
  ·intro c hc
   show M a c - w * (M a a + 1 * M b a) * (M a c + 1 * M b c) - -w * (M a a + -1 * M b a) * (M a c + -1 * M b c) = 0
   rw [haa, hba]; grind
  ·intro c hc
   show M b c - w * (M a b + 1 * M b b) * (M a c + 1 * M b c) - -w * (M a b + -1 * M b b) * (M a c + -1 * M b c) = 0
   rw [hα, hbb]; grind
 rw [if_neg hr0] at h ⊢
 exact h
theorem Qs6 {R : Nat} : ∀ {M : MF} (L : List LF), Sym R M -> Sym R (Qdb M L)
 | _, [], h => h
 | _, f :: L, h => Qs6 (M := Qbo _ f) L (Qcb h)
theorem Qwc {R : Nat} {M : MF} (hs : Sym R M) : ∀ k, Sym R (Qak R M k).1
 | 0 => hs
 | k + 1 => by rw [Qii]; exact Qs6 _ (Qwc hs k)
theorem Qyd {R : Nat} {M : MF} (hs : Sym R M) : ∀ k L, Spl R (Qak R M k).1 L -> Spl R M ((Qak R M k).2 ++ L)
 | 0, L, h => h
 | k + 1, L, h => by
  rw [Qii] at h ⊢
  have := Qyd hs k _ (Q78 (Qwc hs k) h)
  rw [List.append_assoc]; exact this
theorem Qaco {R b : Nat} {M : MF} (hR : 0 < R) (hs : Sym R M) (hb : 3 <= b) (hM : MBd b R R M) : Spl R M (Qak R M (2 * R)).2 := by
 have hend : ∃ j, j <= R /\ Qbe (Qak R M j).1 R = [] := by
  refine Classical.byContradiction fun hn => ?_
  have := Qya hs hb hM (R + 1) fun j hj h => hn ⟨j, by omega, h⟩
  omega
 obtain ⟨j, hj, hn⟩ := hend
 have e := Qph hn (2 * R - j)
 rw [show j + (2 * R - j) = 2 * R by omega] at e
 have := Qyd hs (2 * R) [] (by rw [e]; exact .nil (Q3g hn))
 rwa [List.append_nil] at this
theorem Qgo {M : MF} {f : LF} {x : Nat -> Rat} {r : Nat} : ∀ n, Qn (Qbo M f r) x n = Qn (M r) x n - f.1 * f.2 r * Qn f.2 x n := fun n => by
 rw [<- Qi8]
 rfl
theorem Qacp {R : Nat} {M : MF} {L : List LF} (h : Spl R M L) {x : Nat -> Rat} : Qkx M R R x -> ∀ f ∈ L, Qn f.2 x R = 0 := by
 induction h with
 | nil h => intro _ f hf; cases hf
 | @one M f L i hi α hw h2 hfi hz hL ih =>
  intro hx
  have hf : Qn f.2 x R = 0 := by
   have e : Qn f.2 x R = Qn (fun c => 0 - (-α) * M i c) x R := Qem R fun c _ => ⟨by rw [h2]; grind, rfl⟩
   rw [e, Qi8, hx i hi, Qht R fun _ _ => rfl]; grind
  intro g hg
  rcases List.mem_cons.1 hg with rfl | hg
  ·exact hf
  ·exact ih (fun r hr => by rw [Qgo, hx r hr, hf]; grind) g hg
 | @two M f g L i k hi hk a ha wf wg hf hg fi fk gi gk hzi hzk hL ih =>
  intro hx
  have h1 : Qn f.2 x R = 0 := by
   have e : Qn f.2 x R = Qn (fun c => M i c - (-1) * M k c) x R := Qem R fun c _ => ⟨by rw [hf]; grind, rfl⟩
   rw [e, Qi8, hx i hi, hx k hk]; grind
  have h2 : Qn g.2 x R = 0 := by
   have e : Qn g.2 x R = Qn (fun c => M i c - 1 * M k c) x R := Qem R fun c _ => ⟨by rw [hg]; grind, rfl⟩
   rw [e, Qi8, hx i hi, hx k hk]; grind
  intro y hy
  rcases List.mem_cons.1 hy with rfl | hy
  ·exact h1
  ·rcases List.mem_cons.1 hy with rfl | hy
   ·exact h2
   ·exact ih (fun r hr => by rw [Qgo, Qgo, hx r hr, h1, h2]; grind) y hy
theorem Q79 {R : Nat} {M : MF} {L : List LF} (h : Spl R M L) {x : Nat -> Rat} : (∀ f ∈ L, Qn f.2 x R = 0) -> Qkx M R R x := by
 induction h with
 | nil h => intro _ r hr; exact Qht R fun c hc => h r hr c hc
 | @one M f L i hi α hw h2 hfi hz hL ih =>
  intro hx r hr
  have h1 := hx f (List.mem_cons_self ..)
  have := ih (fun g hg => hx g (List.mem_cons_of_mem _ hg)) r hr
  rw [Qgo, h1] at this; grind
 | @two M f g L i k hi hk a ha wf wg hf hg fi fk gi gk hzi hzk hL ih =>
  intro hx r hr
  have h1 := hx f (List.mem_cons_self ..)
  have h2 := hx g (List.mem_cons_of_mem _ (List.mem_cons_self ..))
  have := ih (fun y hy => hx y (List.mem_cons_of_mem _ (List.mem_cons_of_mem _ hy))) r hr
  rw [Qgo, Qgo, h1, h2] at this; grind
theorem Qr8 {R : Nat} {M : MF} {L : List LF} (h : Spl R M L) {j : Nat} (hj : j < R) : Sym R M -> (∀ c, c < R -> M j c = 0) -> ∀ f ∈ L, f.2 j = 0 := by
 induction h with
 | nil h => intro _ _ f hf; cases hf
 | @one M f L i hi α hw h2 hfi hz hL ih =>
  intro hs hx
  have hf : f.2 j = 0 := by rw [h2, hs i hi j hj, hx i hi]; grind
  intro g hg
  rcases List.mem_cons.1 hg with rfl | hg
  ·exact hf
  ·exact ih (Qcb hs) (fun c hc => by rw [Qty hf]; exact hx c hc) g hg
 | @two M f g L i k hi hk a ha wf wg hf hg fi fk gi gk hzi hzk hL ih =>
  intro hs hx
  have h1 : f.2 j = 0 := by rw [hf, hs i hi j hj, hs k hk j hj, hx i hi, hx k hk]; grind
  have h2 : g.2 j = 0 := by rw [hg, hs i hi j hj, hs k hk j hj, hx i hi, hx k hk]; grind
  intro y hy
  rcases List.mem_cons.1 hy with rfl | hy
  ·exact h1
  ·rcases List.mem_cons.1 hy with rfl | hy
   ·exact h2
   ·exact ih (Qcb (Qcb hs)) (fun c hc => by rw [Qty h2, Qty h1]; exact hx c hc) y hy
def Qh3 : List LF -> (Nat -> Rat) -> Nat -> Rat
 | [], _, _ => 0
 | f :: L, y, c => y 0 * f.2 c + Qh3 L (fun j => y (j + 1)) c
theorem Qi1 {c : Nat} : ∀ (L : List LF) (y : Nat -> Rat), (∀ f ∈ L, f.2 c = 0) -> Qh3 L y c = 0
 | [], _, _ => rfl
 | f :: L, y, h => by
  simp only [Qh3]
  rw [h f (List.mem_cons_self ..), Qi1 L _ fun g hg => h g (List.mem_cons_of_mem _ hg)]; grind
theorem Qacq {R : Nat} {M : MF} {L : List LF} (h : Spl R M L) : ∀ y : Nat -> Rat, Sym R M -> (∀ c, c < R -> Qh3 L y c = 0) -> ∀ j, j < L.length -> y j = 0 := by
 induction h with
 | nil h => intro y _ _ j hj; cases hj
 | @one M f L i hi α hw h2 hfi hz hL ih =>
  intro y hs hx
  have hl := Qi1 L (fun j => y (j + 1)) (Qr8 hL hi (Qcb hs) hz)
  have h1 := hx i hi
  simp only [Qh3] at h1
  rw [hl] at h1
  have h0 : y 0 = 0 := by
   rcases Rat.mul_eq_zero.1 (show y 0 * f.2 i = 0 by grind) with h | h
   ·exact h
   ·exact absurd h hfi
  have ht := ih (fun j => y (j + 1)) (Qcb hs) fun c hc => by
   have := hx c hc
   simp only [Qh3] at this
   rw [h0] at this; grind
  intro j hj
  match j with
  | 0 => exact h0
  | j + 1 => exact ht j (by simpa using hj)
 | @two M f g L i k hi hk a ha wf wg hf hg fi fk gi gk hzi hzk hL ih =>
  intro y hs hx
  have l1 := Qi1 L (fun j => y (j + 1 + 1)) (Qr8 hL hi (Qcb (Qcb hs)) hzi)
  have l2 := Qi1 L (fun j => y (j + 1 + 1)) (Qr8 hL hk (Qcb (Qcb hs)) hzk)
  have h1 := hx i hi
  have h2 := hx k hk
  simp only [Qh3] at h1 h2
  rw [l1, fi, gi] at h1
  rw [l2, fk, gk] at h2
  have e1 : y 1 = 0 := by
   rcases Rat.mul_eq_zero.1 (show y 1 * a = 0 by grind) with h | h
   ·exact h
   ·exact absurd h ha
  have e0 : y 0 = 0 := by
   rcases Rat.mul_eq_zero.1 (show y 0 * a = 0 by grind) with h | h
   ·exact h
   ·exact absurd h ha
  have ht := ih (fun j => y (j + 1 + 1)) (Qcb (Qcb hs)) fun c hc => by
   have := hx c hc
   simp only [Qh3] at this
   rw [e0, e1] at this; grind
  intro j hj
  match j with
  | 0 => exact e0
  | 1 => exact e1
  | j + 2 => exact ht j (by simpa using hj)
end Go.Proofs.YtmnkngmmfnncoaaGreat
namespace Go.Proofs.YtmnkngmmfnncoaaGreat
open Go Go.FW
set_option linter.unusedSimpArgs false
set_option linter.unusedVariables false
set_option maxRecDepth 100000
theorem Qwd {A : Nat -> Nat -> Rat} {e z : Nat -> Rat} {r : Nat} : ∀ n, Qn (fun i => Qn (A i) e r) z n = Qn (fun j => Qn (fun i => A i j) z n) e r
 | 0 => (Qht r fun _ _ => rfl).symm
 | n + 1 => by
  have h := Qwd (A := A) (e := e) (z := z) (r := r) n
  have key : ∀ r, Qn (fun j => Qn (fun i => A i j) z n + A n j * z n) e r = Qn (fun j => Qn (fun i => A i j) z n) e r + Qn (A n) e r * z n := by
   intro r
   induction r with
   | zero => simp only [Qn]; grind
   | succ r ih => simp only [Qn]; rw [ih]; grind
  show Qn (fun i => Qn (A i) e r) z n + Qn (A n) e r * z n = _
  rw [h]
  exact (key r).symm
theorem Qpl {x y : Nat -> Rat} : ∀ n, Qn x y (n + 1) = x 0 * y 0 + Qn (fun i => x (i + 1)) (fun i => y (i + 1)) n
 | 0 => by simp only [Qn]; grind
 | n + 1 => by
  have h := Qpl (x := x) (y := y) n
  show Qn x y (n + 1) + x (n + 1) * y (n + 1) = _
  rw [h]
  simp only [Qn]; grind
theorem Qz6 {l : List Nat} (hs : l.Pairwise (· < ·)) {r : Nat} (h : ∀ k, k < r -> k ∈ l) : r <= l.length := by
 have key : ∀ k, k < r -> ∀ j (hj : j < l.length), l[j] = k -> k <= j := by
  intro k
  induction k with
  | zero => intro _ j _ _; omega
  | succ k ih =>
   intro hk j hj e
   obtain ⟨i, hi, e2⟩ := List.getElem_of_mem (h k (by omega))
   have h1 := ih (by omega) i hi e2
   have h2 : i < j := by
    rcases Nat.lt_or_ge i j with h | h
    ·exact h
    ·rcases Nat.lt_or_ge j i with h3 | h3
     ·have := Qv2 hs h3 hi; omega
     ·have : i = j := by omega
      subst this; omega
   omega
 cases r with
 | zero => omega
 | succ r =>
  obtain ⟨i, hi, e⟩ := List.getElem_of_mem (h r (by omega))
  have := key r (by omega) i hi e
  omega
theorem Qye {n r : Nat} {C : MF} (h : ∀ z, Qkx C n r z -> ∀ j, j < r -> z j = 0) : r <= n := by
 refine Classical.byContradiction fun hn => ?_
 have hp := Qdn n C r
 have hs := Qfk n C r
 have : ∃ k, k < r /\ k ∉ (Qae n C r).piv := by
  refine Classical.byContradiction fun hno => ?_
  have := Qz6 hs (r := r) fun k hk => Classical.byContradiction fun hk2 => hno ⟨k, hk, hk2⟩
  omega
 obtain ⟨k, hk, hkp⟩ := this
 have h1 := h _ (Qyc hk hkp) k hk
 rw [Qmp, Qmo _ (Nat.le_refl _) fun i hi _ e => hkp (by rw [<- e]; exact List.getElem_mem hi)] at h1
 rw [if_pos rfl] at h1
 exact absurd h1 (by decide)
theorem Qpm {piv : List Nat} {w : Nat} {f x val : Nat -> Rat} (hs : piv.Pairwise (· < ·)) (hw : ∀ y ∈ piv, y < w) (hx : ∀ y ∈ piv, x y = 0) : ∀ j, j <= piv.length -> Qn f (Qhf piv x val j) w = Qn f x w + Qn (fun i => f (piv.getD i 0)) val j
 | 0, _ => by simp only [Qhf, Qn]; grind
 | j + 1, hj => by
  have hj' : j < piv.length := by omega
  have h := Qpm (f := f) (val := val) hs hw hx j (by omega)
  have e : piv.getD j 0 = piv[j] := by rw [List.getD_eq_getElem?_getD, List.getElem?_eq_getElem (by omega), Option.getD_some]
  have hm : piv[j] ∈ piv := List.getElem_mem hj'
  have h0 : Qhf piv x val j piv[j] = 0 := by
   rw [Qmo j (by omega) fun i hi hij => by have := Qv2 hs hij hj'; omega]
   exact hx _ hm
  simp only [Qhf, Qn]
  rw [e, Qlo, h, if_pos (hw _ hm), h0]; grind
theorem Q8a {R m : Nat} {M : MF} {f : Nat -> Rat} (hf : ∀ x, Qkx M R m x -> Qn f x m = 0) {c : Nat} (hc : c < m) : f c = Qn (fun j => f ((Qae R M m).piv.getD j 0)) (fun j => (Qae R M m).M j c) (Qae R M m).piv.length := by
 have hp := Qdn R M m
 have hs := Qfk R M m
 have hu := Qkg (R := R) (M := M) m
 by_cases hcp : c ∈ (Qae R M m).piv
 ·obtain ⟨i, hi, rfl⟩ := List.getElem_of_mem hcp
  have key : ∀ n, n <= (Qae R M m).piv.length -> Qn (fun j => f ((Qae R M m).piv.getD j 0)) (fun j => (Qae R M m).M j (Qae R M m).piv[i]) n = if i < n then f (Qae R M m).piv[i] else 0 := by
   intro n
   induction n with
   | zero => intro _; rw [if_neg (by omega)]; rfl
   | succ n ih =>
    intro hn
    show Qn (fun j => f ((Qae R M m).piv.getD j 0)) (fun j => (Qae R M m).M j (Qae R M m).piv[i]) n + f ((Qae R M m).piv.getD n 0) * (Qae R M m).M n (Qae R M m).piv[i] = _
    rw [ih (by omega), hu.1 i hi n (by omega)]
    by_cases e : n = i
    ·subst e
     rw [if_pos rfl, if_neg (by omega), if_pos (by omega), List.getD_eq_getElem?_getD, List.getElem?_eq_getElem (by omega), Option.getD_some]; grind
    ·rw [if_neg e]
     by_cases e2 : i < n
     ·rw [if_pos e2, if_pos (by omega)]; grind
     ·rw [if_neg e2, if_neg (by omega)]; grind
  rw [key _ (Nat.le_refl _), if_pos hi]
 ·have h1 := hf _ (Qyc (R := R) (M := M) hc hcp)
  rw [Qmp, Qpm hs hp.2.2 (fun y hy => if_neg fun e => hcp (by rw [<- e]; exact hy)) _ (Nat.le_refl _)] at h1
  have hd : Qn f (fun d => if d = c then 1 else 0) m = f c := by
   rw [Qlo (x := fun _ => 0), Qij, if_pos hc]; grind
  have hn : ∀ n, Qn (fun i => f ((Qae R M m).piv.getD i 0)) (fun j => -((Qae R M m).M j c)) n = -Qn (fun i => f ((Qae R M m).piv.getD i 0)) (fun j => (Qae R M m).M j c) n := by
   intro n
   induction n with
   | zero => simp only [Qn]; grind
   | succ n ih => simp only [Qn]; rw [ih]; grind
  rw [hd, hn] at h1
  grind
theorem Q8b {R m : Nat} {M : MF} {z : Nat -> Rat} (h : Qkx M R m (Qhf (Qae R M m).piv (fun _ => 0) z (Qae R M m).piv.length)) : ∀ j, j < (Qae R M m).piv.length -> z j = 0 := by
 have hp := Qdn R M m
 rw [<- Qpk (k := m)] at h
 intro j hj
 have := h j (by omega)
 rw [Qr7 (Qfk R M m) (Qkg m) hp.2.2 (fun _ _ => rfl) (by omega) _ (Nat.le_refl _), Qij, if_pos hj] at this
 grind
def Qb9 (L : List LF) (i : Nat) : LF := L.getD i (0, fun _ => 0)
theorem Qs7 {c : Nat} : ∀ (L : List LF) (y : Nat -> Rat), Qh3 L y c = Qn (fun i => (Qb9 L i).2 c) y L.length
 | [], _ => rfl
 | f :: L, y => by
  rw [List.length_cons, Qpl]
  simp only [Qh3]
  rw [Qs7 L]
  show y 0 * f.2 c + _ = f.2 c * y 0 + Qn (fun i => (Qb9 L i).2 c) (fun i => y (i + 1)) L.length
  grind
theorem Qnr {L : List LF} {i : Nat} (h : i < L.length) : Qb9 L i ∈ L := by
 unfold Qb9
 rw [List.getD_eq_getElem?_getD, List.getElem?_eq_getElem h, Option.getD_some]; exact List.getElem_mem h
theorem Q3k {L : List LF} {f : LF} (h : f ∈ L) : ∃ i, i < L.length /\ Qb9 L i = f := by
 obtain ⟨i, hi, rfl⟩ := List.getElem_of_mem h
 refine ⟨i, hi, ?_⟩
 unfold Qb9
 rw [List.getD_eq_getElem?_getD, List.getElem?_eq_getElem hi, Option.getD_some]
theorem Q8c {R : Nat} {M : MF} {L : List LF} (hs : Sym R M) (h : Spl R M L) : (Qae R M R).piv.length = L.length := by
 have hp := Qdn R M R
 have hso := Qfk R M R
 refine Nat.le_antisymm ?_ ?_
 ·refine Qye (C := fun i j => (Qb9 L i).2 ((Qae R M R).piv.getD j 0)) fun z hz => Q8b (Q79 h fun f hf => ?_)
  obtain ⟨i, hi, rfl⟩ := Q3k hf
  rw [Qpm hso hp.2.2 (fun _ _ => rfl) _ (Nat.le_refl _), Qij, hz i hi]; grind
 ·refine Qye (C := fun j i => (Qb9 L i).2 ((Qae R M R).piv.getD j 0)) fun z hz => Qacq h z hs fun c hc => ?_
  rw [Qs7]
  have e : Qn (fun i => (Qb9 L i).2 c) z L.length = Qn (fun i => Qn (fun j => (Qb9 L i).2 ((Qae R M R).piv.getD j 0)) (fun j => (Qae R M R).M j c) (Qae R M R).piv.length) z L.length :=
   Qem _ fun i hi => ⟨Q8a (fun x hx => Qacp h hx _ (Qnr hi)) hc, rfl⟩
  rw [e, Qwd]
  exact Qht _ fun j hj => hz j hj
theorem Qkh {M : MF} {f : LF} {x : Nat -> Rat} {w : Nat} : ∀ n, Qc2 M x w n = Qc2 (Qbo M f) x w n + f.1 * Qn f.2 x n * Qn f.2 x w
 | 0 => by simp only [Qc2, Qn]; grind
 | n + 1 => by
  have h := Qkh (M := M) (f := f) (x := x) (w := w) n
  simp only [Qc2, Qn]
  rw [h, Qgo]; grind
theorem Qs8 {M : MF} {x : Nat -> Rat} {w : Nat} : ∀ n, (∀ r, r < n -> ∀ c, c < w -> M r c = 0) -> Qc2 M x w n = 0
 | 0, _ => rfl
 | n + 1, h => by
  simp only [Qc2]
  rw [Qs8 n fun r hr => h r (by omega), Qht w fun c hc => h n (by omega) c hc]; grind
def sqF (L : List LF) (x : Nat -> Rat) (R : Nat) : Nat -> Rat := Qn (fun i => (Qb9 L i).1) (fun i => Qn (Qb9 L i).2 x R * Qn (Qb9 L i).2 x R)
theorem Qpn {f : LF} {L : List LF} {x : Nat -> Rat} {R : Nat} : sqF (f :: L) x R (f :: L).length = f.1 * (Qn f.2 x R * Qn f.2 x R) + sqF L x R L.length := by
 unfold sqF
 rw [List.length_cons, Qpl]; rfl
theorem Q8d {R : Nat} {M : MF} {L : List LF} (h : Spl R M L) {x : Nat -> Rat} : Qc2 M x R R = sqF L x R L.length := by
 induction h with
 | nil h => rw [Qs8 R fun r hr c hc => h r hr c hc]; rfl
 | @one M f L i hi α hw h2 hfi hz hL ih => rw [Qkh (f := f) R, ih, Qpn]; grind
 | @two M f g L i k hi hk a ha wf wg hf hg fi fk gi gk hzi hzk hL ih =>
  rw [Qkh (f := f) R, Qkh (f := g) R, ih, Qpn, Qpn]; grind
theorem Qagt {R : Nat} {M : MF} {L : List LF} (h : Spl R M L) : ∀ f ∈ L, f.1 ≠ 0 := by
 induction h with
 | nil h => intro f hf; cases hf
 | @one M f L i hi α hw h2 hfi hz hL ih =>
  intro g hg
  rcases List.mem_cons.1 hg with rfl | hg
  ·exact hw
  ·exact ih g hg
 | @two M f g L i k hi hk a ha wf wg hf hg fi fk gi gk hzi hzk hL ih =>
  intro y hy
  rcases List.mem_cons.1 hy with rfl | hy
  ·exact wf
  ·rcases List.mem_cons.1 hy with rfl | hy
   ·exact wg
   ·exact ih y hy
theorem Qagu (x : Rat) : 0 <= x * x := by
 rcases Rat.le_total (a := 0) (b := x) with h | h
 ·exact Rat.mul_nonneg h h
 ·have h2 : 0 <= -x := by grind
  have := Rat.mul_nonneg h2 h2
  grind
theorem Q3l {L : List LF} {x : Nat -> Rat} {R : Nat} : ∀ n, (∀ i, i < n -> 0 <= (Qb9 L i).1) -> 0 <= sqF L x R n
 | 0, _ => Rat.le_refl
 | n + 1, h => by
  have h1 := Q3l (x := x) (R := R) n fun i hi => h i (by omega)
  have h2 := Rat.mul_nonneg (h n (by omega)) (Qagu (Qn (Qb9 L n).2 x R))
  show 0 <= sqF L x R n + (Qb9 L n).1 * (Qn (Qb9 L n).2 x R * Qn (Qb9 L n).2 x R)
  grind
end Go.Proofs.YtmnkngmmfnncoaaGreat
namespace Go.Proofs.YtmnkngmmfnncoaaGreat
open Go Go.FW
set_option linter.unusedSimpArgs false
set_option linter.unusedVariables false
set_option maxRecDepth 100000
theorem Qyf {R K n : Nat} {M : MF} (hB : Qr5 K R n M) : ∀ k, k <= n -> ∀ f ∈ (Qak R M k).2, rs f.1 <= K /\ ∀ c, c < R -> rs (f.2 c) <= K
 | 0, _, f, hf => by simp [Qak] at hf
 | k + 1, hk, f, hf => by
  rw [Qii] at hf
  rcases List.mem_append.1 hf with hf | hf
  ·exact Qyf hB k (by omega) f hf
  ·exact (hB k (by omega)).2.1 f hf
end Go.Proofs.YtmnkngmmfnncoaaGreat
namespace Go.Proofs.YtmnkngmmfnncoaaGreat
open Go Go.FW
set_option linter.unusedSimpArgs false
set_option linter.unusedVariables false
set_option maxRecDepth 100000
def Qd8 (w : Nat -> Rat) : Nat -> Rat
 | 0 => 0
 | i + 1 => if w i < 0 then w i else Qd8 w i
theorem Qq5 {w : Nat -> Rat} : ∀ n, (∃ i, i < n /\ w i < 0) -> Qd8 w n < 0
 | 0, ⟨i, hi, _⟩ => by omega
 | n + 1, ⟨i, hi, h⟩ => by
  simp only [Qd8]
  split
  ·assumption
  ·rename_i hn
   exact Qq5 n ⟨i, by rcases Nat.lt_or_ge i n with h2 | h2; exact h2; exact absurd (show w n < 0 by rw [show n = i by omega]; exact h) hn, h⟩
theorem Qs9 {w : Nat -> Rat} {K : Nat} (hK : 1 <= K) : ∀ n, (∀ i, i < n -> rs (w i) <= K) -> rs (Qd8 w n) <= K
 | 0, _ => by have := Qru; simp only [Qd8]; omega
 | n + 1, h => by
  simp only [Qd8]
  split
  ·exact h n (by omega)
  ·exact Qs9 hK n fun i hi => h i (by omega)
theorem Qtn {r c : Int} {l x : List RQ} (hl : Qb7 l) (hx : Qb7 x) (h : ¬ (Qb8 l 25 = true /\ Qbl r c l = true /\ Qb8 x 8 = true /\ (x.length : Int) = c)) : Qd Tryz.prog 6 [PV.rmat r c l, PV.rqs x] (· = .bool true) := by
 have hsm := Qmn (l := [⟨r, c, l⟩]) (by simpa using hl) (by simp)
 simp only [List.all_cons, List.all_nil, Bool.and_true] at hsm
 have hsx := Qju (n := 8) hx
 have hr := Qhr (r := r) (c := c) hl
 have hxl := hx.1
 cases h1 : Qb8 l 25
 ·rw [h1] at hsm
  refine Qg Ql Tryz.func6 rfl Qml (by simp [c6]) fun C hP => ?_; simp only [c6, Zo, Zg, Zm, Zc, Zf, Zl, Zh, Zs, Zi, Zb, Zk, Zn, Zu, Zq, Zr, Zz]
  simp +decide (disch := first | exact D0 | fail) only [go_sem, ↓reduceIte]
  refine Qcd hP hsm Ur0 rfl ?_
  simp +decide (disch := first | exact E0 | fail) only [go_sem, ↓reduceIte, Qx, List.contains_cons, List.contains_nil, List.flatMap_cons, List.flatMap_nil, List.append_nil]
  refine Qa hP Qfz rfl rfl rfl ?_
  simp +decide (disch := first | exact E0 | fail) only [go_sem, ↓reduceIte, Qx, List.contains_cons, List.contains_nil, List.flatMap_cons, List.flatMap_nil, List.append_nil]
  exact Qc rfl rfl
 rw [h1] at hsm
 cases h2 : Qbl r c l
 ·rw [h2] at hr
  refine Qg Ql Tryz.func6 rfl Qml (by simp [c6]) fun C hP => ?_; simp only [c6, Zo, Zg, Zm, Zc, Zf, Zl, Zh, Zs, Zi, Zb, Zk, Zn, Zu, Zq, Zr, Zz]
  simp +decide (disch := first | exact D0 | fail) only [go_sem, ↓reduceIte]
  refine Qcd hP hsm Ur0 rfl ?_
  simp +decide (disch := first | exact E0 | fail) only [go_sem, ↓reduceIte, Qx, List.contains_cons, List.contains_nil, List.flatMap_cons, List.flatMap_nil, List.append_nil]
  refine Qa hP hr rfl rfl rfl ?_
  simp +decide (disch := first | exact E0 | fail) only [go_sem, ↓reduceIte, Qx, List.contains_cons, List.contains_nil, List.flatMap_cons, List.flatMap_nil, List.append_nil]
  refine Qa hP Qfz rfl rfl rfl ?_
  simp +decide (disch := first | exact E0 | fail) only [go_sem, ↓reduceIte, Qx, List.contains_cons, List.contains_nil, List.flatMap_cons, List.flatMap_nil, List.append_nil]
  exact Qc rfl rfl
 rw [h2] at hr
 cases h3 : Qb8 x 8
 ·rw [h3] at hsx
  refine Qg Ql Tryz.func6 rfl Qml (by simp [c6]) fun C hP => ?_; simp only [c6, Zo, Zg, Zm, Zc, Zf, Zl, Zh, Zs, Zi, Zb, Zk, Zn, Zu, Zq, Zr, Zz]
  simp +decide (disch := first | exact D0 | fail) only [go_sem, ↓reduceIte]
  refine Qcd hP hsm Ur0 rfl ?_
  simp +decide (disch := first | exact E0 | fail) only [go_sem, ↓reduceIte, Qx, List.contains_cons, List.contains_nil, List.flatMap_cons, List.flatMap_nil, List.append_nil]
  refine Qa hP hr rfl rfl rfl ?_
  simp +decide (disch := first | exact E0 | fail) only [go_sem, ↓reduceIte, Qx, List.contains_cons, List.contains_nil, List.flatMap_cons, List.flatMap_nil, List.append_nil]
  refine Qa hP hsx rfl rfl rfl ?_
  simp +decide (disch := first | exact E0 | fail) only [go_sem, ↓reduceIte, Qx, List.contains_cons, List.contains_nil, List.flatMap_cons, List.flatMap_nil, List.append_nil]
  refine Qa hP Qfz rfl rfl rfl ?_
  simp +decide (disch := first | exact E0 | fail) only [go_sem, ↓reduceIte, Qx, List.contains_cons, List.contains_nil, List.flatMap_cons, List.flatMap_nil, List.append_nil]
  exact Qc rfl rfl
 rw [h3] at hsx
 have h4 : ¬ (x.length : Int) = c := fun h4 => h ⟨h1, h2, h3, h4⟩
 refine Qg Ql Tryz.func6 rfl Qml (by simp [c6]) fun C hP => ?_; simp only [c6, Zo, Zg, Zm, Zc, Zf, Zl, Zh, Zs, Zi, Zb, Zk, Zn, Zu, Zq, Zr, Zz]
 simp +decide (disch := first | exact D0 | fail) only [go_sem, ↓reduceIte]
 refine Qcd hP hsm Ur0 rfl ?_
 simp +decide (disch := first | exact E0 | fail) only [go_sem, ↓reduceIte, Qx, List.contains_cons, List.contains_nil, List.flatMap_cons, List.flatMap_nil, List.append_nil]
 refine Qa hP hr rfl rfl rfl ?_
 simp +decide (disch := first | exact E0 | fail) only [go_sem, ↓reduceIte, Qx, List.contains_cons, List.contains_nil, List.flatMap_cons, List.flatMap_nil, List.append_nil]
 refine Qa hP hsx rfl rfl rfl ?_
 simp +decide (disch := first | exact E1 h4 | fail) only [go_sem, ↓reduceIte, Qx, List.contains_cons, List.contains_nil, List.flatMap_cons, List.flatMap_nil, List.append_nil, h4]
 refine Qa hP Qfz rfl rfl rfl ?_
 simp +decide (disch := first | exact E0 | fail) only [go_sem, ↓reduceIte, Qx, List.contains_cons, List.contains_nil, List.flatMap_cons, List.flatMap_nil, List.append_nil]
 exact Qc rfl rfl
theorem Qmx {r c : Int} {l x : List RQ} (hl : Qb7 l) (hx : Qb7 x) (h1 : Qb8 l 25 = true) (h2 : Qbl r c l = true) (h3 : Qb8 x 8 = true) (h4 : (x.length : Int) = c) {e : Int} (he : e ≠ 0) (hred : Qd Tryz.prog 29 [PV.rmat r c l] (· = Qwa e)) : Qd Tryz.prog 6 [PV.rmat r c l, PV.rqs x] (· = .bool true) := by
 have hsm := Qmn (l := [⟨r, c, l⟩]) (by simpa using hl) (by simp)
 simp only [List.all_cons, List.all_nil, Bool.and_true] at hsm
 have hsx := Qju (n := 8) hx
 have hr := Qhr (r := r) (c := c) hl
 have hxl := hx.1
 rw [h1] at hsm
 rw [h2] at hr
 rw [h3] at hsx
 refine Qg Ql Tryz.func6 rfl Qml (by simp [c6]) fun C hP => ?_; simp only [c6, Zo, Zg, Zm, Zc, Zf, Zl, Zh, Zs, Zi, Zb, Zk, Zn, Zu, Zq, Zr, Zz]
 simp +decide (disch := first | exact D0 | fail) only [go_sem, ↓reduceIte]
 refine Qcd hP hsm Ur0 rfl ?_
 simp +decide (disch := first | exact E0 | fail) only [go_sem, ↓reduceIte, Qx, List.contains_cons, List.contains_nil, List.flatMap_cons, List.flatMap_nil, List.append_nil]
 refine Qa hP hr rfl rfl rfl ?_
 simp +decide (disch := first | exact E0 | fail) only [go_sem, ↓reduceIte, Qx, List.contains_cons, List.contains_nil, List.flatMap_cons, List.flatMap_nil, List.append_nil]
 refine Qa hP hsx rfl rfl rfl ?_
 simp +decide (disch := first | exact E1 h4 | fail) only [go_sem, ↓reduceIte, Qx, List.contains_cons, List.contains_nil, List.flatMap_cons, List.flatMap_nil, List.append_nil, h4]
 refine Qa hP hred rfl rfl rfl ?_
 simp +decide (disch := first | exact E1 he | fail) only [go_sem, ↓reduceIte, Qx, List.contains_cons, List.contains_nil, List.flatMap_cons, List.flatMap_nil, List.append_nil, he]
 refine Qa hP Qfz rfl rfl rfl ?_
 simp +decide (disch := first | exact E0 | fail) only [go_sem, ↓reduceIte, Qx, List.contains_cons, List.contains_nil, List.flatMap_cons, List.flatMap_nil, List.append_nil]
 exact Qc rfl rfl
theorem Qto {r c : Int} {l x : List RQ} (hl : Qb7 l) (hx : Qb7 x) (h1 : Qb8 l 25 = true) (h2 : Qbl r c l = true) (h3 : Qb8 x 8 = true) (h4 : (x.length : Int) = c) {w : List Rat} {F : PV} {v : Int} (hred : Qd Tryz.prog 29 [PV.rmat r c l] (· = .tup [PV.rats w, F, .int .i64 0])) (hF : ∃ a b d, F = .agg [.int .i64 a, .int .i64 b, .sl 3 d]) (hrank : Qd Tryz.prog 18 [PV.rmat r c l] (· = .tup [.int .i64 v, .int .i64 0])) (hquad : Qd Tryz.prog 31 [PV.rmat r c l, PV.rqs x] (· = .tup [PV.rr false [] [], .int .i64 1])) : Qd Tryz.prog 6 [PV.rmat r c l, PV.rqs x] (· = .bool true) := by
 obtain ⟨a, b, d, rfl⟩ := hF
 have hsm := Qmn (l := [⟨r, c, l⟩]) (by simpa using hl) (by simp)
 simp only [List.all_cons, List.all_nil, Bool.and_true] at hsm
 have hsx := Qju (n := 8) hx
 have hr := Qhr (r := r) (c := c) hl
 have hxl := hx.1
 rw [h1] at hsm
 rw [h2] at hr
 rw [h3] at hsx
 refine Qg Ql Tryz.func6 rfl Qml (by simp [c6]) fun C hP => ?_; simp only [c6, Zo, Zg, Zm, Zc, Zf, Zl, Zh, Zs, Zi, Zb, Zk, Zn, Zu, Zq, Zr, Zz]
 simp +decide (disch := first | exact D0 | fail) only [go_sem, ↓reduceIte]
 refine Qcd hP hsm Ur0 rfl ?_
 simp +decide (disch := first | exact E0 | fail) only [go_sem, ↓reduceIte, Qx, List.contains_cons, List.contains_nil, List.flatMap_cons, List.flatMap_nil, List.append_nil]
 refine Qa hP hr rfl rfl rfl ?_
 simp +decide (disch := first | exact E0 | fail) only [go_sem, ↓reduceIte, Qx, List.contains_cons, List.contains_nil, List.flatMap_cons, List.flatMap_nil, List.append_nil]
 refine Qa hP hsx rfl rfl rfl ?_
 simp +decide (disch := first | exact E1 h4 | fail) only [go_sem, ↓reduceIte, Qx, List.contains_cons, List.contains_nil, List.flatMap_cons, List.flatMap_nil, List.append_nil, h4]
 refine Qa hP hred rfl rfl rfl ?_
 simp +decide (disch := first | exact E0 | fail) only [go_sem, ↓reduceIte, Qx, List.contains_cons, List.contains_nil, List.flatMap_cons, List.flatMap_nil, List.append_nil]
 refine Qa hP hrank rfl rfl rfl ?_
 simp +decide (disch := first | exact E0 | fail) only [go_sem, ↓reduceIte, Qx, List.contains_cons, List.contains_nil, List.flatMap_cons, List.flatMap_nil, List.append_nil]
 refine Qa hP hquad rfl rfl rfl ?_
 simp +decide (disch := first | exact E0 | fail) only [go_sem, ↓reduceIte, Qx, List.contains_cons, List.contains_nil, List.flatMap_cons, List.flatMap_nil, List.append_nil]
 refine Qa hP Qfz rfl rfl rfl ?_
 simp +decide (disch := first | exact E0 | fail) only [go_sem, ↓reduceIte, Qx, List.contains_cons, List.contains_nil, List.flatMap_cons, List.flatMap_nil, List.append_nil]
 exact Qc rfl rfl
theorem Qtp {R n K : Nat} {l x : List RQ} {wF yF : Nat -> Rat} {fl : List Rat} {q : Rat} (hl : Qb7 l) (hx : Qb7 x) (h1 : Qb8 l 25 = true) (h2 : Qbl R R l = true) (h3 : Qb8 x 8 = true) (hxR : x.length = R) (hn : n <= 40)
  (hred : Qd Tryz.prog 29 [PV.rmat R R l] (· = .tup [.sl 3 (Q6 PV.rat wF n), PV.mat n R fl, .int .i64 0]))
  (hrank : Qd Tryz.prog 18 [PV.rmat R R l] (· = .tup [.int .i64 (n : Nat), .int .i64 0]))
  (hquad : Qd Tryz.prog 31 [PV.rmat R R l, PV.rqs x] (· = .tup [PV.rat q, .int .i64 0]))
  (hright : Qd Tryz.prog 26 [PV.mat n R fl] (· = .bool true))
  (htimes : Qd Tryz.prog 35 [PV.mat n R fl, PV.rqs x] (· = .sl 3 (Q6 PV.rat yF n)))
  (hw0 : ∀ i, i < n -> wF i ≠ 0) (hwK : ∀ i, i < n -> rs (wF i) <= K) (hyK : ∀ i, i < n -> rs (yF i) <= K) (hK1 : 1 <= K) (hK : K <= 2 ^ 24)
  (hq : q = Qn wF (fun i => yF i * yF i) n) (hleast : (0 : Rat) <= q ∨ ∃ i, i < n /\ wF i < 0) :
  Qd Tryz.prog 6 [PV.rmat R R l, PV.rqs x] (· = .bool true) := by
 have h4 : (x.length : Int) = (R : Int) := by omega
 have hd2 : ∀ i, i <= n -> rs (Qn wF (fun i => yF i * yF i) i) <= 41 * (2 * (2 * K) + 2) := fun i hi => by
  have := Qhs (x := wF) (y := fun i => yF i * yF i) (k := 2 * K) i fun j hj => ⟨by have := hwK j (by omega); omega, by have := Qb0 (yF j) (yF j); have := hyK j (by omega); show rs (yF j * yF j) <= _; omega⟩
  have h5 : (i + 1) * (2 * (2 * K) + 2) <= 41 * (2 * (2 * K) + 2) := Nat.mul_le_mul_right _ (by omega)
  omega
 have hqK : rs q <= 41 * (2 * (2 * K) + 2) := by rw [hq]; exact hd2 n (Nat.le_refl _)
 have hsm := Qmn (l := [⟨(R : Int), (R : Int), l⟩]) (by simpa using hl) (by simp)
 simp only [List.all_cons, List.all_nil, Bool.and_true] at hsm
 have hsx := Qju (n := 8) hx
 have hr := Qhr (r := R) (c := R) hl
 have hxl := hx.1
 rw [h1] at hsm
 rw [h2] at hr
 rw [h3] at hsx
 have hwl : (Q6 PV.rat wF n).length = n := Qas _ _ _
 have c0 := Qiz (x := 0) (by omega) (by omega)
 obtain ⟨z, hz⟩ : ∃ z : Rat, ((0 : Int) : Rat) = z := ⟨_, rfl⟩
 rw [hz] at c0
 have hz0 : z = 0 := hz.symm
 refine Qg Ql Tryz.func6 rfl Qml (by simp [c6]) fun C hP => ?_; simp only [c6, Zo, Zg, Zm, Zc, Zf, Zl, Zh, Zs, Zi, Zb, Zk, Zn, Zu, Zq, Zr, Zz]
 simp +decide (disch := first | exact D0 | fail) only [go_sem, ↓reduceIte]
 refine Qcd hP hsm Ur0 rfl ?_
 simp +decide (disch := first | exact E0 | fail) only [go_sem, ↓reduceIte, Qx, List.contains_cons, List.contains_nil, List.flatMap_cons, List.flatMap_nil, List.append_nil]
 refine Qa hP hr rfl rfl rfl ?_
 simp +decide (disch := first | exact E0 | fail) only [go_sem, ↓reduceIte, Qx, List.contains_cons, List.contains_nil, List.flatMap_cons, List.flatMap_nil, List.append_nil]
 refine Qa hP hsx rfl rfl rfl ?_
 simp +decide (disch := first | exact E1 h4 | fail) only [go_sem, ↓reduceIte, Qx, List.contains_cons, List.contains_nil, List.flatMap_cons, List.flatMap_nil, List.append_nil, h4]
 refine Qa hP hred rfl rfl rfl ?_
 simp +decide (disch := first | exact E0 | fail) only [go_sem, ↓reduceIte, Qx, List.contains_cons, List.contains_nil, List.flatMap_cons, List.flatMap_nil, List.append_nil]
 refine Qa hP hrank rfl rfl rfl ?_
 simp +decide (disch := first | exact E0 | fail) only [go_sem, ↓reduceIte, Qx, List.contains_cons, List.contains_nil, List.flatMap_cons, List.flatMap_nil, List.append_nil]
 refine Qa hP hquad rfl rfl rfl ?_
 simp +decide (disch := first | exact E1 hwl | fail) only [go_sem, ↓reduceIte, Qx, List.contains_cons, List.contains_nil, List.flatMap_cons, List.flatMap_nil, List.append_nil, hwl]
 refine Qa hP hright rfl rfl rfl ?_
 simp +decide (disch := first | exact D0 | fail) only [go_sem, ↓reduceIte]
 refine Qa hP c0 rfl rfl rfl ?_
 simp +decide (disch := first | exact D0 | fail) only [go_sem, ↓reduceIte]
 refine Qa hP c0 rfl rfl rfl ?_
 simp +decide (disch := first | exact D0 | fail) only [go_sem, ↓reduceIte]
 refine Qa hP htimes rfl rfl rfl ?_
 simp +decide (disch := first | exact D0 | fail) only [go_sem, ↓reduceIte]
 refine Qal (by repeat (first | exact Q5 | exact Qq | exact Qr | exact Qt | exact Qu | apply Qp | apply Qz | apply Q9 | apply Qaf | apply Qag | apply Qm | apply Q7)) [(4, 4), (15, 15), (101, 137)] [] (fun t J hp => ∃ i, t = n - i /\ i <= n /\ J 15 = .int .i64 (i : Nat) /\ hp 10 = some ⟨3, 32, [PV.rat q], false⟩ /\ hp 12 = some ⟨3, 32, [PV.rat (Qn wF (fun i => yF i * yF i) i)], false⟩ /\ hp 13 = some ⟨3, 32, [PV.rat (Qd8 wF i)], false⟩) n ?_ ?_
 ·refine ⟨0, rfl, by omega, ?_⟩
  have e1 : Qn wF (fun i => yF i * yF i) 0 = z := hz0.symm
  have e2 : Qd8 wF 0 = z := hz0.symm
  simp +decide (disch := first | exact D2 e1 e2 | fail) only [go_sem, ↓reduceIte, e1, e2]
  rfl
 rintro _ J h ⟨i, rfl, hi, h15, h10, h12, h13⟩
 simp +decide (disch := first | exact D1 h15 | fail) only [go_sem, ↓reduceIte, h15]
 refine Qb (fun hc => ?_) (fun hc => ?_)
 ·have hi' : i < n := by omega
  have k0 := hw0 i hi'
  have k1 := hwK i hi'
  have k2 := hyK i hi'
  have k3 := Qb0 (yF i) (yF i)
  have k4 := Qb0 (wF i) (yF i * yF i)
  have k5 := hd2 i (by omega)
  have e1 : Qn wF (fun i => yF i * yF i) (i + 1) = Qn wF (fun i => yF i * yF i) i + wF i * (yF i * yF i) := rfl
  have e2 : Qd8 wF (i + 1) = if wF i < 0 then wF i else Qd8 wF i := rfl
  have d1 := Qih (a := wF i) (by omega)
  have d2 := Qh1 (a := yF i) (b := yF i) (k := K) k2 k2 (by omega)
  have d3 := Qh1 (a := wF i) (b := yF i * yF i) (k := 2 * K) (by omega) (by omega) (by omega)
  have d4 := Qod (a := Qn wF (fun i => yF i * yF i) i) (b := wF i * (yF i * yF i)) (k := 41 * (2 * (2 * K) + 2)) k5 (by omega) (by omega)
  rw [<- e1] at d4
  obtain ⟨zD, hD1⟩ : ∃ D, Qn wF (fun i => yF i * yF i) (i + 1) = D := ⟨_, rfl⟩
  obtain ⟨zE, hE1⟩ : ∃ D, Qd8 wF (i + 1) = D := ⟨_, rfl⟩
  rw [hE1] at e2
  rw [hD1] at d4
  clear e1
  generalize Qn wF (fun i => yF i * yF i) i = yD at *
  generalize Qd8 wF i = yE at *
  generalize wF i * (yF i * yF i) = P1 at *
  generalize yF i * yF i = P2 at *
  have ks : ¬ Qc1 (wF i) = 0 := fun h => k0 (Qde.1 h)
  simp +decide (disch := first | exact D1 h15 | fail) only [go_sem, ↓reduceIte, h15]
  refine Qa hP d1 rfl rfl rfl ?_
  simp +decide (disch := first | exact D2 h15 ks | fail) only [go_sem, ↓reduceIte, h15, ks]
  refine Qa hP d1 rfl rfl rfl ?_
  by_cases hng : wF i < 0
  all_goals
   have kn := Qjr (q := wF i)
   simp only [hng, iff_true, iff_false, if_true, if_false] at kn e2
   subst e2
   simp +decide (disch := first | exact D4 h15 kn h12 h13 | fail) only [go_sem, ↓reduceIte, h15, kn, h12, h13]
   refine Qa hP d2 rfl rfl rfl ?_
   simp +decide (disch := first | exact D1 h15 | fail) only [go_sem, ↓reduceIte, h15]
   refine Qa hP d3 rfl rfl rfl ?_
   simp +decide (disch := first | exact D1 h15 | fail) only [go_sem, ↓reduceIte, h15]
   refine Qa hP d4 rfl rfl rfl ?_
   simp +decide (disch := first | exact D2 h15 h12 | fail) only [go_sem, ↓reduceIte, h15, h12]
   refine Qad (n - (i + 1)) (by omega) ⟨i + 1, rfl, by omega, ?_⟩
   simp +decide (disch := first | exact D4 h10 h13 hD1 hE1 | fail) only [go_sem, ↓reduceIte, h10, h13, hD1, hE1]
 obtain rfl : i = n := by omega
 have e1 := Qxz (a := q) (b := q) hqK hqK (by omega)
 rw [decide_eq_true rfl] at e1
 have e2 := Qih (a := q) (by omega)
 have e3 := Qih (a := Qd8 wF i) (by have := Qs9 hK1 i hwK; omega)
 rw [<- hq] at h12
 have e4 : (0 <= Qc1 q) ∨ (¬ 0 <= Qc1 q /\ Qc1 (Qd8 wF i) < 0) := by
  by_cases h : 0 <= Qc1 q
  ·exact .inl h
  ·refine .inr ⟨h, Qjr.2 (Qq5 i ?_)⟩
   rcases hleast with h2 | h2
   ·have := Qjr.1 (show Qc1 q < 0 by omega)
    exact absurd this (Rat.not_lt.2 h2)
   ·exact h2
 generalize Qd8 wF i = yE at *
 simp +decide (disch := first | exact D3 h10 h12 h13 | fail) only [go_sem, ↓reduceIte, h10, h12, h13]
 refine Qa hP e1 rfl rfl rfl ?_
 simp +decide (disch := first | exact D1 h10 | fail) only [go_sem, ↓reduceIte, h10]
 refine Qa hP e2 rfl rfl rfl ?_
 rcases e4 with e4 | ⟨e4, e5⟩
 ·simp +decide (disch := first | exact D1 e4 | fail) only [go_sem, ↓reduceIte, e4]
  refine Qa hP Qfz rfl rfl rfl ?_
  simp +decide (disch := first | exact E0 | fail) only [go_sem, ↓reduceIte, Qx, List.contains_cons, List.contains_nil, List.flatMap_cons, List.flatMap_nil, List.append_nil]
  exact Qc rfl rfl
 ·simp +decide (disch := first | exact D2 e4 h13 | fail) only [go_sem, ↓reduceIte, e4, h13]
  refine Qa hP e3 rfl rfl rfl ?_
  simp +decide (disch := first | exact D1 e5 | fail) only [go_sem, ↓reduceIte, e5]
  refine Qa hP Qfz rfl rfl rfl ?_
  simp +decide (disch := first | exact E0 | fail) only [go_sem, ↓reduceIte, Qx, List.contains_cons, List.contains_nil, List.flatMap_cons, List.flatMap_nil, List.append_nil]
  exact Qc rfl rfl
end Go.Proofs.YtmnkngmmfnncoaaGreat
namespace Go.Proofs.YtmnkngmmfnncoaaGreat
open Go Go.FW
set_option linter.unusedSimpArgs false
set_option linter.unusedVariables false
set_option maxRecDepth 100000
theorem Qta {R : Nat} {c : Nat} (hc : c < R) : ∀ (L : List LF) (i : Nat), i < L.length -> Qam (Qch R L) R i c = (Qb9 L i).2 c
 | [], i, h => by cases h
 | f :: L, i, h => by
  have hl : ((List.range R).map f.2).length = R := by simp
  have e : Qch R (f :: L) = (List.range R).map f.2 ++ Qch R L := by simp [Qch]
  unfold Qam
  rw [e, List.getD_eq_getElem?_getD]
  match i, h with
  | 0, _ =>
   rw [List.getElem?_append_left (by rw [hl]; omega), List.getElem?_map, List.getElem?_range (by omega)]
   simp [Qb9]
  | i + 1, h =>
   have hi : i < L.length := by simpa using h
   have e2 : (i + 1) * R + c = R + (i * R + c) := by rw [Nat.add_mul]; omega
   rw [List.getElem?_append_right (by rw [hl, e2]; omega), hl, e2, Nat.add_sub_cancel_left, <- List.getD_eq_getElem?_getD]
   exact Qta hc L i hi
theorem Q3m {L : List LF} : PV.rats (L.map (·.1)) = .sl 3 (Q6 PV.rat (fun i => (Qb9 L i).1) L.length) := by
 have e : (L.map (·.1)).map PV.rat = Q6 PV.rat (fun i => (Qb9 L i).1) L.length := by
  refine List.ext_getElem (by simp [Q6]) fun j h1 h2 => ?_
  have hj : j < L.length := by rw [List.length_map, List.length_map] at h1; exact h1
  rw [Qew, List.getElem_map, List.getElem_map]
  unfold Qb9
  rw [List.getD_eq_getElem?_getD, List.getElem?_eq_getElem hj, Option.getD_some]
 rw [PV.rats, e]
theorem Qq6 {r c : Int} {l x : List RQ} (h : I64' r /\ I64' c /\ Qb7 l) (hx : Qb7 x) : Qd Tryz.prog 6 [PV.rmat r c l, PV.rqs x] (· = .bool true) := by
 have hl := h.2.2
 by_cases hq : Qb8 l 25 = true /\ Qbl r c l = true /\ Qb8 x 8 = true /\ (x.length : Int) = c
 case neg => exact Qtn hl hx hq
 obtain ⟨h1, h2, h3, h4⟩ := hq
 obtain ⟨R, m, la, rfl, rfl, hR, hm, hla, hlen, hmat⟩ := Qabb hl h2
 obtain ⟨l25, sl⟩ := Qv4 hl h1
 obtain ⟨lx8, sx⟩ := Qv4 hx h3
 rw [<- hla] at sl
 have sl' : ∀ q ∈ la, rs q <= 1048576 := fun q hq => by have := sl q hq; omega
 have h25 : R * m <= 25 := by rw [<- hlen, hla, List.length_map]; exact l25
 by_cases hRm : R = m
 case neg =>
  have c1 := Qxb hlen hR hm sl' hRm
  rw [<- hmat] at c1
  exact Qmx hl hx h1 h2 h3 h4 (by decide) c1
 subst hRm
 by_cases hsy : Qno (Qam la R) R
 case neg =>
  have c1 := Qxc (K := 3) hlen hR sl' (by omega) (fun r _ c _ => Qln (by omega) sl) hsy
  rw [<- hmat] at c1
  exact Qmx hl hx h1 h2 h3 h4 (by decide) c1
 have hr5 : R <= 5 := by have := Qx6 h25; omega
 have hSym := Q74 hsy
 have hM3 : MBd 3 R R (Qam la R) := fun r _ c _ => Qln (by omega) sl
 have hRB : Qr5 50421 R (2 * R) (Qam la R) := fun k hk => by
  have h := Qacn (n := 2 * R) hSym (by omega) hM3 k hk
  have e : 3 * 7 ^ R <= 3 * 7 ^ 5 := Nat.mul_le_mul_left _ (Nat.pow_le_pow_right (by omega) hr5)
  exact ⟨fun r hr c hc => Nat.le_trans (h.1 r hr c hc) e, fun f hf => ⟨Nat.le_trans (h.2.1 f hf).1 e, fun c hc => Nat.le_trans ((h.2.1 f hf).2 c hc) e⟩, fun j hj r hr c hc => Nat.le_trans (h.2.2 j hj r hr c hc) e⟩
 have hfs := Qyf hRB (2 * R) (Nat.le_refl _)
 have hln := Qkw R (Qam la R) (2 * R)
 have hrank := Qafj (K := 3 * 3125) hlen hR hR sl' (by omega) (Qack (by omega) hM3 (Nat.le_refl _) (Qx6 h25))
 obtain ⟨hred, hspl⟩ : Qd Tryz.prog 29 [PV.mat R R la] (· = Qz4 R (Qak R (Qam la R) (2 * R)).2) /\ Spl R (Qam la R) (Qak R (Qam la R) (2 * R)).2 := by
  by_cases hR0 : R = 0
  ·subst hR0
   obtain rfl : la = [] := List.eq_nil_of_length_eq_zero (by omega)
   exact ⟨Q3i, .nil fun i hi => by omega⟩
  ·exact ⟨Qv3 hlen (by omega) (by omega) sl' (by omega) hRB hsy, Qaco (by omega) hSym (by omega) hM3⟩
 generalize (Qak R (Qam la R) (2 * R)).2 = L at *
 rw [Qz4, Q3m] at hred
 rw [show Qzn R R (Qam la R) = L.length from Q8c hSym hspl] at hrank
 rw [<- hmat] at hred hrank
 cases o2 : x.all Qe0
 ·have o3 : (Qbl R R l && x.all Qe0) = false := by rw [o2, Bool.and_false]
  rw [Q3j] at hred
  exact Qto hl hx h1 h2 h3 h4 hred ⟨_, _, _, rfl⟩ hrank (Qq4 hl hx o3)
 have hxr := Q2k hx o2
 have hxR : x.length = R := by omega
 have hxl : (x.map rqV).length = R := by rw [List.length_map]; exact hxR
 have hquad := Qxa hlen hxl (by omega) sl sx
 rw [<- hmat, <- hxr] at hquad
 have hfl := Qhc R L
 have hflK : ∀ q ∈ Qch R L, rs q <= 50421 := fun q hq => by
  obtain ⟨f, hf, hq⟩ := List.mem_flatMap.1 hq
  obtain ⟨c, hc, rfl⟩ := List.mem_map.1 hq
  exact (hfs f hf).2 c (List.mem_range.1 hc)
 have hright := Qw7 (R := L.length) (m := R) hfl (by omega) (by omega) fun q hq => by have := hflK q hq; omega
 have htimes := Q77 (k := 50421) (x := Qec (x.map rqV)) hfl (by omega) (by omega) hflK (fun i _ => by have := Qpj (k := 3) (by omega) sx i; omega) (by omega) (by omega)
 have hb : PV.rqs x = .sl 3 (Q6 PV.rat (Qec (x.map rqV)) R) := by rw [hxr, PV.rats, <- hxl, Qs5]
 rw [<- hb] at htimes
 have hwK : ∀ i, i < L.length -> rs (Qb9 L i).1 <= 700000 := fun i hi => by have := (hfs _ (Qnr hi)).1; omega
 have hyK : ∀ i, i < L.length -> rs (Qn (Qam (Qch R L) R i) (Qec (x.map rqV)) R) <= 700000 := fun i hi => by
  have := Qhs (x := Qam (Qch R L) R i) (y := Qec (x.map rqV)) (k := 50421) R fun c _ => ⟨Qln (by omega) hflK, by have := Qpj (k := 3) (by omega) sx c; omega⟩
  have b5 : (R + 1) * (2 * 50421 + 2) <= 6 * (2 * 50421 + 2) := Nat.mul_le_mul_right _ (by omega)
  omega
 have hsq := Q8d hspl (x := Qec (x.map rqV))
 have hv : Qc2 (Qam la R) (Qec (x.map rqV)) R R = Qn (fun i => (Qb9 L i).1) (fun i => Qn (Qam (Qch R L) R i) (Qec (x.map rqV)) R * Qn (Qam (Qch R L) R i) (Qec (x.map rqV)) R) L.length := by
  rw [hsq]
  refine Qem _ fun i hi => ⟨rfl, ?_⟩
  have e : Qn (Qam (Qch R L) R i) (Qec (x.map rqV)) R = Qn (Qb9 L i).2 (Qec (x.map rqV)) R := Qem R fun c hc => ⟨Qta hc L i hi, rfl⟩
  rw [e]
 have hleast : (0 : Rat) <= Qc2 (Qam la R) (Qec (x.map rqV)) R R ∨ ∃ i, i < L.length /\ (Qb9 L i).1 < 0 := by
  by_cases hex : ∃ i, i < L.length /\ (Qb9 L i).1 < 0
  ·exact .inr hex
  ·refine .inl ?_
   rw [hsq]
   exact Q3l _ fun i hi => Rat.not_lt.1 fun h => hex ⟨i, hi, h⟩
 exact Qtp (K := 700000) hl hx h1 h2 h3 hxR (by omega) hred hrank hquad hright htimes (fun i hi => Qagt hspl _ (Qnr hi)) hwK hyK (by omega) (by omega) hv hleast
end Go.Proofs.YtmnkngmmfnncoaaGreat
namespace Go.Proofs.YtmnkngmmfnncoaaGreat
open Go Go.FW Go.ChangeShapes Go.WideShapes Go.ChangeAt Go.RowKit
set_option linter.unusedSimpArgs false
set_option linter.unusedVariables false
set_option maxRecDepth 100000
theorem Qmq (H : Type) (enc : TypeId × Value -> H) (W : World) (base : Nat) (args : Array Value) (ds gs : List (DataW H)) (before : List MemPlace)
  (Qcg : ∀ (j : Nat) t v, Tryz.f6.params[j]? = some t -> args[j]? = some v -> Value.okWide Tryz.prog W .any base t v)
  (hW : DataW.Whole enc Tryz.prog Tryz.f6.params.toList Rows.matrixFormsSpec.vars false W args.toList ds gs before) (hk : Rows.uptoSmall H (ds ++ gs) = true) :
  Calls Tryz.prog 6 args W fun e W' => ∃ v, e = .returned v /\ Rows.matrixFormsSpec.post enc Tryz.prog Tryz.f6 false true false false W args v W' := by
 have hW' := hW
 obtain ⟨p, q, hA0, hV, rfl, hfz, hnd⟩ := hW
 have hA : DataW.TrodAll enc Tryz.prog W 0 (fun _ => true) true Tryz.f6.params.toList args.toList ds p := hA0
 rw [Tryz.params6] at hA Qcg
 obtain ⟨v0, vs0, e0, ds0, p0, q0, hargs, rfl, rfl, h0, r0⟩ := trodAll_cons hA
 obtain ⟨v1, vs1, e1, ds1, p1, q1, rfl, rfl, rfl, h1, r1⟩ := trodAll_cons r0
 obtain ⟨rfl, rfl, rfl⟩ := trodAll_nil r1
 obtain rfl : args = #[v0, v1] := by cases args; simp_all
 obtain ⟨rfl, rfl⟩ := trodVars_none hV
 have hb := Q6w hk
 simp only [List.append_nil, Rows.uptoBulkAll] at hb
 obtain ⟨r0, c0, l0, g0, b0⟩ := Qzo (Qcg 0 _ v0 rfl rfl) h0 (by omega)
 obtain ⟨a1, g1, b1⟩ := Q6x (Qcg 1 _ v1 rfl rfl) h1 (by omega)
 exact Q2n hW' rfl (by kernel_rfl) (by kernel_rfl) rfl (Qq6 b0 b1) rfl
  (Q6y (vs := [v0, v1]) (by
   intro i x hx v hv
   match i, hx, hv with
   | 0, hx, hv => simp at hx hv; subst hx hv; exact g0
   | 1, hx, hv => simp at hx hv; subst hx hv; exact g1
   | i + 2, hx, hv => simp at hx) rfl)
theorem Qns (os : Os) (started : os.Started) (H : Type) (enc : TypeId × Value -> H) (F : Stop.Interp) :
  ReturnsInHanded {} Tryz.checked os 6 .any ((Rows.OpenSpec.upto Rows.matrixFormsSpec).pre6 enc Tryz.prog Tryz.f6 Rows.matrixFormsUptoRow.domain false) (((Rows.OpenSpec.upto Rows.matrixFormsSpec).at F).post enc Tryz.prog Tryz.f6 false true false false) := by
 refine returnsInHanded_of_cond (C := Tryz.checked) (s := Rows.OpenSpec.upto Rows.matrixFormsSpec) (k := Rows.uptoSmall) rfl own started (by kernel_rfl) Tryz.func6
  (OpenSpec.witness (enc := enc) (C := Tryz.checked) (s := Rows.OpenSpec.upto Rows.matrixFormsSpec) (k := Rows.uptoSmall) rfl false ⟨#[], #[.agg #[.int .i64 0, .int .i64 0, .slice none 0 0], .slice none 0 0], []⟩ 8 (by kernel_rfl) (by kernel_rfl) (by kernel_rfl)
   (x := ([.agg [.lit (.int .i64 0), .lit (.int .i64 0), .nil], .nil], [], [])) (by kernel_rfl) rfl (by kernel_rfl)) ?_
 intro W base args ds gs before Qcg hW _ hk _
 exact Qmq H enc W base args ds gs before Qcg hW hk
theorem matrixForms_proved : Rows.MatrixFormsUptoSaid :=
 OpenClaim.holds_of_cond 6 Tryz.f6 rfl rfl rfl rfl rfl rfl rfl ⟨rfl, rfl, rfl, rfl, rfl⟩ rfl rfl rfl rfl rfl (by kernel_rfl) Tryz.func6 (by kernel_rfl)
  (of_decide_eq_true (by kernel_rfl)) (by unfold Func.isWrapper; first | (rw [if_pos (by decide +kernel)]; kernel_rfl) | (rw [if_neg (by decide +kernel)]; exact ⟨rfl, rfl⟩))
  (fun os started H enc _ F => Qns os started H enc F)
end Go.Proofs.YtmnkngmmfnncoaaGreat
