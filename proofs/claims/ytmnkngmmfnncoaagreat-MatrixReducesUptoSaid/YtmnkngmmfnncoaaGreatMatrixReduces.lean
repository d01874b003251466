/- MatrixReduces holds, for arguments of bulk at most 1048576. -/
import Derived.Test.YtmnkngmmfnncoaaGreatMatrixReducesPart12
set_option linter.unusedSimpArgs false
set_option linter.unnecessarySimpa false
set_option linter.unusedVariables false
namespace Go.Proofs.YtmnkngmmfnncoaaGreat
open Go Go.FW
set_option linter.unusedSimpArgs false
set_option linter.unusedVariables false
set_option maxRecDepth 100000
def c96 : SFn := ⟨50, [.t 2, .t 3, .t 4], Zr (Zc 2 0 <|
 Zc 3 0 <|
 Zo (.mv 4 (.c (.bool false))) .nil) <| .seq (Zr (Zc 5 0 .nil) <| .block 0 <| .loop <| .seq (Zr (Zm 8 5 <|
 Zm 9 0 <|
 Zn 10 9 <|
 Zb 11 .lss 8 10 .nil) <| .cond (.t 11) .skip (.exit 0)) <| .seq (.block 1 <| Zr (Zm 14 0 <|
 Zm 15 5 <|
 Zi 16 1 14 15 <|
 Zl 17 1 16 <|
 Zm 18 5 <|
 Zi 19 3 17 18 <|
 Zh 20 3 19 <|
 Zq 21 false 81 [.t 20] <|
 Zk 22 .neq 21 0 .nil) <| .cond (.t 22) (Zr (Zm 23 5 <|
 Zm 24 5 <|
 Zm 2 23 <|
 Zm 3 24 <|
 Zo (.mv 4 (.c (.bool true))) .nil) .ret) .skip) <| .rg (Zm 12 5 <|
 Zk 13 .add 12 1 <|
 Zm 5 13 .nil)) <| .seq (Zr (Zc 6 0 .nil) <| .block 2 <| .loop <| .seq (Zr (Zm 25 6 <|
 Zm 26 0 <|
 Zn 27 26 <|
 Zb 28 .lss 25 27 .nil) <| .cond (.t 28) .skip (.exit 2)) <| .seq (.block 3 <| Zr (Zm 31 6 <|
 Zk 32 .add 31 1 <|
 Zm 7 32 .nil) <| .block 4 <| .loop <| .seq (Zr (Zm 33 7 <|
 Zm 34 0 <|
 Zn 35 34 <|
 Zb 36 .lss 33 35 .nil) <| .cond (.t 36) .skip (.exit 4)) <| .seq (.block 5 <| Zr (Zm 39 0 <|
 Zm 40 6 <|
 Zi 41 1 39 40 <|
 Zl 42 1 41 <|
 Zm 43 7 <|
 Zi 44 3 42 43 <|
 Zh 45 3 44 <|
 Zq 46 false 81 [.t 45] <|
 Zk 47 .neq 46 0 .nil) <| .cond (.t 47) (Zr (Zm 48 6 <|
 Zm 49 7 <|
 Zm 2 48 <|
 Zm 3 49 <|
 Zo (.mv 4 (.c (.bool true))) .nil) .ret) .skip) <| .rg (Zm 37 7 <|
 Zk 38 .add 37 1 <|
 Zm 7 38 .nil)) <| .rg (Zm 29 6 <|
 Zk 30 .add 29 1 <|
 Zm 6 30 .nil)) <| Zr (Zc 2 0 <|
 Zc 3 0 <|
 Zo (.mv 4 (.c (.bool false))) .nil) .ret⟩
theorem Qafa : Qe Tryz.prog Tryz.f96 = some c96 := by kernel_rfl
def c99 : SFn := ⟨31, [.t 6], Zr (Zo (.box 5 3 32 (.t 2)) <|
 Zo (.mv 6 (.c .nilS)) .nil) <| Zr (Zo (.mv 7 (.c .nilS)) .nil) <| .seq (Zr (Zc 8 0 .nil) <| .block 0 <| .loop <| .seq (Zr (Zm 9 8 <|
 Zm 10 0 <|
 Zn 11 10 <|
 Zb 12 .lss 9 11 .nil) <| .cond (.t 12) .skip (.exit 0)) <| .seq (.block 1 <| .rg (Zm 15 7 <|
 Zm 16 0 <|
 Zm 17 8 <|
 Zi 18 1 16 17 <|
 Zl 19 1 18 <|
 Zm 20 1 <|
 Zh 21 3 5 <|
 Zm 22 1 <|
 Zm 23 8 <|
 Zi 24 3 22 23 <|
 Zh 25 3 24 <|
 Zq 26 true 83 [.t 21, .t 25] <|
 Zq 27 true 85 [.t 19, .t 20, .t 26] <|
 Zo (.bs 28 1 22 [.t 27]) <|
 Zo (.app 29 1 24 22 (.t 15) (.t 28)) <|
 Zm 7 29 .nil)) <| .rg (Zm 13 8 <|
 Zk 14 .add 13 1 <|
 Zm 8 14 .nil)) <| Zr (Zm 30 7 <|
 Zm 6 30 .nil) .ret⟩
theorem Qafb : Qe Tryz.prog Tryz.f99 = some c99 := by kernel_rfl
theorem Qwa {l : List Rat} {R m : Nat} (hl : l.length = R * m) (hR2 : R <= 40) (hm : m <= 40) : Qd Tryz.prog 80 [PV.mat R m l] (· = .sl 1 (Qy (PV.rowD m) (Qah l m) R)) := by
 refine Qct Ql Tryz.func80 rfl Qae6 (by simp [c80]) fun C hP => ?_; simp only [c80, Zo, Zg, Zm, Zc, Zf, Zl, Zh, Zs, Zi, Zb, Zk, Zn, Zu, Zq, Zr, Zz]
 simp +decide (disch := first | exact D0 | fail) only [go_sem, ↓reduceIte]
 refine Qfe 3 900 1 22 (by omega) T0 ?_
 refine Qaf (by repeat (first | exact Qv | exact Qp | exact Qq | exact Qr | exact Qt | apply Qo | apply Qu | apply Q5 | apply Q9 | apply Qaa | apply Qk | apply Qw)) [(3, 18)] [12, 16, 17, 18, 900] (fun n J hp => ∃ i, n = R - i /\ i <= R /\ J 3 = .ms 900 i /\ J 4 = .int .i64 (i : Nat) /\ hp 1 = some ⟨3, 24, [PV.mat R m l], false⟩ /\ hp 900 = some ⟨1, 22, (List.range i).map (fun r => .sl 3 (Qy PV.rat (Qah l m r) m)), false⟩) R ?_ ?_
 ·refine ⟨0, rfl, by omega, ?_⟩
  simp +decide (disch := first | exact D0 | fail) only [go_sem, ↓reduceIte]
  exact ⟨rfl, rfl⟩
 rintro _ J h ⟨i, rfl, hi, h3, h4, h1, hh⟩
 simp +decide (disch := first | exact D3 h3 h4 h1 | fail) only [go_sem, ↓reduceIte, h3, h4, h1]
 refine Qb (fun hg => ?_) (fun hg => ?_)
 ·have hi' : i < R := by omega
  have c1 := Q21 hl hi' hR2 hm
  have hml : ((List.range m).map (Qah l m i)).length = m := by simp
  rw [Qfu] at c1
  simp +decide (disch := first | exact D3 h3 h4 h1 | fail) only [go_sem, ↓reduceIte, h3, h4, h1]
  rw [bs0 (by omega)]
  simp +decide (disch := first | exact D3 h3 h4 h1 | fail) only [go_sem, ↓reduceIte, h3, h4, h1]
  refine Qa hP c1 rfl rfl rfl ?_
  simp +decide (disch := first | exact D3 h3 h4 h1 | fail) only [go_sem, ↓reduceIte, h3, h4, h1]
  rw [Qk9 (n := 0) (f := PV.rat) (xs := []) (ys := (List.range m).map (Qah l m i)) T0 rfl (by omega) (by omega) (by omega)]
  simp +decide (disch := first | exact D3 h3 h4 h1 | fail) only [go_sem, ↓reduceIte, h3, h4, h1]
  rw [Qafz (e' := 3) (ty' := 32) (xs := ((List.range m).map (Qah l m i)).map PV.rat) (fz := false) T0, List.take_of_length_le (by simp)]
  simp +decide (disch := first | exact D3 h3 h4 h1 | fail) only [go_sem, ↓reduceIte, h3, h4, h1]
  rw [Qbk (f := fun r => PV.sl 3 (Qy PV.rat (Qah l m r) m)) (y := i) (xs := List.range i) (ty' := 22) (fz := false) (U1 hh) (by simp +decide (disch := first | omega | rfl | (simp +decide only [go_sem, ↓reduceIte, Qfu, Q7, List.contains_cons, List.contains_nil, List.flatMap_cons, List.flatMap_nil, List.append_nil] <;> rfl) | fail) only [go_sem, ↓reduceIte, Qfu, Q7, List.contains_cons, List.contains_nil, List.flatMap_cons, List.flatMap_nil, List.append_nil]) (by omega) (by simp) (by omega) (by omega)]
  simp +decide (disch := first | exact D3 h3 h4 h1 | fail) only [go_sem, ↓reduceIte, h3, h4, h1]
  refine Q8 (R - (i + 1)) (by omega) ⟨i + 1, rfl, by omega, ?_⟩
  simp +decide (disch := first | exact E1 h1 | fail) only [go_sem, ↓reduceIte, h1, Q7, List.contains_cons, List.contains_nil, List.flatMap_cons, List.flatMap_nil, List.append_nil]
 ·obtain rfl : i = R := by omega
  simp +decide (disch := first | exact E2 h3 hh | fail) only [go_sem, ↓reduceIte, h3, hh, Q7, List.contains_cons, List.contains_nil, List.flatMap_cons, List.flatMap_nil, List.append_nil]
  refine Qdb (Qat ?_)
  simp +decide (disch := first | exact E2 h3 hh | fail) only [go_sem, ↓reduceIte, h3, hh, Q7, List.contains_cons, List.contains_nil, List.flatMap_cons, List.flatMap_nil, List.append_nil]
  refine Qc ?_ rfl
  rw [List.take_of_length_le (by simp)]; rfl
theorem Q23 {x y : Nat -> Rat} {c : Rat} {w k : Nat} (hw : w <= 2 ^ 30) (hx : ∀ i, i < w -> rs (x i) <= k) (hy : ∀ i, i < w -> rs (y i) <= k) (hc : rs c <= k) (hk : k <= 2 ^ 32) :
  Qd Tryz.prog 98 [.sl 3 (Qy PV.rat x w), .sl 3 (Qy PV.rat y w), PV.rat c] (· = .sl 3 (Qy PV.rat (Qdi x y c) w)) := by
 have h := Qx5 (w := w) (x := x) (y := y) (c := -c) hw hx hy (by rw [Qjg]; exact hc) hk
 have e : (fun i => x i - -c * y i) = Qdi x y c := by
  funext i
  unfold Qdi
  rw [Rat.neg_mul, Rat.sub_eq_add_neg, Rat.neg_neg]
 rw [e] at h
 refine Qf Ql Tryz.func98 rfl Qaen (by simp [c98]) fun C hP => ?_; simp only [c98, Zo, Zg, Zm, Zc, Zf, Zl, Zh, Zs, Zi, Zb, Zk, Zn, Zu, Zq, Zr, Zz]
 simp +decide (disch := first | exact D0 | fail) only [go_sem, ↓reduceIte]
 refine Qa hP (Qpc hc (by omega)) rfl rfl rfl ?_
 simp +decide (disch := first | exact D0 | fail) only [go_sem, ↓reduceIte]
 refine Qa hP h rfl rfl rfl ?_
 simp +decide (disch := first | exact D0 | fail) only [go_sem, ↓reduceIte]
 exact Qc rfl rfl
theorem Qq7 {M : MF} {f : LF} {R k : Nat} (hR : R <= 40) (hM : MBd k R R M) (hw : rs f.1 <= k) (hf : ∀ c, c < R -> rs (f.2 c) <= k) (hk : k <= 2 ^ 30) :
  Qd Tryz.prog 99 [.sl 1 (Qy (PV.rowD R) M R), .sl 3 (Qy PV.rat f.2 R), PV.rat f.1] (· = .sl 1 (Qy (PV.rowD R) (Qce M f) R)) := by
 have hrl : (Qy (PV.rowD R) M R).length = R := Qal _ _ _
 refine Qf Ql Tryz.func99 rfl Qafb (by simp [c99]) fun C hP => ?_; simp only [c99, Zo, Zg, Zm, Zc, Zf, Zl, Zh, Zs, Zi, Zb, Zk, Zn, Zu, Zq, Zr, Zz]
 simp +decide (disch := first | exact D1 hrl | fail) only [go_sem, ↓reduceIte, hrl]
 refine Qfe 7 900 1 22 (by omega) T0 ?_
 refine Qaf (by repeat (first | exact Qv | exact Qp | exact Qq | exact Qr | exact Qt | apply Qo | apply Qu | apply Q5 | apply Q9 | apply Qaa | apply Qk | apply Qw)) [(7, 29)] [28, 29, 900] (fun n J hp => ∃ i, n = R - i /\ i <= R /\ J 7 = .ms 900 i /\ J 8 = .int .i64 (i : Nat) /\ hp 5 = some ⟨3, 32, [PV.rat f.1], false⟩ /\ hp 900 = some ⟨1, 22, (List.range i).map (fun r => PV.rowD R (Qce M f r)), false⟩) R ?_ ?_
 ·refine ⟨0, rfl, by omega, ?_⟩
  simp +decide (disch := first | exact D0 | fail) only [go_sem, ↓reduceIte]
  exact ⟨rfl, rfl⟩
 rintro _ J h ⟨i, rfl, hi, h7, h8, h5, hh⟩
 simp +decide (disch := first | exact D3 h7 h8 hrl | fail) only [go_sem, ↓reduceIte, h7, h8, hrl]
 refine Qb (fun hg => ?_) (fun hg => ?_)
 ·have hi' : i < R := by omega
  have hfi := hf i hi'
  have hm := Qb8 f.1 (f.2 i)
  have c1 := Qme (a := f.1) (b := f.2 i) (k := k) hw hfi (by omega)
  have c2 := Qx5 (w := R) (x := M i) (y := f.2) (c := f.1 * f.2 i) (k := 2 * k) (by omega) (fun c hc => by have := hM i hi' c hc; omega) (fun c hc => by have := hf c hc; omega) (by omega) (by omega)
  repeat' first
   | refine Qcr ?_ ?_
   | refine Qa hP c1 rfl rfl rfl ?_
   | refine Qa hP c2 rfl rfl rfl ?_
   | simp +decide (disch := first | exact D3 h7 h8 h5 | fail) only [go_sem, ↓reduceIte, h7, h8, h5]
  all_goals
   rw [Qbk (f := fun r => PV.rowD R (Qce M f r)) (y := i) (xs := List.range i) (ty' := 22) (fz := false) (U1 hh) Tr0 (by omega) (by simp) (by omega) (by omega)]
   simp +decide (disch := first | exact D3 h7 h8 h5 | fail) only [go_sem, ↓reduceIte, h7, h8, h5]
   refine Q8 (R - (i + 1)) (by omega) ⟨i + 1, rfl, by omega, ?_⟩
   simp +decide (disch := first | exact E1 h5 | fail) only [go_sem, ↓reduceIte, h5, Q7, List.contains_cons, List.contains_nil, List.flatMap_cons, List.flatMap_nil, List.append_nil]
 ·obtain rfl : i = R := by omega
  simp +decide (disch := first | exact E2 h7 hh | fail) only [go_sem, ↓reduceIte, h7, hh, Q7, List.contains_cons, List.contains_nil, List.flatMap_cons, List.flatMap_nil, List.append_nil]
  refine Qc ?_ rfl
  rw [List.take_of_length_le (by simp)]; rfl
end Go.Proofs.YtmnkngmmfnncoaaGreat
namespace Go.Proofs.YtmnkngmmfnncoaaGreat
open Go Go.FW
set_option linter.unusedSimpArgs false
set_option linter.unusedVariables false
set_option maxRecDepth 100000
theorem Qnn {R : Nat} {l : List Rat} (hl : l.length = R * R) (hR2 : R <= 40) (hs : ∀ q ∈ l, rs q <= 1048576) : Qd Tryz.prog 95 [PV.mat R R l] (· = .bool (decide (Qjo (Qah l R) R))) := by
 refine Qf Ql Tryz.func95 rfl Qaem (by simp [c95]) fun C hP => ?_; simp only [c95, Zo, Zg, Zm, Zc, Zf, Zl, Zh, Zs, Zi, Zb, Zk, Zn, Zu, Zq, Zr, Zz]
 simp +decide (disch := first | exact D0 | fail) only [go_sem, ↓reduceIte]
 refine Qaf (by repeat (first | exact Qv | exact Qp | exact Qq | exact Qr | exact Qt | apply Qo | apply Qu | apply Q5 | apply Q9 | apply Qaa | apply Qk | apply Qw)) [(2, 25)] [] (fun q J hp => ∃ i, q = R - i /\ i <= R /\ J 3 = .int .i64 (i : Nat) /\ hp 1 = some ⟨3, 24, [PV.mat R R l], false⟩ /\ ∀ j, j < i -> ∀ k, k < j -> Qah l R j k = Qah l R k j) R ?_ ?_
 ·refine ⟨0, rfl, by omega, ?_⟩
  simp +decide (disch := first | exact D0 | fail) only [go_sem, ↓reduceIte]
  exact ⟨rfl, fun j hj => by omega⟩
 rintro _ J h ⟨i, rfl, hi, h3, h1, hs1⟩
 simp +decide (disch := first | exact D2 h3 h1 | fail) only [go_sem, ↓reduceIte, h3, h1]
 refine Qb (fun hc => ?_) (fun hc => ?_)
 ·have hi' : i < R := by omega
  simp +decide (disch := first | exact D2 h3 h1 | fail) only [go_sem, ↓reduceIte, h3, h1]
  refine Qaf (by repeat (first | exact Qv | exact Qp | exact Qq | exact Qr | exact Qt | apply Qo | apply Qu | apply Q5 | apply Q9 | apply Qaa | apply Qk | apply Qw)) [(2, 2), (4, 4), (11, 25)] [] (fun q J hp => ∃ k, q = i - k /\ k <= i /\ J 4 = .int .i64 (k : Nat) /\ h = hp /\ ∀ j, j < k -> Qah l R i j = Qah l R j i) i ?_ ?_
  ·refine ⟨0, rfl, by omega, ?_⟩
   simp +decide (disch := first | exact D0 | fail) only [go_sem, ↓reduceIte]
   exact ⟨rfl, fun j hj => by omega⟩
  rintro _ J2 _ ⟨k, rfl, hk, i4, rfl, is⟩
  simp +decide (disch := first | exact D2 i4 h3 | fail) only [go_sem, ↓reduceIte, i4, h3]
  refine Qb (fun hc2 => ?_) (fun hc2 => ?_)
  ·have hk' : k < i := by omega
   have c1 := Qq2 hl hR2 hR2 hi' (show k < R by omega) hs
   have c2 := Qq2 hl hR2 hR2 (show k < R by omega) hi' hs
   have b1 := Qgq (m := R) (r := i) (c := k) (by omega) hs
   have b2 := Qgq (m := R) (r := k) (c := i) (by omega) hs
   have c3 := Qqt (a := Qah l R i k) (b := Qah l R k i) b1 b2 (by omega)
   obtain ⟨x, hx⟩ : ∃ x, Qah l R i k = x := ⟨_, rfl⟩
   obtain ⟨y, hy⟩ : ∃ y, Qah l R k i = y := ⟨_, rfl⟩
   rw [hx] at c1 c3
   rw [hy] at c2 c3
   by_cases e : x = y
   ·rw [decide_eq_true e] at c3
    repeat' first
     | refine Qcr ?_ ?_
     | refine Qa hP c1 rfl rfl rfl ?_
     | refine Qa hP c2 rfl rfl rfl ?_
     | refine Qa hP c3 rfl rfl rfl ?_
     | simp +decide (disch := first | exact D3 i4 h3 h1 | fail) only [go_sem, ↓reduceIte, i4, h3, h1]
    all_goals
     refine Q8 (i - (k + 1)) (by omega) ⟨k + 1, rfl, by omega, ?_⟩
     simp +decide (disch := first | exact D0 | fail) only [go_sem, ↓reduceIte]
     intro j hj
     by_cases e2 : j = k
     ·subst e2; rw [hx, hy, e]
     ·exact is j (by omega)
   ·rw [decide_eq_false e] at c3
    repeat' first
     | refine Qcr ?_ ?_
     | refine Qa hP c1 rfl rfl rfl ?_
     | refine Qa hP c2 rfl rfl rfl ?_
     | refine Qa hP c3 rfl rfl rfl ?_
     | simp +decide (disch := first | exact D3 i4 h3 h1 | fail) only [go_sem, ↓reduceIte, i4, h3, h1]
    all_goals
     refine Qc ?_ rfl
     rw [decide_eq_false]
     exact fun hsy => e (by rw [<- hx, <- hy]; exact hsy i hi' k hk')
  ·have hki : k = i := by omega
   subst hki
   simp +decide (disch := first | exact D1 h3 | fail) only [go_sem, ↓reduceIte, h3]
   simp (disch := decide) only [Qbs, Qcb]
   refine Q8 (R - (k + 1)) (by omega) ⟨k + 1, rfl, by omega, ?_⟩
   simp +decide (disch := first | exact D1 h1 | fail) only [go_sem, ↓reduceIte, h1]
   intro j hj k' hk'
   by_cases e : j = k
   ·subst e; exact is k' (by omega)
   ·exact hs1 j (by omega) k' hk'
 ·simp +decide (disch := first | exact D0 | fail) only [go_sem, ↓reduceIte]
  refine Qc ?_ rfl
  rw [decide_eq_true]
  exact fun j hj k hk => hs1 j (by omega) k hk
def pvR (R : Nat) (M : MF) : PV :=
 if Qbq M R < R then .tup [.int .i64 (Qbq M R : Nat), .int .i64 (Qbq M R : Nat), .bool true]
 else if Qa5 M R < R then .tup [.int .i64 (Qa5 M R : Nat), .int .i64 (Qci M R (Qa5 M R) : Nat), .bool true]
 else .tup [.int .i64 0, .int .i64 0, .bool false]
theorem Q7n {R k : Nat} {M : MF} (hR : R <= 40) (hs : Sym R M) (hM : MBd k R R M) (hk : k <= 2 ^ 30) : Qd Tryz.prog 96 [.sl 1 (Qy (PV.rowD R) M R)] (· = pvR R M) := by
 have hrl : (Qy (PV.rowD R) M R).length = R := Qal _ _ _
 refine Qf Ql Tryz.func96 rfl Qafa (by simp [c96]) fun C hP => ?_; simp only [c96, Zo, Zg, Zm, Zc, Zf, Zl, Zh, Zs, Zi, Zb, Zk, Zn, Zu, Zq, Zr, Zz]
 simp +decide (disch := first | exact D1 hrl | fail) only [go_sem, ↓reduceIte, hrl]
 refine Qaf (by repeat (first | exact Qv | exact Qp | exact Qq | exact Qr | exact Qt | apply Qo | apply Qu | apply Q5 | apply Q9 | apply Qaa | apply Qk | apply Qw)) [(2, 5), (8, 24)] [] (fun q J hp => ∃ i, q = R - i /\ i <= R /\ J 5 = .int .i64 (i : Nat) /\ ∀ j, j < i -> M j j = 0) R ?_ ?_
 ·refine ⟨0, rfl, by omega, ?_⟩
  simp +decide (disch := first | exact D0 | fail) only [go_sem, ↓reduceIte]
  exact ⟨rfl, fun j hj => by omega⟩
 rintro _ J h ⟨i, rfl, hi, h5, hz⟩
 simp +decide (disch := first | exact D2 h5 hrl | fail) only [go_sem, ↓reduceIte, h5, hrl]
 refine Qb (fun hc => ?_) (fun hc => ?_)
 ·have hi' : i < R := by omega
  have b1 := hM i hi' i hi'
  simp +decide (disch := first | exact D1 h5 | fail) only [go_sem, ↓reduceIte, h5]
  refine Qa hP (Qs3 (a := M i i) (by omega)) rfl rfl rfl ?_
  simp +decide (disch := first | exact D1 h5 | fail) only [go_sem, ↓reduceIte, h5]
  refine Qb (fun he => ?_) (fun he => ?_)
  ·have hne : M i i ≠ 0 := fun e => he (Qcj.2 e)
   have hdi : Qbq M R = i := Qhj (Nat.zero_le _) (by omega) (decide_eq_true hne) fun j _ hj => decide_eq_false (fun h => h (hz j hj))
   simp +decide (disch := first | exact D1 h5 | fail) only [go_sem, ↓reduceIte, h5]
   refine Qex ?_ rfl rfl rfl (Qn _) (Qn _) (Qn _)
   unfold pvR
   rw [hdi, if_pos hi']
  ·simp +decide (disch := first | exact D1 h5 | fail) only [go_sem, ↓reduceIte, h5]
   refine Q8 (R - (i + 1)) (by omega) ⟨i + 1, rfl, by omega, ?_⟩
   simp +decide (disch := first | exact D0 | fail) only [go_sem, ↓reduceIte]
   intro j hj
   by_cases e : j = i
   ·subst e; exact Qcj.1 (Classical.not_not.1 he)
   ·exact hz j (by omega)
 ·obtain rfl : i = R := by omega
  have hnd : ¬ Qbq M i < i := by
   have : Qbq M i = 0 + i := Qf4 fun j _ hj => decide_eq_false (fun h => h (hz j (by omega)))
   omega
  simp +decide (disch := first | exact D0 | fail) only [go_sem, ↓reduceIte]
  refine Qaf (by repeat (first | exact Qv | exact Qp | exact Qq | exact Qr | exact Qt | apply Qo | apply Qu | apply Q5 | apply Q9 | apply Qaa | apply Qk | apply Qw)) [(2, 4), (6, 7), (25, 49)] [] (fun q J hp => ∃ a, q = i - a /\ a <= i /\ J 6 = .int .i64 (a : Nat) /\ ∀ j, j < a -> ∀ k, k < i -> M j k = 0) i ?_ ?_
  ·refine ⟨0, rfl, by omega, ?_⟩
   simp +decide (disch := first | exact D0 | fail) only [go_sem, ↓reduceIte]
   exact ⟨rfl, fun j hj => by omega⟩
  rintro _ J1 h1 ⟨a, rfl, ha, a6, az⟩
  simp +decide (disch := first | exact D2 a6 hrl | fail) only [go_sem, ↓reduceIte, a6, hrl]
  refine Qb (fun hca => ?_) (fun hca => ?_)
  ·have ha' : a < i := by omega
   simp +decide (disch := first | exact D1 a6 | fail) only [go_sem, ↓reduceIte, a6]
   refine Qaf (by repeat (first | exact Qv | exact Qp | exact Qq | exact Qr | exact Qt | apply Qo | apply Qu | apply Q5 | apply Q9 | apply Qaa | apply Qk | apply Qw)) [(2, 4), (7, 7), (33, 49)] [] (fun q J hp => ∃ b, q = i - b /\ a < b /\ b <= i /\ J 7 = .int .i64 (b : Nat) /\ ∀ k, k < b -> M a k = 0) (i - (a + 1)) ?_ ?_
   ·refine ⟨a + 1, rfl, by omega, by omega, ?_⟩
    simp +decide (disch := first | exact D0 | fail) only [go_sem, ↓reduceIte]
    intro k hk
    by_cases e : k = a
    ·subst e; exact hz k (by omega)
    ·rw [hs a ha' k (by omega)]; exact az k (by omega) a ha'
   rintro _ J2 h2 ⟨b, rfl, hab, hb, b7, bz⟩
   simp +decide (disch := first | exact D2 b7 hrl | fail) only [go_sem, ↓reduceIte, b7, hrl]
   refine Qb (fun hcb => ?_) (fun hcb => ?_)
   ·have hb' : b < i := by omega
    have b1 := hM a ha' b hb'
    simp +decide (disch := first | exact D2 b7 a6 | fail) only [go_sem, ↓reduceIte, b7, a6]
    refine Qa hP (Qs3 (a := M a b) (by omega)) rfl rfl rfl ?_
    simp +decide (disch := first | exact D2 b7 a6 | fail) only [go_sem, ↓reduceIte, b7, a6]
    refine Qb (fun he => ?_) (fun he => ?_)
    ·have hne : M a b ≠ 0 := fun e => he (Qcj.2 e)
     have hci : Qci M i a = b := Qhj (Nat.zero_le _) (by omega) (decide_eq_true hne) fun j _ hj => decide_eq_false (fun h => h (bz j hj))
     have hri : Qa5 M i = a := Qhj (Nat.zero_le _) (by omega) (decide_eq_true (by rw [hci]; exact hb')) fun j _ hj => decide_eq_false (fun h => by
      have : Qci M i j = 0 + i := Qf4 fun k _ hk => decide_eq_false (fun h2 => h2 (az j (by omega) k (by omega)))
      omega)
     simp +decide (disch := first | exact D2 b7 a6 | fail) only [go_sem, ↓reduceIte, b7, a6]
     refine Qex ?_ rfl rfl rfl (Qn _) (Qn _) (Qn _)
     unfold pvR
     rw [if_neg hnd, hri, if_pos ha', hci]
    ·simp +decide (disch := first | exact D1 b7 | fail) only [go_sem, ↓reduceIte, b7]
     refine Q8 (i - (b + 1)) (by omega) ⟨b + 1, rfl, by omega, by omega, ?_⟩
     simp +decide (disch := first | exact D0 | fail) only [go_sem, ↓reduceIte]
     intro k hk
     by_cases e : k = b
     ·subst e; exact Qcj.1 (Classical.not_not.1 he)
     ·exact bz k (by omega)
   ·simp +decide (disch := first | exact D1 a6 | fail) only [go_sem, ↓reduceIte, a6]
    simp (disch := decide) only [Qbs, Qcb]
    refine Q8 (i - (a + 1)) (by omega) ⟨a + 1, rfl, by omega, ?_⟩
    simp +decide (disch := first | exact D0 | fail) only [go_sem, ↓reduceIte]
    intro j hj k hk
    by_cases e : j = a
    ·subst e; exact bz k (by omega)
    ·exact az j (by omega) k hk
  ·simp +decide (disch := first | exact D0 | fail) only [go_sem, ↓reduceIte]
   refine Qex ?_ rfl rfl rfl (Qn _) (Qn _) (Qn _)
   have e1 : ¬ Qa5 M i < i := by
    have : Qa5 M i = 0 + i := Qf4 fun j _ hj => decide_eq_false (fun h => by
     have : Qci M i j = 0 + i := Qf4 fun k _ hk => decide_eq_false (fun h2 => h2 (az j (by omega) k (by omega)))
     omega)
    omega
   unfold pvR
   rw [if_neg hnd, if_neg e1]
end Go.Proofs.YtmnkngmmfnncoaaGreat
namespace Go.Proofs.YtmnkngmmfnncoaaGreat
open Go Go.FW
set_option linter.unusedSimpArgs false
set_option linter.unusedVariables false
set_option maxRecDepth 100000
def c30 : SFn := ⟨132, [.t 2, .cell 3 3 true, .t 4], Zr (Zo (.box 1 3 24 (.t 0)) <|
 Zo (.mv 2 (.c .nilS)) <|
 Zo (.alloc 3 3 24 (.agg [Zz 0, Zz 0, .nilS])) <|
 Zc 4 0 .nil) <| .seq (Zr (Zh 17 3 1 <|
 Zq 18 false 26 [.t 17] <|
 Zu 19 18 .nil) <| .cond (.t 19) (Zr (Zo (.bld 20 [Zz 0, Zz 0, .nilS] []) <|
 Zo (.mv 2 (.c .nilS)) <|
 Zs 3 3 20 <|
 Zc 4 1 .nil) .ret) .skip) <| .seq (Zr (Zf 21 0 1 <|
 Zl 22 1 21 <|
 Zf 23 1 1 <|
 Zl 24 1 23 <|
 Zb 25 .neq 22 24 <|
 Zm 26 25 <|
 Zg 26 false (.ld 27 3 true (.t 1)) <|
 Zg 26 false (.call (some 28) false (.c (.fn 95 [] [])) [.t 27]) <|
 Zg 26 false (.un 29 .not (.t 28)) <|
 Zo (.pick 30 (.t 26) (.c (.bool true)) (.t 29)) .nil) <| .cond (.t 30) (Zr (Zo (.bld 31 [Zz 0, Zz 0, .nilS] []) <|
 Zo (.mv 2 (.c .nilS)) <|
 Zs 3 3 31 <|
 Zc 4 16 .nil) .ret) .skip) <| Zr (Zh 32 3 1 <|
 Zq 33 false 80 [.t 32] <|
 Zm 5 33 .nil) <| Zr (Zo (.mv 6 (.c .nilS)) .nil) <| Zr (Zf 34 1 1 <|
 Zl 35 1 34 <|
 Zo (.bld 36 [Zz 0, Zz 0, .nilS] [(1, 1, .t 35)]) <|
 Zo (.alloc 7 3 24 (.agg [Zz 0, Zz 0, .nilS])) <|
 .wk <| .wk <| Zs 3 7 36 <|
 .wk .nil) <| .seq (.block 0 <| .loop <| .block 1 <| Zr (Zm 38 5 <|
 Zq 39 false 96 [.t 38] <|
 Zm 37 39 <|
 Zo (.ext 40 (.t 37) 0) <|
 Zo (.ext 41 (.t 37) 1) <|
 Zo (.ext 42 (.t 37) 2) <|
 Zm 8 40 <|
 Zm 9 41 <|
 Zm 10 42 .nil) <| .seq (Zr (Zm 43 10 <|
 Zu 44 43 .nil) <| .cond (.t 44) (.exit 0) .skip) <| Zr (Zm 45 5 <|
 Zm 46 8 <|
 Zi 47 1 45 46 <|
 Zl 48 1 47 <|
 Zm 49 9 <|
 Zi 50 3 48 49 <|
 Zh 51 3 50 <|
 Zo (.alloc 11 3 32 (.agg [.bool false, .nilS, .nilS])) <|
 Zs 3 11 51 .nil) <| Zr (Zm 52 5 <|
 Zm 53 8 <|
 Zi 54 1 52 53 <|
 Zl 55 1 54 <|
 Zh 56 3 11 <|
 Zq 57 false 97 [.t 55, .t 56] <|
 Zo (.bs 58 1 22 [.t 57]) <|
 Zm 12 58 .nil) <| Zr (Zh 59 3 11 <|
 Zo (.bs 60 3 32 [.t 59]) <|
 Zm 13 60 .nil) <| .seq (Zr (Zm 61 8 <|
 Zm 62 9 <|
 Zb 63 .neq 61 62 .nil) <| .cond (.t 63) (Zr (Zh 66 3 11 <|
 .br (Zq 65 true 71 [.c (Zz 1), .c (Zz 2)] <|
 .br (Zq 67 true 84 [.t 65, .t 66] <|
 Zm 64 67 <|
 Zo (.ext 68 (.t 64) 0) <|
 Zo (.ext 69 (.t 64) 1) <|
 Zo (.alloc 14 3 32 (.agg [.bool false, .nilS, .nilS])) <|
 Zs 3 14 68 <|
 Zm 15 69 .nil) (Zo (.alloc 14 3 32 (.agg [.bool false, .nilS, .nilS])) <|
 Zq 67 true 84 [.t 65, .t 66] <|
 Zm 64 67 <|
 Zo (.ext 68 (.t 64) 0) <|
 Zo (.ext 69 (.t 64) 1) <|
 Zs 3 14 68 <|
 Zm 15 69 .nil)) (Zo (.alloc 14 3 32 (.agg [.bool false, .nilS, .nilS])) <|
 Zq 65 true 71 [.c (Zz 1), .c (Zz 2)] <|
 Zq 67 true 84 [.t 65, .t 66] <|
 Zm 64 67 <|
 Zo (.ext 68 (.t 64) 0) <|
 Zo (.ext 69 (.t 64) 1) <|
 Zs 3 14 68 <|
 Zm 15 69 .nil)) <| Zr (Zm 70 5 <|
 Zm 71 8 <|
 Zi 72 1 70 71 <|
 Zl 73 1 72 <|
 Zm 74 5 <|
 Zm 75 9 <|
 Zi 76 1 74 75 <|
 Zl 77 1 76 <|
 Zm 80 5 <|
 Zm 81 8 <|
 Zi 82 1 80 81 <|
 Zl 83 1 82 <|
 Zm 84 5 <|
 Zm 85 9 <|
 Zi 86 1 84 85 <|
 Zl 87 1 86 <|
 Zq 78 true 34 [.c (Zz 1)] <|
 Zq 79 true 98 [.t 73, .t 77, .t 78] <|
 Zq 88 true 34 [.c (Zz (-1))] <|
 Zq 89 true 98 [.t 83, .t 87, .t 88] <|
 Zo (.bs 90 1 22 [.t 79, .t 89]) <|
 Zm 12 90 .nil) <| .rg (Zh 91 3 14 <|
 Zh 92 3 14 <|
 Zq 93 true 82 [.t 92] <|
 Zo (.bs 94 3 32 [.t 91, .t 93]) <|
 Zm 13 94 .nil)) .skip) <| Zr (Zc 16 0 .nil) <| .block 2 <| .loop <| .seq (Zr (Zm 95 16 <|
 Zm 96 12 <|
 Zn 97 96 <|
 Zb 98 .lss 95 97 .nil) <| .cond (.t 98) .skip (.exit 2)) <| .seq (.block 3 <| Zr (Zm 101 5 <|
 Zm 102 12 <|
 Zm 103 16 <|
 Zi 104 1 102 103 <|
 Zl 105 1 104 <|
 Zm 106 13 <|
 Zm 107 16 <|
 Zi 108 3 106 107 <|
 Zh 109 3 108 <|
 Zq 110 false 99 [.t 101, .t 105, .t 109] <|
 Zm 5 110 .nil) <| Zr (Zm 111 6 <|
 Zm 112 13 <|
 Zm 113 16 <|
 Zi 114 3 112 113 <|
 Zh 115 3 114 <|
 Zo (.bs 116 3 32 [.t 115]) <|
 Zo (.app 117 3 56 32 (.t 111) (.t 116)) <|
 Zm 6 117 .nil) <| Zr (Zf 118 0 7 <|
 Zl 119 1 118 <|
 Zk 120 .add 119 1 <|
 Zf 121 0 7 <|
 Zs 1 121 120 .nil) <| .rg (Zf 122 2 7 <|
 Zl 123 1 122 <|
 Zm 124 12 <|
 Zm 125 16 <|
 Zi 126 1 124 125 <|
 Zl 127 1 126 <|
 Zo (.app 128 3 56 32 (.t 123) (.t 127)) <|
 Zf 129 2 7 <|
 Zs 1 129 128 .nil)) <| .rg (Zm 99 16 <|
 Zk 100 .add 99 1 <|
 Zm 16 100 .nil)) <| Zr (Zm 130 6 <|
 Zh 131 3 7 <|
 .wk <| Zm 2 130 <|
 Zs 3 3 131 <|
 Zc 4 0 .nil) .ret⟩
theorem Qq8 : Qe Tryz.prog Tryz.f30 = some c30.strip := by kernel_rfl
theorem Qab2 {α : Rat} (h : α ≠ 0) : ((1 : Int) : Rat) / ((2 : Int) : Rat) / α = 1 / (α + α) := by
 have h2 : α + α ≠ 0 := fun e => h (by grind)
 have e1 : ((1 : Int) : Rat) / ((2 : Int) : Rat) * (((2 : Int) : Rat)) = 1 := by decide +kernel
 have e2 : ((2 : Int) : Rat) = 2 := rfl
 rw [e2] at e1 ⊢
 grind
theorem Qwb {R : Nat} {M : MF} (h : Qjo M R) : Sym R M := fun i hi k hk => by
 rcases Nat.lt_trichotomy i k with e | e | e
 ·exact (h k hk i e).symm
 ·rw [e]
 ·exact h i hi k e
theorem Qs7 {R : Nat} {l : List Rat} (hl : l.length = R * R) (hR2 : R <= 5) (hs3 : ∀ q ∈ l, rs q <= 3) (hsym : Qjo (Qah l R) R) :
  Qd Tryz.prog 30 [PV.mat R R l] (· = Qv4 R (Qae R (Qah l R) (2 * R)).2) := by
 have hs : ∀ q ∈ l, rs q <= 1048576 := fun q hq => by have := hs3 q hq; omega
 have c1 := Qnn hl (by omega) hs
 rw [decide_eq_true hsym] at c1
 have c2 := Qwa hl (show R <= 40 by omega) (by omega)
 have hz : ([.agg [.int .i64 0, .int .i64 0, .nilS]] : List PV) ≠ [] := by simp
 have hzd : ∀ x ∈ ([.agg [.int .i64 0, .int .i64 0, .nilS]] : List PV), x.ncells = x.cells := fun x hx => by rw [List.mem_singleton.1 hx]; rfl
 have hM3 : MBd 3 R R (Qah l R) := fun r _ c _ => Qgq (by omega) hs3
 have hSym := Qwb hsym
 obtain ⟨M, hM⟩ : ∃ M, Qah l R = M := ⟨_, rfl⟩
 rw [hM] at c2 hM3 hSym ⊢
 have hRB : Qpf 50421 R R M := fun k hk => by
  have h := Qx9 (n := R) hSym (by omega) hM3 k hk
  have e : 3 * 7 ^ R <= 3 * 7 ^ 5 := Nat.mul_le_mul_left _ (Nat.pow_le_pow_right (by omega) hR2)
  exact ⟨fun r hr c hc => Nat.le_trans (h.1 r hr c hc) e, fun f hf => ⟨Nat.le_trans (h.2.1 f hf).1 e, fun c hc => Nat.le_trans ((h.2.1 f hf).2 c hc) e⟩, fun j hj r hr c hc => Nat.le_trans (h.2.2 j hj r hr c hc) e⟩
 refine Qct Ql Tryz.func30 rfl Qq8 (by simp [c30]) fun C hP => ?_; simp only [c30, Zo, Zg, Zm, Zc, Zf, Zl, Zh, Zs, Zi, Zb, Zk, Zn, Zu, Zq, Zr, Zz]
 simp +decide (disch := first | exact D0 | fail) only [go_sem, ↓reduceIte]
 refine Qa hP (Qkq hl (by omega) (by omega) hs) rfl rfl rfl ?_
 simp +decide (disch := first | exact D0 | fail) only [go_sem, ↓reduceIte]
 repeat' first
  | refine Qcr ?_ ?_
  | refine Qa hP c1 rfl rfl rfl ?_
  | refine Qa hP c2 rfl rfl rfl ?_
  | simp +decide (disch := first | exact D0 | fail) only [go_sem, ↓reduceIte]
 refine Qcw (Qqk 7 2000001 Tr0 (by omega) rfl (by omega)) ?_
 refine Qcw (Qql (γ := 2000001) (e := 3) (ty := 24) (fz := false) T0 hz (by omega) hzd) ?_
 simp +decide (disch := first | exact D0 | fail) only [go_sem, ↓reduceIte]
 refine Qcw (Qv1 (γ := 2000001) (e := 3) (ty := 24) (cs := [.int .i64 0, .int .i64 (R : Nat), .nilS]) (cs' := [.int .i64 0, .int .i64 (R : Nat), .mso 2000002 0 0]) 2000002 3 32 T0 Tr0 (by omega) (by omega) rfl (by simp)) ?_
 simp +decide (disch := first | exact D0 | fail) only [go_sem, ↓reduceIte]
 refine Qfe 6 900 3 32 (by omega) T0 ?_
 refine Qch (by repeat (first | exact Qv | exact Qp | exact Qq | exact Qr | exact Qt | apply Qo | apply Qu | apply Q5 | apply Q9 | apply Qaa | apply Qk | apply Qw)) [(5, 16), (37, 129), (2000001, 2000001)] [11, 14, 58, 60, 90, 94, 116, 117, 128, 900] (fun q J hp => ∃ k, q = R - k /\ (∀ j, j < k -> Qay (Qae R M j).1 R ≠ []) /\ J 5 = .sl 1 (Qy (PV.rowD R) (Qae R M k).1 R) /\ J 6 = .ms 900 (Qae R M k).2.length /\ J 7 = .np 2000001 0 0 /\ J 2000001 = .nst 2000001 3 24 [Qmi R (Qae R M k).2.length] /\
   hp 3 = some ⟨3, 24, [.agg [.int .i64 0, .int .i64 0, .nilS]], false⟩ /\ hp 2000001 = some ⟨3, 24, [], false⟩ /\ hp 2000002 = some ⟨3, 32, (Qc9 R (Qae R M k).2).map PV.rat, false⟩ /\ hp 900 = some ⟨3, 32, ((Qae R M k).2.map (·.1)).map PV.rat, false⟩) R ?_ ?_
 ·refine ⟨0, rfl, (fun j hj => by omega), ?_⟩
  simp +decide (disch := first | exact D0 | fail) only [go_sem, ↓reduceIte]
  exact ⟨rfl, rfl, by simp [Qae], rfl, rfl⟩
 rintro _ J h ⟨k, rfl, hbef, j5, j6, j7, jb, h3, hb, hx, h9⟩
 have hnz := Qya hSym (by omega) hM3 k hbef
 have hkR : k <= R := by omega
 obtain ⟨hSk, _⟩ := Qmj hSym (b := 3) (by omega) hM3 k
 have hBk := hRB k hkR
 have hlk := Qhv R M k
 have hpv := Q7n (k := 50421) (by omega) hSk hBk.1 (by omega)
 simp +decide (disch := first | exact D4 j5 j6 j7 jb | fail) only [go_sem, ↓reduceIte, j5, j6, j7, jb]
 refine Qa hP hpv rfl rfl rfl ?_
 have hn1 : (Qae R M (k + 1)).1 = Qcx (Qae R M k).1 (Qay (Qae R M k).1 R) := rfl
 have hn2 : (Qae R M (k + 1)).2 = (Qae R M k).2 ++ Qay (Qae R M k).1 R := rfl
 by_cases hnx : Qay (Qae R M k).1 R = []
 ·have hd : ¬ Qbq (Qae R M k).1 R < R := fun h => by unfold Qay at hnx; rw [if_pos h] at hnx; cases hnx
  have hr : ¬ Qa5 (Qae R M k).1 R < R := fun h => by unfold Qay at hnx; rw [if_neg hd, if_pos h] at hnx; cases hnx
  have hfin := Qpi hnx (2 * R - k)
  rw [show k + (2 * R - k) = 2 * R by omega] at hfin
  rw [hfin]
  unfold pvR
  rw [if_neg hd, if_neg hr]
  have hfl := Qea R (Qae R M k).2
  simp +decide (disch := first | exact D8 j5 j6 j7 jb h3 hb hx h9 | fail) only [go_sem, ↓reduceIte, j5, j6, j7, jb, h3, hb, hx, h9]
  refine Qx7 131 2 [2000002] (p := Qmi R (Qae R M k).2.length) T0 (D := PV.mat (Qae R M k).2.length R (Qc9 R (Qae R M k).2)) ?_ ?_ rfl ?_
  ·intro c hc
   simp only [List.mem_cons, List.not_mem_nil, or_false] at hc
   rcases hc with rfl | rfl | rfl
   ·trivial
   ·trivial
   ·simp only [okD, isY]; simp
  ·show PV.agg [_, _, dsn _ h 2 (.mso 2000002 0 _)] = _
   simp only [dsn, hx, List.drop_zero]
   rw [List.take_of_length_le (by rw [List.length_map, hfl]; omega)]
  simp +decide (disch := first | exact E6 j6 j7 jb h3 hb h9 | fail) only [go_sem, ↓reduceIte, j6, j7, jb, h3, hb, h9, Q7, List.contains_cons, List.contains_nil, List.flatMap_cons, List.flatMap_nil, List.append_nil]
  refine Qdb (Qin ?_)
  simp +decide (disch := first | exact E2 h3 h9 | fail) only [go_sem, ↓reduceIte, h3, h9, Q7, List.contains_cons, List.contains_nil, List.flatMap_cons, List.flatMap_nil, List.append_nil]
  rw [List.take_of_length_le (by simp)]
  exact Qex rfl rfl rfl rfl (Qn _) (Qn _) (Qn _)
 have hkR2 : k < R := by
  have := Qab0 hSk hnx
  omega
 have hbef1 : ∀ j, j < k + 1 -> Qay (Qae R M j).1 R ≠ [] := fun j hj => by
  by_cases e : j = k
  ·subst e; exact hnx
  ·exact hbef j (by omega)
 have hnl := Qjn (Qae R M k).1 R
 obtain ⟨E, hE⟩ : ∃ E, Qae R M k = E := ⟨_, rfl⟩
 rw [hE] at hBk hlk hn1 hn2 j5 j6 jb hx h9 hnx hnl hSk ⊢
 obtain ⟨N, fs⟩ := E
 simp only at hBk hlk hn1 hn2 j5 j6 jb hx h9 hnx hnl hSk ⊢
 have hR0 : 0 < R := by omega
 by_cases hd : Qbq N R < R
 ·have e0 : pvR R N = .tup [.int .i64 (Qbq N R : Nat), .int .i64 (Qbq N R : Nat), .bool true] := by unfold pvR; rw [if_pos hd]
  have e1 : Qay N R = [(N (Qbq N R) (Qbq N R), Qdi (fun _ => 0) (N (Qbq N R)) (1 / N (Qbq N R) (Qbq N R)))] := by unfold Qay; rw [if_pos hd]
  have h0 := Qph hd
  obtain ⟨L, hL⟩ : ∃ L, Qay N R = L := ⟨_, rfl⟩
  rw [hL] at hBk hnl hn1 hn2 e1 hnx
  rw [e0]
  generalize Qbq N R = d at *
  have hdd := hBk.1 d hd d hd
  have ho := Qx6 (x := N d) (c := N d d) (w := R) (k := 50421) (by omega) (fun c hc => hBk.1 d hd c hc) hdd h0 (by omega)
  have hrow : Qy PV.rat (fun c => N d c / N d d) R = Qy PV.rat (Qdi (fun _ => 0) (N d) (1 / N d d)) R := Qb7 fun c hc => by
   show N d c / N d d = 0 + 1 / N d d * N d c
   rw [Rat.zero_add, Rat.div_def, Rat.div_def, Rat.one_mul, Rat.mul_comm]
  rw [hrow] at ho
  have hLl : L.length = 1 := by rw [e1]; rfl
  simp +decide (disch := first | exact D8 j5 j6 j7 jb h3 hb hx h9 | fail) only [go_sem, ↓reduceIte, j5, j6, j7, jb, h3, hb, hx, h9]
  refine Qa hP ho rfl rfl rfl ?_
  simp +decide (disch := first | exact D8 j5 j6 j7 jb h3 hb hx h9 | fail) only [go_sem, ↓reduceIte, j5, j6, j7, jb, h3, hb, hx, h9]
  refine Qch (by repeat (first | exact Qv | exact Qp | exact Qq | exact Qr | exact Qt | apply Qo | apply Qu | apply Q5 | apply Q9 | apply Qaa | apply Qk | apply Qw)) [(5, 7), (16, 16), (95, 129), (2000001, 2000001)] [116, 117, 128, 900] (fun q J hp => ∃ i, q = L.length - i /\ i <= L.length /\ J 5 = .sl 1 (Qy (PV.rowD R) (Qcx N (L.take i)) R) /\ J 6 = .ms 900 (fs ++ L.take i).length /\ J 7 = .np 2000001 0 0 /\ J 16 = .int .i64 (i : Nat) /\ J 2000001 = .nst 2000001 3 24 [Qmi R (fs ++ L.take i).length] /\
    hp 3 = some ⟨3, 24, [.agg [.int .i64 0, .int .i64 0, .nilS]], false⟩ /\ hp 2000001 = some ⟨3, 24, [], false⟩ /\ hp 2000002 = some ⟨3, 32, (Qc9 R (fs ++ L.take i)).map PV.rat, false⟩ /\ hp 900 = some ⟨3, 32, ((fs ++ L.take i).map (·.1)).map PV.rat, false⟩ /\
    hp 58 = some ⟨1, 22, L.map (fun f => PV.rowD R f.2), false⟩ /\ hp 60 = some ⟨3, 32, L.map (fun f => PV.rat f.1), false⟩) L.length ?_ ?_
  ·refine ⟨0, rfl, by omega, ?_⟩
   simp +decide (disch := first | exact D8 j5 j6 j7 jb h3 hb hx h9 | fail) only [go_sem, ↓reduceIte, j5, j6, j7, jb, h3, hb, hx, h9]
   simp only [List.append_nil]
   refine ⟨rfl, trivial, rfl, trivial, trivial, trivial, ?_, ?_⟩
   ·rw [e1]; rfl
   ·rw [e1]; rfl
  rintro _ J1 g ⟨i, rfl, hi, i5, i6, i7, i16, ib, g3, gb, gx, g9, gp, gq⟩
  simp +decide (disch := first | exact D1 i16 | fail) only [go_sem, ↓reduceIte, i16]
  refine Qb (fun hci => ?_) (fun hci => ?_)
  ·have hi' : i < L.length := by omega
   have htk : L.take (i + 1) = L.take i ++ [L[i]] := List.take_succ_eq_append_getElem hi'
   have hfb := hBk.2.1 _ (List.getElem_mem hi')
   have hMb := hBk.2.2 i hi
   have hll : (fs ++ L.take i).length <= 200 := by
    rw [List.length_append, List.length_take]; omega
   have hfl2 := Qea R (fs ++ L.take i)
   generalize hf : L[i] = f at *
   have hsn := Qmg N (L.take i) f
   have hfsn := Qmh R (fs ++ L.take i) f
   have hTk : fs ++ L.take (i + 1) = (fs ++ L.take i) ++ [f] := by rw [htk, <- List.append_assoc]
   rw [<- htk] at hsn
   generalize hT : fs ++ L.take i = T at *
   generalize hZ : Qcx N (L.take i) = Z at *
   have hTR : T.length * R <= 200 * 5 := Nat.mul_le_mul hll hR2
   have hrl : (Qy PV.rat f.2 R).length = R := Qal _ _ _
   have hw := Qq7 (M := Z) (f := f) (k := 50421) (by omega) hMb hfb.1 hfb.2 (by omega)
   simp +decide (disch := first | exact D12 i5 i6 i7 i16 ib g3 gb gx g9 gp gq hf | fail) only [go_sem, ↓reduceIte, i5, i6, i7, i16, ib, g3, gb, gx, g9, gp, gq, hf]
   refine Qa hP hw rfl rfl rfl ?_
   simp +decide (disch := first | exact D12 i5 i6 i7 i16 ib g3 gb gx g9 gp gq hf | fail) only [go_sem, ↓reduceIte, i5, i6, i7, i16, ib, g3, gb, gx, g9, gp, gq, hf]
   rw [Qbk (f := PV.rat) (y := f.1) (xs := T.map (·.1)) (ty' := 32) (fz := false) (T1 g9) T0 (by omega) (by simp) (by omega) (by omega)]
   simp +decide (disch := first | exact D12 i5 i6 i7 i16 ib g3 gb gx g9 gp gq hf | fail) only [go_sem, ↓reduceIte, i5, i6, i7, i16, ib, g3, gb, gx, g9, gp, gq, hf]
   rw [Qv0 (xs := (Qc9 R T).map PV.rat) (T1 gx) (by omega) (by rw [List.length_map, hfl2]) (Qlc hR0) (by rw [hrl]; omega) (by rw [hrl]; omega) (by omega), hrl]
   simp +decide (disch := first | exact D11 i5 i6 i7 i16 ib g3 gb gx g9 gp gq | fail) only [go_sem, ↓reduceIte, i5, i6, i7, i16, ib, g3, gb, gx, g9, gp, gq]
   refine Qbl (L.length - (i + 1)) (by omega) ⟨i + 1, rfl, by omega, ?_⟩
   rw [hTk, hsn]
   simp +decide (disch := first | exact D10 i5 i6 i7 ib g3 gb gx g9 gp gq | fail) only [go_sem, ↓reduceIte, i5, i6, i7, ib, g3, gb, gx, g9, gp, gq]
   refine ⟨by rw [List.length_append]; rfl, ?_, ?_, by simp⟩
   ·rw [List.length_append, List.length_singleton, show T.length * R + R = (T.length + 1) * R from (Nat.succ_mul _ _).symm]
   ·rw [hfsn, List.map_append, Qfu]
  ·have hiL : i = L.length := by omega
   subst hiL
   rw [List.take_length] at i5 i6 ib gx g9
   simp (disch := decide) only [Qcd, Qcm, Qcb, Qc7]
   simp +decide (disch := first | exact D0 | fail) only [go_sem, ↓reduceIte]
   refine Qbl (R - (k + 1)) (by omega) ⟨k + 1, rfl, hbef1, ?_⟩
   rw [hn1, hn2]
   simp +decide (disch := first | exact D8 i5 i6 i7 ib g3 gb gx g9 | fail) only [go_sem, ↓reduceIte, i5, i6, i7, ib, g3, gb, gx, g9]
 ·have hr : Qa5 N R < R := by
   refine Classical.byContradiction fun h => hnx ?_
   unfold Qay; rw [if_neg hd, if_neg h]
  have hlt := Qab1 hSk hd hr
  have hb0 := Qlg hr
  have h0 := Qn8 hb0
  have e0 : pvR R N = .tup [.int .i64 (Qa5 N R : Nat), .int .i64 (Qci N R (Qa5 N R) : Nat), .bool true] := by unfold pvR; rw [if_neg hd, if_pos hr]
  have e1 : Qay N R = [(1 / (N (Qa5 N R) (Qci N R (Qa5 N R)) + N (Qa5 N R) (Qci N R (Qa5 N R))), Qdi (N (Qa5 N R)) (N (Qci N R (Qa5 N R))) 1), (-(1 / (N (Qa5 N R) (Qci N R (Qa5 N R)) + N (Qa5 N R) (Qci N R (Qa5 N R)))), Qdi (N (Qa5 N R)) (N (Qci N R (Qa5 N R))) (-1))] := by unfold Qay; rw [if_neg hd, if_pos hr]
  obtain ⟨L, hL⟩ : ∃ L, Qay N R = L := ⟨_, rfl⟩
  rw [hL] at hBk hnl hn1 hn2 e1 hnx
  rw [e0]
  generalize Qa5 N R = a at *
  generalize Qci N R a = d at *
  have hdd := hBk.1 a hr d hb0
  have he := Qab2 h0
  have ba : ∀ c, c < R -> rs (N a c) <= 50421 := fun c hc => hBk.1 a hr c hc
  have bd : ∀ c, c < R -> rs (N d c) <= 50421 := fun c hc => hBk.1 d hb0 c hc
  have q1 : rs ((1 : Int) : Rat) <= 1 := Qry
  have q2 : rs ((-1 : Int) : Rat) <= 1 := Qafp
  have hh : rs (((1 : Int) : Rat) / ((2 : Int) : Rat)) <= 10 := by decide +kernel
  have ho := Qx6 (x := N a) (c := N a d) (w := R) (k := 50421) (by omega) ba hdd h0 (by omega)
  have hfr := Qjl (x := 1) (y := 2) (by omega) (by omega) (by omega)
  have hdv := Qvs (a := ((1 : Int) : Rat) / ((2 : Int) : Rat)) (b := N a d) (k := 50421) (by omega) hdd (by omega) h0
  have bw := Qv3 (a := ((1 : Int) : Rat) / ((2 : Int) : Rat)) h0
  rw [he] at hdv bw
  have hng := Qpc (a := 1 / (N a d + N a d)) (k := 60000) (by omega) (by omega)
  have ho1 := Qf6 (x := 1) (by omega) (by omega)
  have ho2 := Qf6 (x := -1) (by omega) (by omega)
  have hs1 := Q23 (x := N a) (y := N d) (c := ((1 : Int) : Rat)) (w := R) (k := 50421) (by omega) ba bd (by omega) (by omega)
  have hs2 := Q23 (x := N a) (y := N d) (c := ((-1 : Int) : Rat)) (w := R) (k := 50421) (by omega) ba bd (by omega) (by omega)
  have hLl : L.length = 2 := by rw [e1]; rfl
  rw [show (-1 : Rat) = ((-1 : Int) : Rat) from rfl, show (1 : Rat) = ((1 : Int) : Rat) from rfl] at e1
  rw [show (1 : Rat) = ((1 : Int) : Rat) from rfl] at hdv hng
  generalize ((1 : Int) : Rat) / (N a d + N a d) = wt at *
  generalize ((1 : Int) : Rat) / ((2 : Int) : Rat) = hf2 at *
  generalize ((1 : Int) : Rat) = u1 at *
  generalize ((-1 : Int) : Rat) = u2 at *
  simp +decide (disch := first | exact D8 j5 j6 j7 jb h3 hb hx h9 | fail) only [go_sem, ↓reduceIte, j5, j6, j7, jb, h3, hb, hx, h9]
  refine Qa hP ho rfl rfl rfl ?_
  simp +decide (disch := first | exact D8 j5 j6 j7 jb h3 hb hx h9 | fail) only [go_sem, ↓reduceIte, j5, j6, j7, jb, h3, hb, hx, h9]
  refine Qqy (by repeat (first | exact Qv | exact Qp | exact Qq | exact Qr | exact Qt | apply Qo | apply Qu | apply Q5 | apply Q9 | apply Qaa | apply Qk | apply Qw)) [(7, 7), (12, 15), (64, 94), (2000001, 2000001)] [14, 90, 94] (fun J hp => J 7 = .np 2000001 0 0 /\ J 12 = .ms 90 2 /\ J 13 = .ms 94 2 /\ J 2000001 = .nst 2000001 3 24 [Qmi R fs.length] /\ hp 3 = some ⟨3, 24, [.agg [.int .i64 0, .int .i64 0, .nilS]], false⟩ /\ hp 2000001 = some ⟨3, 24, [], false⟩ /\ hp 2000002 = some ⟨3, 32, (Qc9 R fs).map PV.rat, false⟩ /\ hp 900 = some ⟨3, 32, (fs.map (·.1)).map PV.rat, false⟩ /\
    hp 90 = some ⟨1, 22, L.map (fun f => PV.rowD R f.2), false⟩ /\ hp 94 = some ⟨3, 32, L.map (fun f => PV.rat f.1), false⟩) ?_ ?_
  ·refine Qb (fun _ => ?_) (fun h => absurd h (by omega))
   repeat' first
    | refine Qcr ?_ ?_
    | refine Qa hP hfr rfl rfl rfl ?_
    | refine Qa hP hdv rfl rfl rfl ?_
    | refine Qa hP hng rfl rfl rfl ?_
    | refine Qa hP ho1 rfl rfl rfl ?_
    | refine Qa hP ho2 rfl rfl rfl ?_
    | refine Qa hP hs1 rfl rfl rfl ?_
    | refine Qa hP hs2 rfl rfl rfl ?_
    | simp +decide (disch := first | exact D8 j5 j6 j7 jb h3 hb hx h9 | fail) only [go_sem, ↓reduceIte, j5, j6, j7, jb, h3, hb, hx, h9]
   all_goals
    refine Qiv ?_
    simp +decide (disch := first | exact D8 j5 j6 j7 jb h3 hb hx h9 | fail) only [go_sem, ↓reduceIte, j5, j6, j7, jb, h3, hb, hx, h9]
    rw [e1]
    exact ⟨rfl, rfl⟩
  clear h3 hb hx h9 j7 jb
  rintro J3 g ⟨j7, k12, k13, jb, h3, hb, hx, h9, kp, kq⟩
  simp (disch := decide) only [Qcd, Qcm, Qcb, Qc7]
  simp +decide (disch := first | exact D10 j5 j6 j7 jb h3 hb hx h9 k12 k13 | fail) only [go_sem, ↓reduceIte, j5, j6, j7, jb, h3, hb, hx, h9, k12, k13]
  refine Qch (by repeat (first | exact Qv | exact Qp | exact Qq | exact Qr | exact Qt | apply Qo | apply Qu | apply Q5 | apply Q9 | apply Qaa | apply Qk | apply Qw)) [(5, 7), (16, 16), (95, 129), (2000001, 2000001)] [116, 117, 128, 900] (fun q J hp => ∃ i, q = L.length - i /\ i <= L.length /\ J 5 = .sl 1 (Qy (PV.rowD R) (Qcx N (L.take i)) R) /\ J 6 = .ms 900 (fs ++ L.take i).length /\ J 7 = .np 2000001 0 0 /\ J 16 = .int .i64 (i : Nat) /\ J 2000001 = .nst 2000001 3 24 [Qmi R (fs ++ L.take i).length] /\
    hp 3 = some ⟨3, 24, [.agg [.int .i64 0, .int .i64 0, .nilS]], false⟩ /\ hp 2000001 = some ⟨3, 24, [], false⟩ /\ hp 2000002 = some ⟨3, 32, (Qc9 R (fs ++ L.take i)).map PV.rat, false⟩ /\ hp 900 = some ⟨3, 32, ((fs ++ L.take i).map (·.1)).map PV.rat, false⟩ /\
    hp 90 = some ⟨1, 22, L.map (fun f => PV.rowD R f.2), false⟩ /\ hp 94 = some ⟨3, 32, L.map (fun f => PV.rat f.1), false⟩) L.length ?_ ?_
  ·refine ⟨0, rfl, by omega, ?_⟩
   simp +decide (disch := first | exact D8 j5 j6 j7 jb h3 hb hx h9 | fail) only [go_sem, ↓reduceIte, j5, j6, j7, jb, h3, hb, hx, h9]
   simp only [List.append_nil]
   refine ⟨rfl, trivial, rfl, trivial, trivial, trivial, ?_, ?_⟩
   ·exact kp
   ·exact kq
  rintro _ J1 g ⟨i, rfl, hi, i5, i6, i7, i16, ib, g3, gb, gx, g9, gp, gq⟩
  simp +decide (disch := first | exact D3 i16 k12 k13 | fail) only [go_sem, ↓reduceIte, i16, k12, k13]
  refine Qb (fun hci => ?_) (fun hci => ?_)
  ·have hi' : i < L.length := by omega
   have htk : L.take (i + 1) = L.take i ++ [L[i]] := List.take_succ_eq_append_getElem hi'
   have hfb := hBk.2.1 _ (List.getElem_mem hi')
   have hMb := hBk.2.2 i hi
   have hll : (fs ++ L.take i).length <= 200 := by
    rw [List.length_append, List.length_take]; omega
   have hfl2 := Qea R (fs ++ L.take i)
   generalize hf : L[i] = f at *
   have hsn := Qmg N (L.take i) f
   have hfsn := Qmh R (fs ++ L.take i) f
   have hTk : fs ++ L.take (i + 1) = (fs ++ L.take i) ++ [f] := by rw [htk, <- List.append_assoc]
   rw [<- htk] at hsn
   generalize hT : fs ++ L.take i = T at *
   generalize hZ : Qcx N (L.take i) = Z at *
   have hTR : T.length * R <= 200 * 5 := Nat.mul_le_mul hll hR2
   have hrl : (Qy PV.rat f.2 R).length = R := Qal _ _ _
   have hw := Qq7 (M := Z) (f := f) (k := 50421) (by omega) hMb hfb.1 hfb.2 (by omega)
   simp +decide (disch := first | exact D14 i5 i6 i7 i16 ib g3 gb gx g9 gp gq hf k12 k13 | fail) only [go_sem, ↓reduceIte, i5, i6, i7, i16, ib, g3, gb, gx, g9, gp, gq, hf, k12, k13]
   refine Qa hP hw rfl rfl rfl ?_
   simp +decide (disch := first | exact D14 i5 i6 i7 i16 ib g3 gb gx g9 gp gq hf k12 k13 | fail) only [go_sem, ↓reduceIte, i5, i6, i7, i16, ib, g3, gb, gx, g9, gp, gq, hf, k12, k13]
   rw [Qbk (f := PV.rat) (y := f.1) (xs := T.map (·.1)) (ty' := 32) (fz := false) (T1 g9) T0 (by omega) (by simp) (by omega) (by omega)]
   simp +decide (disch := first | exact D14 i5 i6 i7 i16 ib g3 gb gx g9 gp gq hf k12 k13 | fail) only [go_sem, ↓reduceIte, i5, i6, i7, i16, ib, g3, gb, gx, g9, gp, gq, hf, k12, k13]
   rw [Qv0 (xs := (Qc9 R T).map PV.rat) (T1 gx) (by omega) (by rw [List.length_map, hfl2]) (Qlc hR0) (by rw [hrl]; omega) (by rw [hrl]; omega) (by omega), hrl]
   simp +decide (disch := first | exact D13 i5 i6 i7 i16 ib g3 gb gx g9 gp gq k12 k13 | fail) only [go_sem, ↓reduceIte, i5, i6, i7, i16, ib, g3, gb, gx, g9, gp, gq, k12, k13]
   refine Qbl (L.length - (i + 1)) (by omega) ⟨i + 1, rfl, by omega, ?_⟩
   rw [hTk, hsn]
   simp +decide (disch := first | exact D12 i5 i6 i7 ib g3 gb gx g9 gp gq k12 k13 | fail) only [go_sem, ↓reduceIte, i5, i6, i7, ib, g3, gb, gx, g9, gp, gq, k12, k13]
   refine ⟨by rw [List.length_append]; rfl, ?_, ?_, by simp⟩
   ·rw [List.length_append, List.length_singleton, show T.length * R + R = (T.length + 1) * R from (Nat.succ_mul _ _).symm]
   ·rw [hfsn, List.map_append, Qfu]
  ·have hiL : i = L.length := by omega
   subst hiL
   rw [List.take_length] at i5 i6 ib gx g9
   simp (disch := decide) only [Qcd, Qcm, Qcb, Qc7]
   simp +decide (disch := first | exact D0 | fail) only [go_sem, ↓reduceIte]
   refine Qbl (R - (k + 1)) (by omega) ⟨k + 1, rfl, hbef1, ?_⟩
   rw [hn1, hn2]
   simp +decide (disch := first | exact D8 i5 i6 i7 ib g3 gb gx g9 | fail) only [go_sem, ↓reduceIte, i5, i6, i7, ib, g3, gb, gx, g9]
end Go.Proofs.YtmnkngmmfnncoaaGreat
namespace Go.Proofs.YtmnkngmmfnncoaaGreat
open Go Go.FW
set_option linter.unusedSimpArgs false
set_option linter.unusedVariables false
set_option maxRecDepth 100000
end Go.Proofs.YtmnkngmmfnncoaaGreat
namespace Go.Proofs.YtmnkngmmfnncoaaGreat
open Go Go.FW
set_option linter.unusedSimpArgs false
set_option linter.unusedVariables false
set_option maxRecDepth 100000
end Go.Proofs.YtmnkngmmfnncoaaGreat
namespace Go.Proofs.YtmnkngmmfnncoaaGreat
open Go Go.FW
set_option linter.unusedSimpArgs false
set_option linter.unusedVariables false
set_option maxRecDepth 100000
end Go.Proofs.YtmnkngmmfnncoaaGreat
namespace Go.Proofs.YtmnkngmmfnncoaaGreat
open Go Go.FW
set_option linter.unusedSimpArgs false
set_option linter.unusedVariables false
set_option maxRecDepth 100000
theorem Qwc {l : List Rat} {k : Nat} (hl : l.length <= 1048576) (hk : k <= 1048576) (hs : ∀ q ∈ l, rs q <= k) : Qbm (l.map qR) := ⟨by rw [List.length_map]; exact hl, RRk.of fun q hq => Nat.le_trans (hs q hq) hk⟩
end Go.Proofs.YtmnkngmmfnncoaaGreat
namespace Go.Proofs.YtmnkngmmfnncoaaGreat
open Go Go.FW
set_option linter.unusedSimpArgs false
set_option linter.unusedVariables false
set_option maxRecDepth 100000
def Qdj (M : MF) (x : Nat -> Rat) (w : Nat) : Nat -> Rat
 | 0 => 0
 | n + 1 => Qdj M x w n + x n * Qcn (M n) x w
def Qg9 (l : List Rat) : Nat -> Rat := fun i => l.getD i 0
theorem Qs8 (l : List Rat) : Qy PV.rat (Qg9 l) l.length = l.map PV.rat := by
 refine List.ext_getElem (by simp [Qy]) fun j h1 h2 => ?_
 rw [Qe9, List.getElem_map]
 unfold Qg9
 rw [List.getD_eq_getElem?_getD, List.getElem?_eq_getElem (by simpa using h2)]; rfl
theorem Qpj {l : List Rat} {k : Nat} (hk : 1 <= k) (h : ∀ q ∈ l, rs q <= k) (i : Nat) : rs (Qg9 l i) <= k := by
 unfold Qg9
 rw [List.getD_eq_getElem?_getD]
 cases hq : l[i]? with
 | none => have := Qu4; show rs 0 <= k; omega
 | some q => exact h q (List.mem_of_getElem? hq)
theorem Qmk {M : MF} {x : Nat -> Rat} {w k : Nat} (hM : ∀ r c, rs (M r c) <= k) (hx : ∀ i, rs (x i) <= k) : ∀ n, rs (Qdj M x w n) <= (n + 1) * (k + (w + 1) * (2 * k + 2) + 2)
 | 0 => by
  have := Qu4
  simp only [Qdj]; omega
 | n + 1 => by
  have h1 := Qmk (w := w) hM hx n
  have h2 := Qix (x := M n) (y := x) (k := k) w fun i _ => ⟨hM n i, hx i⟩
  have h3 := Qb8 (x n) (Qcn (M n) x w)
  have h4 := Qk8 (Qdj M x w n) (x n * Qcn (M n) x w)
  have h5 := hx n
  have h6 : (n + 1 + 1) * (k + (w + 1) * (2 * k + 2) + 2) = (n + 1) * (k + (w + 1) * (2 * k + 2) + 2) + (k + (w + 1) * (2 * k + 2) + 2) := Nat.succ_mul _ _
  simp only [Qdj]; omega
theorem Qxd {R : Nat} {l x : List Rat} (hl : l.length = R * R) (hlx : x.length = R) (hR : R <= 8) (sl : ∀ q ∈ l, rs q <= 3) (sx : ∀ q ∈ x, rs q <= 3) : Qd Tryz.prog 31 [PV.mat R R l, PV.rats x] (· = .tup [PV.rat (Qdj (Qah l R) (Qg9 x) R R), .int .i64 0]) := by
 have c1 := Qf7 hl (by omega) (by omega) fun q hq => by have := sl q hq; omega
 have c2 := Qhu hl (show R <= 40 by omega) (by omega)
 rw [show ∀ M k w, Qmf M k w = Qy (PV.rowD w) M k from fun _ _ _ => rfl] at c2
 have hx0 : ∀ i, rs (Qg9 x i) <= 3 := Qpj (by omega) sx
 have hM0 : ∀ r c, rs (Qah l R r c) <= 3 := fun r c => Qgq (by omega) sl
 obtain ⟨M, hM⟩ : ∃ M, Qah l R = M := ⟨_, rfl⟩
 obtain ⟨X, hX⟩ : ∃ X, Qg9 x = X := ⟨_, rfl⟩
 rw [hM] at hM0
 rw [hX] at hx0
 have hrx : PV.rats x = .sl 3 (Qy PV.rat X R) := by rw [PV.rats, <- hX, <- hlx, Qs8]
 have hq0 := fun n => Qmk (w := R) hM0 hx0 n
 rw [hM, hX, hrx]
 have hnm : Qd Tryz.prog 89 [.sl 3 (Qy PV.rat X R)] (· = .bool true) := by
  have := Qh9 (l := x.map qR) (Qwc (by omega) (k := 3) (by omega) sx)
  rw [<- Qld, hrx] at this
  have e : (x.map qR).all Qdr = true := by
   rw [List.all_eq_true]
   intro y hy
   obtain ⟨q, _, rfl⟩ := List.mem_map.1 hy
   exact Qpa q
  rw [e] at this; exact this
 rw [hM] at c2
 have hrl : (Qy PV.rat X R).length = R := Qal _ _ _
 have hrr : (Qy (PV.rowD R) M R).length = R := Qal _ _ _
 refine Qf Ql Tryz.func31 rfl Qvt (by simp [c31]) fun C hP => ?_; simp only [c31, Zo, Zg, Zm, Zc, Zf, Zl, Zh, Zs, Zi, Zb, Zk, Zn, Zu, Zq, Zr, Zz]
 simp +decide (disch := first | exact D0 | fail) only [go_sem, ↓reduceIte]
 refine Qa hP c1 rfl rfl rfl ?_
 simp +decide (disch := first | exact D0 | fail) only [go_sem, ↓reduceIte]
 refine Qa hP hnm rfl rfl rfl ?_
 simp +decide (disch := first | exact D1 hrl | fail) only [go_sem, ↓reduceIte, hrl]
 refine Qa hP (Qng (x := 0) (by omega) (by omega)) rfl rfl rfl ?_
 rw [show ((0 : Int) : Rat) = Qdj M X R 0 from rfl]
 simp +decide (disch := first | exact D0 | fail) only [go_sem, ↓reduceIte]
 refine Qa hP c2 rfl rfl rfl ?_
 simp +decide (disch := first | exact D1 hrr | fail) only [go_sem, ↓reduceIte, hrr]
 refine Qaf (by repeat (first | exact Qv | exact Qp | exact Qq | exact Qr | exact Qt | apply Qo | apply Qu | apply Q5 | apply Q9 | apply Qaa | apply Qk | apply Qw)) [(7, 8), (35, 50)] [] (fun n J hp => ∃ i, n = R - i /\ i <= R /\ J 35 = .int .i64 (i : Nat) /\ hp 4 = some ⟨3, 32, [.agg [.bool false, .nilS, .nilS]], false⟩ /\ hp 6 = some ⟨3, 32, [PV.rat (Qdj M X R i)], false⟩) R ?_ ?_
 ·refine ⟨0, rfl, by omega, ?_⟩
  simp +decide (disch := first | exact D0 | fail) only [go_sem, ↓reduceIte]
  rfl
 rintro _ J h ⟨i, rfl, hi, h35, h4, h6⟩
 simp +decide (disch := first | exact D1 h35 | fail) only [go_sem, ↓reduceIte, h35]
 refine Qb (fun hg => ?_) (fun hg => ?_)
 ·have hi' : i < R := by omega
  have d1 := Qage (x := M i) (y := X) (w := R) (k := 3) (by omega) (fun c _ => hM0 i c) (fun c _ => hx0 c) (by omega)
  have b1 := Qix (x := M i) (y := X) (k := 3) R fun c _ => ⟨hM0 i c, hx0 c⟩
  have b2 := hx0 i
  have b3 := Qb8 (X i) (Qcn (M i) X R)
  have b4 := hq0 i
  have b5 : (R + 1) * (2 * 3 + 2) <= 9 * 8 := Nat.mul_le_mul_right _ (by omega)
  have b6 : (i + 1) * (3 + (R + 1) * (2 * 3 + 2) + 2) <= 9 * (3 + 72 + 2) := Nat.mul_le_mul (by omega) (by omega)
  have hsu : Qdj M X R (i + 1) = Qdj M X R i + X i * Qcn (M i) X R := rfl
  have d2 := Qj6 (a := X i) (b := Qcn (M i) X R) (k := 1000) (by omega) (by omega) (by omega)
  have d3 := Qqq (a := Qdj M X R i) (b := X i * Qcn (M i) X R) (k := 1000) (by omega) (by omega) (by omega)
  rw [<- hsu] at d3
  obtain ⟨Q1, eq1⟩ : ∃ Q, Qdj M X R (i + 1) = Q := ⟨_, rfl⟩
  rw [eq1] at d3
  clear hsu
  generalize X i * Qcn (M i) X R = Q2 at *
  generalize Qcn (M i) X R = Q3 at *
  generalize Qdj M X R i = Q4 at *
  repeat' first
   | refine Qcr ?_ ?_
   | refine Qa hP d1 rfl rfl rfl ?_
   | refine Qa hP d2 rfl rfl rfl ?_
   | refine Qa hP d3 rfl rfl rfl ?_
   | simp +decide (disch := first | exact D2 h35 h6 | fail) only [go_sem, ↓reduceIte, h35, h6]
  refine Q8 (R - (i + 1)) (by omega) ⟨i + 1, rfl, by omega, ?_⟩
  rw [eq1]
  simp +decide (disch := first | exact D1 h4 | fail) only [go_sem, ↓reduceIte, h4]
 ·obtain rfl : i = R := by omega
  simp +decide (disch := first | exact D3 h35 h6 h4 | fail) only [go_sem, ↓reduceIte, h35, h6, h4]
  refine Qcc ?_
  simp +decide (disch := first | exact D2 h6 h4 | fail) only [go_sem, ↓reduceIte, h6, h4]
  exact Qcq rfl rfl rfl (Qn _) (Qn _)
theorem Qwd {R : Nat} {l x : List Rat} (hl : l.length = R * R) (hlx : x.length = R) (hR : R <= 8) (sl : ∀ q ∈ l, rs q <= 3) (sx : ∀ q ∈ x, rs q <= 3) : Qd Tryz.prog 32 [PV.mat R R l, PV.rats x] (· = .tup [PV.rat (Qdj (Qah l R) (Qg9 x) R R), .int .i64 0]) := by
 have c1 := Qkq hl (by omega) (by omega) fun q hq => by have := sl q hq; omega
 have hx0 : ∀ i, rs (Qg9 x i) <= 3 := Qpj (by omega) sx
 have hM0 : ∀ r c, rs (Qah l R r c) <= 3 := fun r c => Qgq (by omega) sl
 obtain ⟨M, hM⟩ : ∃ M, Qah l R = M := ⟨_, rfl⟩
 obtain ⟨X, hX⟩ : ∃ X, Qg9 x = X := ⟨_, rfl⟩
 rw [hM] at hM0
 rw [hX] at hx0
 have hrx : PV.rats x = .sl 3 (Qy PV.rat X R) := by rw [PV.rats, <- hX, <- hlx, Qs8]
 have hq0 := fun n => Qmk (w := R) hM0 hx0 n
 rw [hM, hX, hrx]
 have hnm : Qd Tryz.prog 90 [.sl 3 (Qy PV.rat X R)] (· = .bool true) := by
  have := Qiq (l := x.map qR) (Qwc (by omega) (k := 3) (by omega) sx)
  rw [<- Qld, hrx] at this
  have e : (x.map qR).all Qdr = true := by
   rw [List.all_eq_true]
   intro y hy
   obtain ⟨q, _, rfl⟩ := List.mem_map.1 hy
   exact Qpa q
  rw [e] at this; exact this
 have hrl : (Qy PV.rat X R).length = R := Qal _ _ _
 refine Qf Ql Tryz.func32 rfl Qvu (by simp [c32]) fun C hP => ?_; simp only [c32, Zo, Zg, Zm, Zc, Zf, Zl, Zh, Zs, Zi, Zb, Zk, Zn, Zu, Zq, Zr, Zz]
 simp +decide (disch := first | exact D0 | fail) only [go_sem, ↓reduceIte]
 refine Qa hP c1 rfl rfl rfl ?_
 simp +decide (disch := first | exact D0 | fail) only [go_sem, ↓reduceIte]
 refine Qa hP hnm rfl rfl rfl ?_
 simp +decide (disch := first | exact D1 hrl | fail) only [go_sem, ↓reduceIte, hrl]
 refine Qa hP (Qf6 (x := 0) (by omega) (by omega)) rfl rfl rfl ?_
 rw [show ((0 : Int) : Rat) = Qdj M X R 0 from rfl]
 simp +decide (disch := first | exact D0 | fail) only [go_sem, ↓reduceIte]
 refine Qaf (by repeat (first | exact Qv | exact Qp | exact Qq | exact Qr | exact Qt | apply Qo | apply Qu | apply Q5 | apply Q9 | apply Qaa | apply Qk | apply Qw)) [(7, 7), (31, 48)] [] (fun n J hp => ∃ i, n = R - i /\ i <= R /\ J 7 = .int .i64 (i : Nat) /\ hp 2 = some ⟨3, 24, [PV.mat R R l], false⟩ /\ hp 4 = some ⟨3, 32, [.agg [.bool false, .nilS, .nilS]], false⟩ /\ hp 6 = some ⟨3, 32, [PV.rat (Qdj M X R i)], false⟩) R ?_ ?_
 ·refine ⟨0, rfl, by omega, ?_⟩
  simp +decide (disch := first | exact D0 | fail) only [go_sem, ↓reduceIte]
  rfl
 rintro _ J h ⟨i, rfl, hi, h7, h2, h4, h6⟩
 simp +decide (disch := first | exact D2 h7 h2 | fail) only [go_sem, ↓reduceIte, h7, h2]
 refine Qb (fun hg => ?_) (fun hg => ?_)
 ·have hi' : i < R := by omega
  have d0 := Q21 hl hi' (by omega) (show R <= 40 by omega)
  rw [hM] at d0
  have d1 := Qae3 (x := M i) (y := X) (w := R) (k := 3) (by omega) (fun c _ => hM0 i c) (fun c _ => hx0 c) (by omega)
  have b1 := Qix (x := M i) (y := X) (k := 3) R fun c _ => ⟨hM0 i c, hx0 c⟩
  have b2 := hx0 i
  have b3 := Qb8 (X i) (Qcn (M i) X R)
  have b4 := hq0 i
  have b5 : (R + 1) * (2 * 3 + 2) <= 9 * 8 := Nat.mul_le_mul_right _ (by omega)
  have b6 : (i + 1) * (3 + (R + 1) * (2 * 3 + 2) + 2) <= 9 * (3 + 72 + 2) := Nat.mul_le_mul (by omega) (by omega)
  have hsu : Qdj M X R (i + 1) = Qdj M X R i + X i * Qcn (M i) X R := rfl
  have d2 := Qme (a := X i) (b := Qcn (M i) X R) (k := 1000) (by omega) (by omega) (by omega)
  have d3 := Qpb (a := Qdj M X R i) (b := X i * Qcn (M i) X R) (k := 1000) (by omega) (by omega) (by omega)
  rw [<- hsu] at d3
  obtain ⟨Q1, eq1⟩ : ∃ Q, Qdj M X R (i + 1) = Q := ⟨_, rfl⟩
  rw [eq1] at d3
  clear hsu
  generalize X i * Qcn (M i) X R = Q2 at *
  generalize Qcn (M i) X R = Q3 at *
  generalize Qdj M X R i = Q4 at *
  repeat' first
   | refine Qcr ?_ ?_
   | refine Qa hP d0 rfl rfl rfl ?_
   | refine Qa hP d1 rfl rfl rfl ?_
   | refine Qa hP d2 rfl rfl rfl ?_
   | refine Qa hP d3 rfl rfl rfl ?_
   | simp +decide (disch := first | exact D3 h7 h6 h2 | fail) only [go_sem, ↓reduceIte, h7, h6, h2]
  all_goals
   refine Q8 (R - (i + 1)) (by omega) ⟨i + 1, rfl, by omega, ?_⟩
   rw [eq1]
   simp +decide (disch := first | exact D2 h4 h2 | fail) only [go_sem, ↓reduceIte, h4, h2]
 ·obtain rfl : i = R := by omega
  simp +decide (disch := first | exact D3 h7 h6 h4 | fail) only [go_sem, ↓reduceIte, h7, h6, h4]
  refine Qcc ?_
  simp +decide (disch := first | exact D2 h6 h4 | fail) only [go_sem, ↓reduceIte, h6, h4]
  exact Qcq rfl rfl rfl (Qn _) (Qn _)
end Go.Proofs.YtmnkngmmfnncoaaGreat
namespace Go.Proofs.YtmnkngmmfnncoaaGreat
open Go Go.FW
set_option linter.unusedSimpArgs false
set_option linter.unusedVariables false
set_option maxRecDepth 100000
theorem Qka {r c : Int} {l x : List RQ} (hl : Qbm l) (hx : Qbm x) (h : (Qba r c l && x.all Qdr) = false) : Qd Tryz.prog 31 [PV.rmat r c l, PV.rqs x] (· = .tup [PV.rr false [] [], .int .i64 1]) := by
 refine Qf Ql Tryz.func31 rfl Qvt (by simp [c31]) fun C hP => ?_; simp only [c31, Zo, Zg, Zm, Zc, Zf, Zl, Zh, Zs, Zi, Zb, Zk, Zn, Zu, Zq, Zr, Zz]
 simp +decide (disch := first | exact D0 | fail) only [go_sem, ↓reduceIte]
 refine Qa hP (Qn7 hl) rfl rfl rfl ?_
 cases hq : Qba r c l
 ·simp +decide (disch := first | exact D0 | fail) only [go_sem, ↓reduceIte]
  refine Qcc ?_
  simp +decide (disch := first | exact D0 | fail) only [go_sem, ↓reduceIte]
  exact Qcq rfl rfl rfl Qgo (Qn _)
 ·rw [hq, Bool.true_and] at h
  simp +decide (disch := first | exact D0 | fail) only [go_sem, ↓reduceIte]
  refine Qa hP (Qh9 hx) rfl rfl rfl ?_
  rw [h]
  simp +decide (disch := first | exact D0 | fail) only [go_sem, ↓reduceIte]
  refine Qcc ?_
  simp +decide (disch := first | exact D0 | fail) only [go_sem, ↓reduceIte]
  exact Qcq rfl rfl rfl Qgo (Qn _)
theorem Qjp {r c : Int} {l x : List RQ} (hl : Qbm l) (hx : Qbm x) (h : (Qba r c l && x.all Qdr) = false) : Qd Tryz.prog 32 [PV.rmat r c l, PV.rqs x] (· = .tup [PV.rr false [] [], .int .i64 1]) := by
 refine Qf Ql Tryz.func32 rfl Qvu (by simp [c32]) fun C hP => ?_; simp only [c32, Zo, Zg, Zm, Zc, Zf, Zl, Zh, Zs, Zi, Zb, Zk, Zn, Zu, Zq, Zr, Zz]
 simp +decide (disch := first | exact D0 | fail) only [go_sem, ↓reduceIte]
 refine Qa hP (Qjm hl) rfl rfl rfl ?_
 cases hq : Qba r c l
 ·simp +decide (disch := first | exact D0 | fail) only [go_sem, ↓reduceIte]
  refine Qcc ?_
  simp +decide (disch := first | exact D0 | fail) only [go_sem, ↓reduceIte]
  exact Qcq rfl rfl rfl Qgo (Qn _)
 ·rw [hq, Bool.true_and] at h
  simp +decide (disch := first | exact D0 | fail) only [go_sem, ↓reduceIte]
  refine Qa hP (Qiq hx) rfl rfl rfl ?_
  rw [h]
  simp +decide (disch := first | exact D0 | fail) only [go_sem, ↓reduceIte]
  refine Qcc ?_
  simp +decide (disch := first | exact D0 | fail) only [go_sem, ↓reduceIte]
  exact Qcq rfl rfl rfl Qgo (Qn _)
theorem Qr9 {r c : Int} {l x : List RQ} (hl : Qbm l) (hx : Qbm x) (h1 : Qba r c l = true) (h2 : x.all Qdr = true) (hne : ¬ (r = c /\ (x.length : Int) = r)) : Qd Tryz.prog 31 [PV.rmat r c l, PV.rqs x] (· = .tup [PV.rr false [] [], .int .i64 16]) := by
 have hxl := hx.1
 refine Qf Ql Tryz.func31 rfl Qvt (by simp [c31]) fun C hP => ?_; simp only [c31, Zo, Zg, Zm, Zc, Zf, Zl, Zh, Zs, Zi, Zb, Zk, Zn, Zu, Zq, Zr, Zz]
 simp +decide (disch := first | exact D0 | fail) only [go_sem, ↓reduceIte]
 refine Qa hP (Qn7 hl) rfl rfl rfl ?_
 rw [h1]
 simp +decide (disch := first | exact D0 | fail) only [go_sem, ↓reduceIte]
 refine Qa hP (Qh9 hx) rfl rfl rfl ?_
 rw [h2]
 by_cases e : r = c
 ·subst e
  have e2 : ¬ (x.length : Int) = r := fun e2 => hne ⟨rfl, e2⟩
  simp +decide (disch := first | exact D1 e2 | fail) only [go_sem, ↓reduceIte, e2]
  refine Qcc ?_
  simp +decide (disch := first | exact D0 | fail) only [go_sem, ↓reduceIte]
  exact Qcq rfl rfl rfl Qgo (Qn _)
 ·simp +decide (disch := first | exact D1 e | fail) only [go_sem, ↓reduceIte, e]
  refine Qcc ?_
  simp +decide (disch := first | exact D0 | fail) only [go_sem, ↓reduceIte]
  exact Qcq rfl rfl rfl Qgo (Qn _)
theorem Qq9 {r c : Int} {l x : List RQ} (hl : Qbm l) (hx : Qbm x) (h1 : Qba r c l = true) (h2 : x.all Qdr = true) (hne : ¬ (r = c /\ (x.length : Int) = r)) : Qd Tryz.prog 32 [PV.rmat r c l, PV.rqs x] (· = .tup [PV.rr false [] [], .int .i64 16]) := by
 have hxl := hx.1
 refine Qf Ql Tryz.func32 rfl Qvu (by simp [c32]) fun C hP => ?_; simp only [c32, Zo, Zg, Zm, Zc, Zf, Zl, Zh, Zs, Zi, Zb, Zk, Zn, Zu, Zq, Zr, Zz]
 simp +decide (disch := first | exact D0 | fail) only [go_sem, ↓reduceIte]
 refine Qa hP (Qjm hl) rfl rfl rfl ?_
 rw [h1]
 simp +decide (disch := first | exact D0 | fail) only [go_sem, ↓reduceIte]
 refine Qa hP (Qiq hx) rfl rfl rfl ?_
 rw [h2]
 by_cases e : r = c
 ·subst e
  have e2 : ¬ (x.length : Int) = r := fun e2 => hne ⟨rfl, e2⟩
  simp +decide (disch := first | exact D1 e2 | fail) only [go_sem, ↓reduceIte, e2]
  refine Qcc ?_
  simp +decide (disch := first | exact D0 | fail) only [go_sem, ↓reduceIte]
  exact Qcq rfl rfl rfl Qgo (Qn _)
 ·simp +decide (disch := first | exact D1 e | fail) only [go_sem, ↓reduceIte, e]
  refine Qcc ?_
  simp +decide (disch := first | exact D0 | fail) only [go_sem, ↓reduceIte]
  exact Qcq rfl rfl rfl Qgo (Qn _)
abbrev Qno (e : Int) : PV := .tup [PV.rqs [], PV.rmat 0 0 [], .int .i64 e]
theorem Qhl : PV.le .nilS (PV.rqs []) := trivial
theorem Qwe {r c : Int} {l : List RQ} (hl : Qbm l) (h : Qba r c l = false) : Qd Tryz.prog 29 [PV.rmat r c l] (· = Qno 1) := by
 refine Qct Ql Tryz.func29 rfl Qni (by simp [c29]) fun C hP => ?_; simp only [c29, Zo, Zg, Zm, Zc, Zf, Zl, Zh, Zs, Zi, Zb, Zk, Zn, Zu, Zq, Zr, Zz]
 simp +decide (disch := first | exact D0 | fail) only [go_sem, ↓reduceIte]
 refine Qa hP (Qn7 hl) rfl rfl rfl ?_
 rw [h]
 simp +decide (disch := first | exact D0 | fail) only [go_sem, ↓reduceIte]
 refine Qdb (Qin ?_)
 simp +decide (disch := first | exact D0 | fail) only [go_sem, ↓reduceIte]
 exact Qex rfl rfl rfl rfl Qhl Qd4 (Qn _)
theorem Qtl {r c : Int} {l : List RQ} (hl : Qbm l) (h : Qba r c l = false) : Qd Tryz.prog 30 [PV.rmat r c l] (· = Qno 1) := by
 refine Qct Ql Tryz.func30 rfl Qq8 (by simp [c30]) fun C hP => ?_; simp only [c30, Zo, Zg, Zm, Zc, Zf, Zl, Zh, Zs, Zi, Zb, Zk, Zn, Zu, Zq, Zr, Zz]
 simp +decide (disch := first | exact D0 | fail) only [go_sem, ↓reduceIte]
 refine Qa hP (Qjm hl) rfl rfl rfl ?_
 rw [h]
 simp +decide (disch := first | exact D0 | fail) only [go_sem, ↓reduceIte]
 refine Qdb (Qin ?_)
 simp +decide (disch := first | exact D0 | fail) only [go_sem, ↓reduceIte]
 exact Qex rfl rfl rfl rfl Qhl Qd4 (Qn _)
theorem Qwf {r c : Int} {l : List RQ} (hl : Qbm l) (h : Qba r c l = true) (hne : r ≠ c) : Qd Tryz.prog 30 [PV.rmat r c l] (· = Qno 16) := by
 refine Qct Ql Tryz.func30 rfl Qq8 (by simp [c30]) fun C hP => ?_; simp only [c30, Zo, Zg, Zm, Zc, Zf, Zl, Zh, Zs, Zi, Zb, Zk, Zn, Zu, Zq, Zr, Zz]
 simp +decide (disch := first | exact D0 | fail) only [go_sem, ↓reduceIte]
 refine Qa hP (Qjm hl) rfl rfl rfl ?_
 rw [h]
 simp +decide (disch := first | exact D1 hne | fail) only [go_sem, ↓reduceIte, hne]
 refine Qdb (Qin ?_)
 simp +decide (disch := first | exact D0 | fail) only [go_sem, ↓reduceIte]
 exact Qex rfl rfl rfl rfl Qhl Qd4 (Qn _)
theorem Qwg {R : Nat} {l : List Rat} (hl : l.length = R * R) (hR : R <= 40) (hs : ∀ q ∈ l, rs q <= 1048576) (h : ¬ Qjo (Qah l R) R) : Qd Tryz.prog 30 [PV.mat R R l] (· = Qno 16) := by
 have c1 := Qnn hl hR hs
 rw [decide_eq_false h] at c1
 refine Qct Ql Tryz.func30 rfl Qq8 (by simp [c30]) fun C hP => ?_; simp only [c30, Zo, Zg, Zm, Zc, Zf, Zl, Zh, Zs, Zi, Zb, Zk, Zn, Zu, Zq, Zr, Zz]
 simp +decide (disch := first | exact D0 | fail) only [go_sem, ↓reduceIte]
 refine Qa hP (Qkq hl hR hR hs) rfl rfl rfl ?_
 simp +decide (disch := first | exact D0 | fail) only [go_sem, ↓reduceIte]
 refine Qa hP c1 rfl rfl rfl ?_
 simp +decide (disch := first | exact D0 | fail) only [go_sem, ↓reduceIte]
 refine Qdb (Qin ?_)
 simp +decide (disch := first | exact D0 | fail) only [go_sem, ↓reduceIte]
 exact Qex rfl rfl rfl rfl Qhl Qd4 (Qn _)
theorem Qxe {R m : Nat} {l : List Rat} (hl : l.length = R * m) (hR : R <= 40) (hm : m <= 40) (hs : ∀ q ∈ l, rs q <= 1048576) (hne : R ≠ m) : Qd Tryz.prog 29 [PV.mat R m l] (· = Qno 16) := by
 have c2 := Qhu hl hR hm
 refine Qct Ql Tryz.func29 rfl Qni (by simp [c29]) fun C hP => ?_; simp only [c29, Zo, Zg, Zm, Zc, Zf, Zl, Zh, Zs, Zi, Zb, Zk, Zn, Zu, Zq, Zr, Zz]
 simp +decide (disch := first | exact D0 | fail) only [go_sem, ↓reduceIte]
 refine Qa hP (Qf7 hl hR hm hs) rfl rfl rfl ?_
 simp +decide (disch := first | exact D0 | fail) only [go_sem, ↓reduceIte]
 refine Qa hP c2 rfl rfl rfl ?_
 simp +decide (disch := first | exact D1 (show ¬ (R : Int) = (m : Int) from by omega) | fail) only [go_sem, ↓reduceIte, show ¬ (R : Int) = (m : Int) from by omega]
 refine Qdb (Qin ?_)
 simp +decide (disch := first | exact D0 | fail) only [go_sem, ↓reduceIte]
 exact Qex rfl rfl rfl rfl Qhl Qd4 (Qn _)
theorem Qxf {R K : Nat} {l : List Rat} (hl : l.length = R * R) (hR2 : R <= 40) (hs : ∀ q ∈ l, rs q <= 1048576) (hK : K < 2 ^ 28) (hB : MBd K R R (Qah l R)) (h : ¬ Qjo (Qah l R) R) : Qd Tryz.prog 29 [PV.mat R R l] (· = Qno 16) := by
 have hR0 : 0 < R := Nat.pos_of_ne_zero fun e => h (by subst e; intro i hi; omega)
 have hx := Qou (K := K) (ty := 22) (tyr := 32) hR2 (by omega) hB
 rw [decide_eq_false h] at hx
 have hfree : ∀ (hp : HP), (∀ x, 5 <= x -> hp x = none) -> ∀ x, nmR R x = true -> hp x = none := fun hp h x hx => h x (by have := Qj8 hx; omega)
 refine Qct Ql Tryz.func29 rfl Qni (by simp [c29]) fun C hP => ?_; simp only [c29, Zo, Zg, Zm, Zc, Zf, Zl, Zh, Zs, Zi, Zb, Zk, Zn, Zu, Zq, Zr, Zz]
 simp +decide (disch := first | exact D0 | fail) only [go_sem, ↓reduceIte]
 refine Qa hP (Qf7 hl hR2 hR2 hs) rfl rfl rfl ?_
 simp +decide (disch := first | exact D0 | fail) only [go_sem, ↓reduceIte]
 refine Qnh hP hl hR0 hR2 hR2 (by omega) (hfree _ (fun x hx => by simp +decide (disch := first | exact D4 (show ¬ x = 1 from by omega) (show ¬ x = 2 from by omega) (show ¬ x = 3 from by omega) (show ¬ x = 4 from by omega) | fail) only [go_sem, ↓reduceIte, show ¬ x = 1 from by omega, show ¬ x = 2 from by omega, show ¬ x = 3 from by omega, show ¬ x = 4 from by omega] <;> rfl)) ?_
 simp +decide (disch := first | omega | rfl | (simp +decide only [go_sem, ↓reduceIte, Qby, Qet, Qa3] <;> rfl) | fail) only [go_sem, ↓reduceIte, Qby, Qet, Qa3]
 refine Qr8 (ys := fun r => Qy PV.rat (Qah l R r) R) hP (by omega) hx (by simp [Qqx]) T0 (by simp +decide (disch := first | omega | rfl | (simp +decide only [go_sem, ↓reduceIte, Qhk] <;> rfl) | fail) only [go_sem, ↓reduceIte, Qhk]) (fun r hr => by simp +decide (disch := first | omega | rfl | (simp +decide only [go_sem, ↓reduceIte, Qfv] <;> rfl) | fail) only [go_sem, ↓reduceIte, Qfv]) ?_
 simp +decide (disch := first | omega | rfl | (simp +decide only [go_sem, ↓reduceIte, Qby, Qet, Qa3] <;> rfl) | fail) only [go_sem, ↓reduceIte, Qby, Qet, Qa3]
 refine Qdb (Qin ?_)
 simp +decide (disch := first | omega | rfl | (simp +decide only [go_sem, ↓reduceIte, Qby, Qet, Qa3] <;> rfl) | fail) only [go_sem, ↓reduceIte, Qby, Qet, Qa3]
 exact Qex rfl rfl rfl rfl Qhl Qd4 (Qn _)
theorem Qwh : Qd Tryz.prog 92 [.sl 1 []] (· = .bool true) := by
 refine Qct Ql Tryz.func92 rfl Q2o (by simp [c92]) fun C hP => ?_; simp only [c92, Zo, Zg, Zm, Zc, Zf, Zl, Zh, Zs, Zi, Zb, Zk, Zn, Zu, Zq, Zr, Zz]
 simp +decide (disch := first | exact D0 | fail) only [go_sem, ↓reduceIte]
 refine Qaf (by repeat (first | exact Qv | exact Qp | exact Qq | exact Qr | exact Qt | apply Qo | apply Qu | apply Q5 | apply Q9 | apply Qaa | apply Qk | apply Qw)) [(2, 4), (7, 31)] [] (fun q J hp => J 7 = .int .i64 (0 : Nat)) 0 ?_ ?_
 ·simp +decide (disch := first | exact D0 | fail) only [go_sem, ↓reduceIte]
  rfl
 rintro _ J h h7
 simp +decide (disch := first | exact D1 h7 | fail) only [go_sem, ↓reduceIte, h7]
 refine Qdb (Qat ?_)
 simp +decide (disch := first | exact D0 | fail) only [go_sem, ↓reduceIte]
 exact Qc rfl rfl
theorem Q24 : Qd Tryz.prog 29 [PV.mat 0 0 []] (· = Qno 0) := by
 have c2 := Qhu (l := []) (R := 0) (m := 0) rfl (by omega) (by omega)
 have e : Qmf (Qah [] 0) 0 0 = [] := rfl
 rw [e] at c2
 refine Qct Ql Tryz.func29 rfl Qni (by simp [c29]) fun C hP => ?_; simp only [c29, Zo, Zg, Zm, Zc, Zf, Zl, Zh, Zs, Zi, Zb, Zk, Zn, Zu, Zq, Zr, Zz]
 simp +decide (disch := first | exact D0 | fail) only [go_sem, ↓reduceIte]
 refine Qa hP (Qf7 (R := 0) (m := 0) (l := []) rfl (by omega) (by omega) (fun q hq => by cases hq)) rfl rfl rfl ?_
 simp +decide (disch := first | exact D0 | fail) only [go_sem, ↓reduceIte]
 refine Qa hP c2 rfl rfl rfl ?_
 simp +decide (disch := first | exact D0 | fail) only [go_sem, ↓reduceIte]
 refine Qa hP Qwh rfl rfl rfl ?_
 simp +decide (disch := first | exact D0 | fail) only [go_sem, ↓reduceIte]
 refine Qcw (Wk.refl _ _) ?_
 refine Qcw (Wk.refl _ _) ?_
 refine Qcw (Wk.refl _ _) ?_
 simp +decide (disch := first | exact D0 | fail) only [go_sem, ↓reduceIte]
 refine Qaf (by repeat (first | exact Qv | exact Qp | exact Qq | exact Qr | exact Qt | apply Qo | apply Qu | apply Q5 | apply Q9 | apply Qaa | apply Qk | apply Qw)) [(2, 2), (6, 6), (8, 9), (33, 80)] [8, 46, 47, 52] (fun q J hp => J 33 = .int .i64 (0 : Nat) /\ J 2 = .nilS /\ hp 3 = some ⟨3, 24, [.agg [.int .i64 0, .int .i64 0, .nilS]], false⟩) 0 ?_ ?_
 ·simp +decide (disch := first | exact D0 | fail) only [go_sem, ↓reduceIte]
  exact ⟨rfl, rfl⟩
 rintro _ J h ⟨h33, h2, h3⟩
 simp +decide (disch := first | exact D3 h33 h2 h3 | fail) only [go_sem, ↓reduceIte, h33, h2, h3]
 refine Qcw (Wk.refl _ _) ?_
 simp +decide (disch := first | exact D3 h33 h2 h3 | fail) only [go_sem, ↓reduceIte, h33, h2, h3]
 refine Qdb (Qin ?_)
 simp +decide (disch := first | exact D3 h33 h2 h3 | fail) only [go_sem, ↓reduceIte, h33, h2, h3]
 exact Qex rfl rfl rfl rfl Qhl Qd4 (Qn _)
end Go.Proofs.YtmnkngmmfnncoaaGreat
namespace Go.Proofs.YtmnkngmmfnncoaaGreat
open Go Go.FW
set_option linter.unusedSimpArgs false
set_option linter.unusedVariables false
set_option maxRecDepth 100000
theorem Qra {r c : Int} {l x : List RQ} (hl : Qbm l) (h : Qc8 l 25 = false) : Qd Tryz.prog 5 [PV.rmat r c l, PV.rqs x] (· = .bool true) := by
 have hsm := Qpe (l := [⟨r, c, l⟩]) (by simpa using hl) (by simp)
 simp only [List.all_cons, List.all_nil, Bool.and_true] at hsm
 rw [h] at hsm
 refine Qf Ql Tryz.func5 rfl Qzo (by simp [c5]) fun C hP => ?_; simp only [c5, Zo, Zg, Zm, Zc, Zf, Zl, Zh, Zs, Zi, Zb, Zk, Zn, Zu, Zq, Zr, Zz]
 simp +decide (disch := first | exact D0 | fail) only [go_sem, ↓reduceIte]
 refine Qde hP hsm Ur0 rfl ?_
 simp +decide (disch := first | exact E0 | fail) only [go_sem, ↓reduceIte, Q7, List.contains_cons, List.contains_nil, List.flatMap_cons, List.flatMap_nil, List.append_nil]
 refine Qa hP Qpg rfl rfl rfl ?_
 simp +decide (disch := first | exact E0 | fail) only [go_sem, ↓reduceIte, Q7, List.contains_cons, List.contains_nil, List.flatMap_cons, List.flatMap_nil, List.append_nil]
 exact Qc rfl rfl
theorem Qrb {r c : Int} {l x : List RQ} (hl : Qbm l) (hx : Qbm x) (h : Qc8 l 25 = true) (h' : Qc8 x 8 = false) : Qd Tryz.prog 5 [PV.rmat r c l, PV.rqs x] (· = .bool true) := by
 have hsm := Qpe (l := [⟨r, c, l⟩]) (by simpa using hl) (by simp)
 simp only [List.all_cons, List.all_nil, Bool.and_true] at hsm
 rw [h] at hsm
 have hsx := Qpd (n := 8) hx
 rw [h'] at hsx
 refine Qf Ql Tryz.func5 rfl Qzo (by simp [c5]) fun C hP => ?_; simp only [c5, Zo, Zg, Zm, Zc, Zf, Zl, Zh, Zs, Zi, Zb, Zk, Zn, Zu, Zq, Zr, Zz]
 simp +decide (disch := first | exact D0 | fail) only [go_sem, ↓reduceIte]
 refine Qde hP hsm Ur0 rfl ?_
 simp +decide (disch := first | exact E0 | fail) only [go_sem, ↓reduceIte, Q7, List.contains_cons, List.contains_nil, List.flatMap_cons, List.flatMap_nil, List.append_nil]
 refine Qa hP hsx rfl rfl rfl ?_
 simp +decide (disch := first | exact E0 | fail) only [go_sem, ↓reduceIte, Q7, List.contains_cons, List.contains_nil, List.flatMap_cons, List.flatMap_nil, List.append_nil]
 refine Qa hP Qpg rfl rfl rfl ?_
 simp +decide (disch := first | exact E0 | fail) only [go_sem, ↓reduceIte, Q7, List.contains_cons, List.contains_nil, List.flatMap_cons, List.flatMap_nil, List.append_nil]
 exact Qc rfl rfl
theorem Qek {r c rP cP e1 e2 : Int} {l x W lP : List RQ} {n : Bool} {a d : List Nat} {k : Nat} (hl : Qbm l) (hx : Qbm x) (h : Qc8 l 25 = true) (h' : Qc8 x 8 = true) (hk : k < 2 ^ 33) (hW : RRk k W) (lW : W.length < 2 ^ 40) (hP' : RRk k lP) (llP : lP.length < 2 ^ 40) (hr : Raw k n a d) (h1 : Qd Tryz.prog 29 [PV.rmat r c l] (· = .tup [PV.rqs W, PV.rmat rP cP lP, .int .i64 e1])) (h2 : Qd Tryz.prog 30 [PV.rmat r c l] (· = .tup [PV.rqs W, PV.rmat rP cP lP, .int .i64 e1])) (h3 : Qd Tryz.prog 31 [PV.rmat r c l, PV.rqs x] (· = .tup [PV.rr n a d, .int .i64 e2])) (h4 : Qd Tryz.prog 32 [PV.rmat r c l, PV.rqs x] (· = .tup [PV.rr n a d, .int .i64 e2])) : Qd Tryz.prog 5 [PV.rmat r c l, PV.rqs x] (· = .bool true) := by
 have hsm := Qpe (l := [⟨r, c, l⟩]) (by simpa using hl) (by simp)
 simp only [List.all_cons, List.all_nil, Bool.and_true] at hsm
 rw [h] at hsm
 have hsx := Qpd (n := 8) hx
 rw [h'] at hsx
 have s1 := Qkp hW hW (by omega) lW lW
 rw [decide_eq_true rfl] at s1
 have s2 := Q7h (r := rP) (c := cP) (r' := rP) (c' := cP) hP' hP' (by omega) llP llP
 rw [eqM, decide_eq_true ⟨rfl, rfl, rfl⟩] at s2
 have s3 := Qv6 hr (by omega)
 refine Qf Ql Tryz.func5 rfl Qzo (by simp [c5]) fun C hP => ?_; simp only [c5, Zo, Zg, Zm, Zc, Zf, Zl, Zh, Zs, Zi, Zb, Zk, Zn, Zu, Zq, Zr, Zz]
 simp +decide (disch := first | exact D0 | fail) only [go_sem, ↓reduceIte]
 refine Qde hP hsm Ur0 rfl ?_
 simp +decide (disch := first | exact E0 | fail) only [go_sem, ↓reduceIte, Q7, List.contains_cons, List.contains_nil, List.flatMap_cons, List.flatMap_nil, List.append_nil]
 refine Qa hP hsx rfl rfl rfl ?_
 simp +decide (disch := first | exact E0 | fail) only [go_sem, ↓reduceIte, Q7, List.contains_cons, List.contains_nil, List.flatMap_cons, List.flatMap_nil, List.append_nil]
 refine Qa hP h1 rfl rfl rfl ?_
 simp +decide (disch := first | exact E0 | fail) only [go_sem, ↓reduceIte, Q7, List.contains_cons, List.contains_nil, List.flatMap_cons, List.flatMap_nil, List.append_nil]
 refine Qa hP h2 rfl rfl rfl ?_
 simp +decide (disch := first | exact E0 | fail) only [go_sem, ↓reduceIte, Q7, List.contains_cons, List.contains_nil, List.flatMap_cons, List.flatMap_nil, List.append_nil]
 refine Qa hP h3 rfl rfl rfl ?_
 simp +decide (disch := first | exact E0 | fail) only [go_sem, ↓reduceIte, Q7, List.contains_cons, List.contains_nil, List.flatMap_cons, List.flatMap_nil, List.append_nil]
 refine Qa hP h4 rfl rfl rfl ?_
 simp +decide (disch := first | exact E0 | fail) only [go_sem, ↓reduceIte, Q7, List.contains_cons, List.contains_nil, List.flatMap_cons, List.flatMap_nil, List.append_nil]
 refine Qa hP s1 rfl rfl rfl ?_
 simp +decide (disch := first | exact E0 | fail) only [go_sem, ↓reduceIte, Q7, List.contains_cons, List.contains_nil, List.flatMap_cons, List.flatMap_nil, List.append_nil]
 refine Qa hP s2 rfl rfl rfl ?_
 simp +decide (disch := first | exact E0 | fail) only [go_sem, ↓reduceIte, Q7, List.contains_cons, List.contains_nil, List.flatMap_cons, List.flatMap_nil, List.append_nil]
 refine Qa hP s3 rfl rfl rfl ?_
 simp +decide (disch := first | exact E0 | fail) only [go_sem, ↓reduceIte, Q7, List.contains_cons, List.contains_nil, List.flatMap_cons, List.flatMap_nil, List.append_nil]
 refine Qa hP Qpg rfl rfl rfl ?_
 simp +decide (disch := first | exact E0 | fail) only [go_sem, ↓reduceIte, Q7, List.contains_cons, List.contains_nil, List.flatMap_cons, List.flatMap_nil, List.append_nil]
 exact Qc rfl rfl
theorem Qyb {R K n : Nat} {M : MF} (hB : Qpf K R n M) : ∀ k, k <= n -> ∀ f ∈ (Qae R M k).2, rs f.1 <= K /\ ∀ c, c < R -> rs (f.2 c) <= K
 | 0, _, f, hf => by simp [Qae] at hf
 | k + 1, hk, f, hf => by
  rw [Qnm] at hf
  rcases List.mem_append.1 hf with hf | hf
  ·exact Qyb hB k (by omega) f hf
  ·exact (hB k (by omega)).2.1 f hf
theorem RRk.mono {k k' : Nat} {l : List RQ} (h : RRk k l) (hk : k <= k') : RRk k' l := fun q hq => by
 have := h q hq
 exact ⟨this.la, this.ld, Nat.le_trans this.sa hk, Nat.le_trans this.sd hk, Nat.le_trans this.k1 hk⟩
theorem Qn9 {r c : Int} {l x : List RQ} (h : I64' r /\ I64' c /\ Qbm l) (hx : Qbm x) : Qd Tryz.prog 5 [PV.rmat r c l, PV.rqs x] (· = .bool true) := by
 have hl := h.2.2
 cases hq : Qc8 l 25
 ·exact Qra hl hq
 cases hq2 : Qc8 x 8
 ·exact Qrb hl hx hq hq2
 have z0 : RRk 1048576 ([] : List RQ) := fun q hq => by cases hq
 have h0 : Raw 1048576 false [] [] := ⟨(fun x hx => by cases hx), (fun x hx => by cases hx), Nat.zero_le _, Nat.zero_le _, by omega⟩
 cases o1 : Qba r c l
 ·have o3 : (Qba r c l && x.all Qdr) = false := by rw [o1]; rfl
  exact Qek hl hx hq hq2 (by omega) z0 (by simp) z0 (by simp) h0 (Qwe hl o1) (Qtl hl o1) (Qka hl hx o3) (Qjp hl hx o3)
 obtain ⟨R, m, la, rfl, rfl, hR, hm, hla, hlen, hmat⟩ := Qaal hl o1
 obtain ⟨l25, sl⟩ := Qv7 hl hq
 obtain ⟨lx8, sx⟩ := Qv7 hx hq2
 rw [<- hla] at sl
 have sl' : ∀ q ∈ la, rs q <= 1048576 := fun q hq => by have := sl q hq; omega
 have hR5 : R = m -> R <= 5 := fun e => by
  subst e
  have e2 : la.length <= 25 := by rw [hla, List.length_map]; exact l25
  rw [hlen] at e2
  have := Qabx e2
  omega
 obtain ⟨n, a, d, e2, q1, q2, q3⟩ : ∃ n a d e2, Raw 1048576 n a d /\ Qd Tryz.prog 31 [PV.rmat R m l, PV.rqs x] (· = .tup [PV.rr n a d, .int .i64 e2]) /\ Qd Tryz.prog 32 [PV.rmat R m l, PV.rqs x] (· = .tup [PV.rr n a d, .int .i64 e2]) := by
  cases o2 : x.all Qdr
  ·have o3 : (Qba R m l && x.all Qdr) = false := by rw [o1, o2]; rfl
   exact ⟨_, _, _, _, h0, Qka hl hx o3, Qjp hl hx o3⟩
  ·by_cases hne : (R : Int) = (m : Int) /\ (x.length : Int) = (R : Int)
   ·have hRm : R = m := by omega
    have hxl : (x.map rqV).length = R := by rw [List.length_map]; omega
    have hr5 := hR5 hRm
    subst hRm
    have hqd := Qmk (M := Qah la R) (x := Qg9 (x.map rqV)) (w := R) (k := 3) (fun r c => Qgq (by omega) sl) (Qpj (by omega) sx) R
    have b5 : (R + 1) * (2 * 3 + 2) <= 6 * 8 := Nat.mul_le_mul_right _ (by omega)
    have b6 : (R + 1) * (3 + (R + 1) * (2 * 3 + 2) + 2) <= 6 * (3 + 48 + 2) := Nat.mul_le_mul (by omega) (by omega)
    have c1 := Qxd hlen hxl (by omega) sl sx
    have c2 := Qwd hlen hxl (by omega) sl sx
    rw [<- hmat, <- Q18 hx o2] at c1 c2
    exact ⟨_, _, _, _, Qb9 (by omega), c1, c2⟩
   ·exact ⟨_, _, _, _, h0, Qr9 hl hx o1 o2 hne, Qq9 hl hx o1 o2 hne⟩
 by_cases hRm : R = m
 ·have hr5 := hR5 hRm
  subst hRm
  by_cases hsy : Qjo (Qah la R) R
  ·by_cases hR0 : R = 0
   ·subst hR0
    have hla0 : la = [] := List.eq_nil_of_length_eq_zero (by omega)
    have c1 := Q24
    have c2 := Qs7 (R := 0) (l := []) rfl (by omega) (fun q hq => by cases hq) (fun i hi => by omega)
    have e : Qv4 0 (Qae 0 (Qah [] 0) (2 * 0)).2 = Qno 0 := rfl
    rw [e] at c2
    subst hla0
    rw [<- hmat] at c1 c2
    exact Qek hl hx hq hq2 (by omega) z0 (by simp) z0 (by simp) q1 c1 c2 q2 q3
   ·have hSym := Qwb hsy
    have hM3 : MBd 3 R R (Qah la R) := fun r _ c _ => Qgq (by omega) sl
    have hRB : Qpf 50421 R (2 * R) (Qah la R) := fun k hk => by
     have h := Qx9 (n := 2 * R) hSym (by omega) hM3 k hk
     have e : 3 * 7 ^ R <= 3 * 7 ^ 5 := Nat.mul_le_mul_left _ (Nat.pow_le_pow_right (by omega) hr5)
     exact ⟨fun r hr c hc => Nat.le_trans (h.1 r hr c hc) e, fun f hf => ⟨Nat.le_trans (h.2.1 f hf).1 e, fun c hc => Nat.le_trans ((h.2.1 f hf).2 c hc) e⟩, fun j hj r hr c hc => Nat.le_trans (h.2.2 j hj r hr c hc) e⟩
    have c1 := Qv5 hlen (by omega) (by omega) sl' (by omega) hRB hsy
    have c2 := Qs7 hlen hr5 sl hsy
    have hfs := Qyb hRB (2 * R) (Nat.le_refl _)
    have hln := Qhv R (Qah la R) (2 * R)
    generalize (Qae R (Qah la R) (2 * R)).2 = fs at *
    have hfl := Qea R fs
    have hfl2 : fs.length * R <= 20 * 5 := Nat.mul_le_mul (by omega) hr5
    rw [<- hmat, Qv4, Qnc, Qld] at c1 c2
    refine Qek (k := 1048576) hl hx hq hq2 (by omega) (RRk.mono (RRk.of (k := 50421) fun q hq => ?_) (by omega)) (by simp; omega) (RRk.mono (RRk.of (k := 50421) fun q hq => ?_) (by omega)) (by simp; omega) q1 c1 c2 q2 q3
    ·obtain ⟨f, hf, rfl⟩ := List.mem_map.1 hq
     exact (hfs f hf).1
    ·obtain ⟨f, hf, hq⟩ := List.mem_flatMap.1 hq
     obtain ⟨c, hc, rfl⟩ := List.mem_map.1 hq
     exact (hfs f hf).2 c (List.mem_range.1 hc)
  ·have c1 := Qxf (K := 3) hlen hR sl' (by omega) (fun r _ c _ => Qgq (by omega) sl) hsy
   have c2 := Qwg hlen hR sl' hsy
   rw [<- hmat] at c1 c2
   exact Qek hl hx hq hq2 (by omega) z0 (by simp) z0 (by simp) q1 c1 c2 q2 q3
 ·have c1 := Qxe hlen hR hm sl' hRm
  have c2 := Qwf hl o1 (by omega)
  rw [<- hmat] at c1
  exact Qek hl hx hq hq2 (by omega) z0 (by simp) z0 (by simp) q1 c1 c2 q2 q3
end Go.Proofs.YtmnkngmmfnncoaaGreat
namespace Go.Proofs.YtmnkngmmfnncoaaGreat
open Go Go.FW Go.ChangeShapes Go.WideShapes Go.ChangeAt Go.RowKit
set_option linter.unusedSimpArgs false
set_option linter.unusedVariables false
set_option maxRecDepth 100000
theorem Qkr (H : Type) (enc : TypeId × Value -> H) (W : World) (base : Nat) (args : Array Value) (ds gs : List (DataW H)) (before : List MemPlace)
  (Qcg : ∀ (j : Nat) t v, Tryz.f5.params[j]? = some t -> args[j]? = some v -> Value.okWide Tryz.prog W .any base t v)
  (hW : DataW.Whole enc Tryz.prog Tryz.f5.params.toList Rows.matrixReducesSpec.vars false W args.toList ds gs before) (hk : Rows.uptoSmall H (ds ++ gs) = true) :
  Calls Tryz.prog 5 args W fun e W' => ∃ v, e = .returned v /\ Rows.matrixReducesSpec.post enc Tryz.prog Tryz.f5 false true false false W args v W' := by
 have hW' := hW
 obtain ⟨p, q, hA0, hV, rfl, hfz, hnd⟩ := hW
 have hA : DataW.TrodAll enc Tryz.prog W 0 (fun _ => true) true Tryz.f5.params.toList args.toList ds p := hA0
 rw [Tryz.params5] at hA Qcg
 obtain ⟨v0, vs0, e0, ds0, p0, q0, hargs, rfl, rfl, h0, r0⟩ := trodAll_cons hA
 obtain ⟨v1, vs1, e1, ds1, p1, q1, rfl, rfl, rfl, h1, r1⟩ := trodAll_cons r0
 obtain ⟨rfl, rfl, rfl⟩ := trodAll_nil r1
 obtain rfl : args = #[v0, v1] := by cases args; simp_all
 obtain ⟨rfl, rfl⟩ := trodVars_none hV
 have hb := Q6e hk
 simp only [List.append_nil, Rows.uptoBulkAll] at hb
 obtain ⟨r0, c0, l0, g0, b0⟩ := Qzk (Qcg 0 _ v0 rfl rfl) h0 (by omega)
 obtain ⟨a1, g1, b1⟩ := Q6f (Qcg 1 _ v1 rfl rfl) h1 (by omega)
 exact Q2b hW' rfl (by kernel_rfl) (by kernel_rfl) rfl (Qn9 b0 b1) rfl
  (Q6g (vs := [v0, v1]) (by
   intro i x hx v hv
   match i, hx, hv with
   | 0, hx, hv => simp at hx hv; subst hx hv; exact g0
   | 1, hx, hv => simp at hx hv; subst hx hv; exact g1
   | i + 2, hx, hv => simp at hx) rfl)
theorem Qml (os : Os) (started : os.Started) (H : Type) (enc : TypeId × Value -> H) (F : Stop.Interp) :
  ReturnsInHanded {} Tryz.checked os 5 .any ((Rows.OpenSpec.upto Rows.matrixReducesSpec).pre6 enc Tryz.prog Tryz.f5 Rows.matrixReducesUptoRow.domain false) (((Rows.OpenSpec.upto Rows.matrixReducesSpec).at F).post enc Tryz.prog Tryz.f5 false true false false) := by
 refine returnsInHanded_of_cond (C := Tryz.checked) (s := Rows.OpenSpec.upto Rows.matrixReducesSpec) (k := Rows.uptoSmall) rfl own started (by kernel_rfl) Tryz.func5
  (OpenSpec.witness (enc := enc) (C := Tryz.checked) (s := Rows.OpenSpec.upto Rows.matrixReducesSpec) (k := Rows.uptoSmall) rfl false ⟨#[], #[.agg #[.int .i64 0, .int .i64 0, .slice none 0 0], .slice none 0 0], []⟩ 8 (by kernel_rfl) (by kernel_rfl) (by kernel_rfl)
   (x := ([.agg [.lit (.int .i64 0), .lit (.int .i64 0), .nil], .nil], [], [])) (by kernel_rfl) rfl (by kernel_rfl)) ?_
 intro W base args ds gs before Qcg hW _ hk _
 exact Qkr H enc W base args ds gs before Qcg hW hk
theorem matrixReduces_proved : Rows.MatrixReducesUptoSaid :=
 OpenClaim.holds_of_cond 5 Tryz.f5 rfl rfl rfl rfl rfl rfl rfl ⟨rfl, rfl, rfl, rfl, rfl⟩ rfl rfl rfl rfl rfl (by kernel_rfl) Tryz.func5 (by kernel_rfl)
  (of_decide_eq_true (by kernel_rfl)) (by unfold Func.isWrapper; first | (rw [if_pos (by decide +kernel)]; kernel_rfl) | (rw [if_neg (by decide +kernel)]; exact ⟨rfl, rfl⟩))
  (fun os started H enc _ F => Qml os started H enc F)
end Go.Proofs.YtmnkngmmfnncoaaGreat
