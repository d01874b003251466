/- MatrixDets holds, for arguments of bulk at most 1048576. -/
import Derived.Test.YtmnkngmmfnncoaaGreatMatrixDetsPart13
set_option linter.unusedSimpArgs false
set_option linter.unnecessarySimpa false
set_option linter.unusedVariables false
namespace Go.Proofs.YtmnkngmmfnncoaaGreat
open Go Go.FW
set_option linter.unusedSimpArgs false
set_option linter.unusedVariables false
set_option maxRecDepth 100000
end Go.Proofs.YtmnkngmmfnncoaaGreat
namespace Go.Proofs.YtmnkngmmfnncoaaGreat
open Go Go.FW
set_option linter.unusedSimpArgs false
set_option linter.unusedVariables false
set_option maxRecDepth 100000
end Go.Proofs.YtmnkngmmfnncoaaGreat
namespace Go.Proofs.YtmnkngmmfnncoaaGreat
open Go Go.FW
set_option linter.unusedSimpArgs false
set_option linter.unusedVariables false
set_option maxRecDepth 100000
end Go.Proofs.YtmnkngmmfnncoaaGreat
namespace Go.Proofs.YtmnkngmmfnncoaaGreat
open Go Go.FW
set_option linter.unusedSimpArgs false
set_option linter.unusedVariables false
set_option maxRecDepth 100000
def c48 : SFn := ⟨63, [.cell 4 3 true, .t 5], Zr (Zo (.box 2 3 24 (.t 0)) <|
 Zo (.box 3 3 24 (.t 1)) <|
 Zo (.alloc 4 3 24 (.agg [Zz 0, Zz 0, .nilS])) <|
 Zc 5 0 .nil) <| .seq (Zr (Zh 13 3 2 <|
 Zq 14 false 25 [.t 13] <|
 Zu 15 14 <|
 Zm 16 15 <|
 Zg 16 false (.ld 17 3 true (.t 3)) <|
 Zg 16 false (.call (some 18) false (.c (.fn 25 [] [])) [.t 17]) <|
 Zg 16 false (.un 19 .not (.t 18)) <|
 Zo (.pick 20 (.t 16) (.c (.bool true)) (.t 19)) .nil) <| .cond (.t 20) (Zr (Zo (.bld 21 [Zz 0, Zz 0, .nilS] []) <|
 Zs 3 4 21 <|
 Zc 5 1 .nil) .ret) .skip) <| .seq (Zr (Zf 22 1 2 <|
 Zl 23 1 22 <|
 Zf 24 0 3 <|
 Zl 25 1 24 <|
 Zb 26 .neq 23 25 .nil) <| .cond (.t 26) (Zr (Zo (.bld 27 [Zz 0, Zz 0, .nilS] []) <|
 Zs 3 4 27 <|
 Zc 5 16 .nil) .ret) .skip) <| Zr (Zh 29 3 3 <|
 Zq 30 false 46 [.t 29] <|
 Zm 28 30 <|
 Zo (.ext 31 (.t 28) 0) <|
 Zo (.ext 32 (.t 28) 1) <|
 Zo (.alloc 6 3 24 (.agg [Zz 0, Zz 0, .nilS])) <|
 Zs 3 6 31 <|
 Zm 7 32 .nil) <| Zr (Zf 33 0 2 <|
 Zl 34 1 33 <|
 Zf 35 1 3 <|
 Zl 36 1 35 <|
 Zo (.bld 37 [Zz 0, Zz 0, .nilS] [(0, 1, .t 34), (1, 1, .t 36)]) <|
 Zo (.alloc 8 3 24 (.agg [Zz 0, Zz 0, .nilS])) <|
 .wk <| .wk <| Zs 3 8 37 .nil) <| .seq (Zr (Zh 38 3 2 <|
 .wk <| Zq 39 false 78 [.t 38] <|
 Zn 40 39 <|
 Zc 41 0 .nil) <| .block 0 <| .loop <| Zr (Zb 42 .lss 41 40 .nil) <| .seq (.cond (.t 42) .skip (.exit 0)) <| .seq (.block 1 <| Zr (Zi 43 1 39 41 <|
 Zl 44 1 43 <|
 Zm 10 44 .nil) <| Zr (Zh 45 3 6 <|
 Zq 46 false 78 [.t 45] <|
 Zn 47 46 <|
 Zc 48 0 .nil) <| .block 2 <| .loop <| Zr (Zb 49 .lss 48 47 .nil) <| .seq (.cond (.t 49) .skip (.exit 2)) <| .seq (.block 3 <| Zr (Zi 50 1 46 48 <|
 Zl 51 1 50 <|
 Zm 12 51 .nil) <| .rg (Zf 52 2 8 <|
 Zl 53 1 52 <|
 Zm 54 10 <|
 Zm 55 12 <|
 Zq 56 true 100 [.t 54, .t 55] <|
 Zo (.bs 57 3 32 [.t 56]) <|
 Zo (.app 58 3 56 32 (.t 53) (.t 57)) <|
 Zf 59 2 8 <|
 Zs 1 59 58 .nil)) <| .rg (Zk 60 .add 48 1 <|
 Zm 48 60 .nil)) <| .rg (Zk 61 .add 41 1 <|
 Zm 41 61 .nil)) <| Zr (Zh 62 3 8 <|
 .wk <| Zs 3 4 62 <|
 Zc 5 0 .nil) .ret⟩
theorem Qafk : Qe Tryz.prog Tryz.f48 = some c48.strip := by kernel_rfl
def Qii (a b : MF) (m n : Nat) : Nat -> Rat := fun j => Q7 (a (j / n)) (fun c => b c (j % n)) m
def Qkz (a b : List Rat) (R m n : Nat) : List Rat := (List.range (R * n)).map (Qii (Qw a m) (Qw b n) m n)
theorem Qo9 (a b : List Rat) (R m n : Nat) : (Qkz a b R m n).length = R * n := by simp [Qkz]
theorem Qxz {a b : MF} {m n i k : Nat} (hk : k < n) : Qii a b m n (i * n + k) = Q7 (a i) (fun c => b c k) m := by
 have hn : 0 < n := by omega
 unfold Qii
 rw [Nat.add_comm, Nat.add_mul_mod_self_right, Nat.mod_eq_of_lt hk, Nat.add_mul_div_right _ _ hn, Nat.div_eq_of_lt hk, Nat.zero_add]
theorem Qvy {l : List Rat} {R m r c : Nat} (hr : r < m) (hc : c < R) : Qw (trL l R m) R r c = Qw l m c r := by
 have h := Qr2 hc hr
 rw [Nat.mul_comm R m] at h
 have e : Qw (trL l R m) R r c = trF l R m (r * R + c) := by
  unfold Qw trL
  rw [List.getD_eq_getElem?_getD, List.getElem?_eq_getElem (by simpa using h)]
  simp
 rw [e, Qafj hc]
theorem Q3a {l : List Rat} {R m k : Nat} (hk : 1 <= k) (hs : ∀ q ∈ l, rs q <= k) : ∀ q ∈ trL l R m, rs q <= k := fun q hq => by
 obtain ⟨j, _, rfl⟩ := List.mem_map.1 hq
 exact Qff hk hs
theorem Qq5 {x y x' y' : Nat -> Rat} : ∀ n, (∀ i, i < n -> x i = x' i /\ y i = y' i) -> Q7 x y n = Q7 x' y' n
 | 0, _ => rfl
 | n + 1, h => by
  simp only [Q7]
  rw [Qq5 n fun i hi => h i (by omega), (h n (by omega)).1, (h n (by omega)).2]
end Go.Proofs.YtmnkngmmfnncoaaGreat
namespace Go.Proofs.YtmnkngmmfnncoaaGreat
open Go Go.FW
set_option linter.unusedSimpArgs false
set_option linter.unusedVariables false
set_option maxRecDepth 100000
theorem Qago {R m n : Nat} {a b : List Rat} (ha : a.length = R * m) (hb : b.length = m * n) (hR : R <= 40) (hm : m <= 40) (hn : n <= 40) (hsa : ∀ q ∈ a, rs q <= 1048576) (hsb : ∀ q ∈ b, rs q <= 1048576) : Qd Tryz.prog 48 [PV.mat R m a, PV.mat m n b] (· = .tup [PV.mat R n (Qkz a b R m n), .int .i64 0]) := by
 have hRn : R * n <= 40 * 40 := Nat.mul_le_mul hR hn
 have hz : ([.agg [.int .i64 0, .int .i64 0, .nilS]] : List PV) ≠ [] := by simp
 have hzd : ∀ x ∈ ([.agg [.int .i64 0, .int .i64 0, .nilS]] : List PV), x.ncells = x.cells := fun x hx => by rw [List.mem_singleton.1 hx]; rfl
 have q1 := Qe8 ha hR hm hsa
 have q2 := Qe8 hb hm hn hsb
 have q3 := Qo8 hb hm hn hsb
 have q4 := Qgc ha hR hm
 have q5 := Qgc (l := trL b m n) (Qms b m n) hn hm
 rw [show ∀ M k w, Qkf M k w = Q5 (PV.rowD w) M k from fun _ _ _ => rfl] at q4 q5
 have ln : ∀ (M : MF) k w, (Q5 (PV.rowD w) M k).length = k := fun M k w => Qao _ _ _
 refine Qgq Qm Tryz.func48 rfl Qafk (by simp [c48]) fun C hP => ?_; simp only [c48, Zo, Zg, Zm, Zc, Zf, Zl, Zh, Zs, Zi, Zb, Zk, Zn, Zu, Zq, Zr, Zz]
 simp +decide (disch := first | exact D0 | fail) only [go_sem, ↓reduceIte]
 repeat' first
  | refine Qc0 ?_ ?_
  | refine Qa hP q1 rfl rfl rfl ?_
  | refine Qa hP q2 rfl rfl rfl ?_
  | refine Qa hP q3 rfl rfl rfl ?_
  | simp +decide (disch := first | exact D0 | fail) only [go_sem, ↓reduceIte]
 refine Qcb (Qg8 8 2000001 Tr0 (by omega) rfl (by omega)) ?_
 refine Qcb (Qli (γ := 2000001) (e := 3) (ty := 24) (fz := false) T0 hz (by omega) hzd) ?_
 simp +decide (disch := first | exact D0 | fail) only [go_sem, ↓reduceIte]
 refine Qcb (Qvu (γ := 2000001) (e := 3) (ty := 24) (cs := [.int .i64 (R : Nat), .int .i64 (n : Nat), .nilS]) (cs' := [.int .i64 (R : Nat), .int .i64 (n : Nat), .mso 2000002 0 0]) 2000002 3 32 T0 Tr0 (by omega) (by omega) rfl (by simp)) ?_
 simp +decide (disch := first | exact D0 | fail) only [go_sem, ↓reduceIte]
 refine Qa hP q4 rfl rfl rfl ?_
 simp +decide (disch := first | exact D1 ln | fail) only [go_sem, ↓reduceIte, ln]
 obtain ⟨A, hA⟩ : ∃ A, Qw a m = A := ⟨_, rfl⟩
 obtain ⟨B, hB⟩ : ∃ B, Qw b n = B := ⟨_, rfl⟩
 refine Qbz (by repeat (first | exact Q2 | exact Qp | exact Qq | exact Qr | exact Qt | apply Qo | apply Qz | apply Q6 | apply Qac | apply Qad | apply Ql | apply Q4)) [(8, 8), (10, 10), (12, 12), (41, 61), (2000001, 2000001)] [57, 58] (fun q J hp => ∃ i, q = R - i /\ i <= R /\ J 8 = .np 2000001 0 0 /\ J 41 = .int .i64 (i : Nat) /\ J 2000001 = .nst 2000001 3 24 [.rag [.int .i64 (R : Nat), .int .i64 (n : Nat), .mso 2000002 0 (i * n)]] /\
  hp 2 = some ⟨3, 24, [PV.mat R m a], false⟩ /\ hp 3 = some ⟨3, 24, [PV.mat m n b], false⟩ /\ hp 6 = some ⟨3, 24, [PV.mat n m (trL b m n)], false⟩ /\ hp 4 = some ⟨3, 24, [.agg [.int .i64 0, .int .i64 0, .nilS]], false⟩ /\ hp 2000001 = some ⟨3, 24, [], false⟩ /\ hp 2000002 = some ⟨3, 32, ((List.range (i * n)).map (Qii A B m n)).map PV.rat, false⟩) R ?_ ?_
 ·refine ⟨0, rfl, by omega, ?_⟩
  simp +decide (disch := first | omega | rfl | (simp +decide only [go_sem, ↓reduceIte, Nat.zero_mul] <;> rfl) | fail) only [go_sem, ↓reduceIte, Nat.zero_mul]
  exact ⟨rfl, rfl⟩
 rintro _ J h ⟨i, rfl, hi, j8, j41, jb, h2, h3, h6, h4, hb', hx⟩
 simp +decide (disch := first | exact D3 j8 j41 h2 | fail) only [go_sem, ↓reduceIte, j8, j41, h2]
 refine Qb (fun hc => ?_) (fun hc => ?_)
 ·have hi' : i < R := by omega
  have hin : i * n + n <= R * n := by
   have := Nat.mul_le_mul_right n hi'
   rw [Nat.succ_mul] at this; exact this
  simp +decide (disch := first | exact D10 j8 j41 jb h2 h3 h6 h4 hb' hx hA | fail) only [go_sem, ↓reduceIte, j8, j41, jb, h2, h3, h6, h4, hb', hx, hA]
  refine Qa hP q5 rfl rfl rfl ?_
  simp +decide (disch := first | exact D10 j8 j41 jb h2 h3 h6 h4 hb' hx ln | fail) only [go_sem, ↓reduceIte, j8, j41, jb, h2, h3, h6, h4, hb', hx, ln]
  refine Qbz (by repeat (first | exact Q2 | exact Qp | exact Qq | exact Qr | exact Qt | apply Qo | apply Qz | apply Q6 | apply Qac | apply Qad | apply Ql | apply Q4)) [(8, 8), (12, 12), (48, 60), (2000001, 2000001)] [57, 58] (fun q J hp => ∃ k, q = n - k /\ k <= n /\ J 8 = .np 2000001 0 0 /\ J 48 = .int .i64 (k : Nat) /\ J 2000001 = .nst 2000001 3 24 [.rag [.int .i64 (R : Nat), .int .i64 (n : Nat), .mso 2000002 0 (i * n + k)]] /\
   hp 2 = some ⟨3, 24, [PV.mat R m a], false⟩ /\ hp 3 = some ⟨3, 24, [PV.mat m n b], false⟩ /\ hp 6 = some ⟨3, 24, [PV.mat n m (trL b m n)], false⟩ /\ hp 4 = some ⟨3, 24, [.agg [.int .i64 0, .int .i64 0, .nilS]], false⟩ /\ hp 2000001 = some ⟨3, 24, [], false⟩ /\ hp 2000002 = some ⟨3, 32, ((List.range (i * n + k)).map (Qii A B m n)).map PV.rat, false⟩) n ?_ ?_
  ·refine ⟨0, rfl, by omega, ?_⟩
   simp +decide (disch := first | exact D8 j8 jb h2 h3 h6 h4 hb' hx | fail) only [go_sem, ↓reduceIte, j8, jb, h2, h3, h6, h4, hb', hx]
   rfl
  rintro _ J2 g ⟨k, rfl, hk, i8, i48, ib, g2, g3, g6, g4, gb, gx⟩
  simp +decide (disch := first | exact D3 i8 i48 g3 | fail) only [go_sem, ↓reduceIte, i8, i48, g3]
  refine Qb (fun hck => ?_) (fun hck => ?_)
  ·have hk' : k < n := by omega
   have hd : Q7 (A i) (Qw (trL b m n) m k) m = Qii A B m n (i * n + k) := by
    rw [Qxz hk', <- hA, <- hB]
    exact Qq5 m fun c hc => ⟨rfl, Qvy hk' hc⟩
   have r3 := Qagn (x := A i) (y := Qw (trL b m n) m k) (w := m) (k := 1048576) (by omega) (fun c _ => by rw [<- hA]; exact Qff (by omega) hsa) (fun c _ => Qff (by omega) (Q3a (by omega) hsb)) (by omega)
   rw [hd] at r3
   repeat' first
    | refine Qc0 ?_ ?_
    | refine Qa hP r3 rfl rfl rfl ?_
    | simp +decide (disch := first | exact D10 i8 i48 ib g2 g3 g6 g4 gb gx j41 | fail) only [go_sem, ↓reduceIte, i8, i48, ib, g2, g3, g6, g4, gb, gx, j41]
   all_goals
    rw [Qo1 (f := PV.rat) (y := Qii A B m n (i * n + k)) (xs := (List.range (i * n + k)).map (Qii A B m n)) (ty' := 32) (fz := false) (T1 gx) T0 (by omega) (by simp) (by omega) (by omega) (by omega)]
    simp +decide (disch := first | exact D10 i8 i48 ib g2 g3 g6 g4 gb gx j41 | fail) only [go_sem, ↓reduceIte, i8, i48, ib, g2, g3, g6, g4, gb, gx, j41]
    refine Qa5 (n - (k + 1)) (by omega) ⟨k + 1, rfl, by omega, ?_⟩
    simp +decide (disch := first | exact D7 i8 ib g2 g3 g6 g4 gb | fail) only [go_sem, ↓reduceIte, i8, ib, g2, g3, g6, g4, gb]
    rw [<- Nat.add_assoc, List.range_succ]
    exact ⟨rfl, Qq1 (by simp)⟩
  ·have hkn : k = n := by omega
   subst hkn
   simp +decide (disch := first | exact D1 j41 | fail) only [go_sem, ↓reduceIte, j41]
   simp (disch := decide) only [Qcd, Qci, Qcp, Qc4]
   refine Qa5 (R - (i + 1)) (by omega) ⟨i + 1, rfl, by omega, ?_⟩
   rw [show (i + 1) * k = i * k + k from Nat.succ_mul _ _]
   simp +decide (disch := first | exact D8 i8 ib g2 g3 g6 g4 gb gx | fail) only [go_sem, ↓reduceIte, i8, ib, g2, g3, g6, g4, gb, gx]
 ·obtain rfl : i = R := by omega
  rw [<- hA, <- hB, show (List.range (i * n)).map (Qii (Qw a m) (Qw b n) m n) = Qkz a b i m n from rfl] at hx
  simp +decide (disch := first | exact D5 j8 jb h4 hb' hx | fail) only [go_sem, ↓reduceIte, j8, jb, h4, hb', hx]
  refine Qr1 62 2 [2000002] (p := .rag [.int .i64 (i : Nat), .int .i64 (n : Nat), .mso 2000002 0 (i * n)]) T0 (D := PV.mat i n (Qkz a b i m n)) ?_ ?_ rfl ?_
  ·intro c hc
   simp only [List.mem_cons, List.not_mem_nil, or_false] at hc
   rcases hc with rfl | rfl | rfl
   ·trivial
   ·trivial
   ·simp only [okD, isY]; simp
  ·show PV.agg [_, _, dsn _ h 2 (.mso 2000002 0 _)] = _
   simp only [dsn, hx, List.drop_zero]
   rw [List.take_of_length_le (by rw [List.length_map, Qo9]; omega)]
  simp +decide (disch := first | exact E5 j8 jb h4 hb' hx | fail) only [go_sem, ↓reduceIte, j8, jb, h4, hb', hx, Qn, List.contains_cons, List.contains_nil, List.flatMap_cons, List.flatMap_nil, List.append_nil]
  refine Qid (Qdd ?_)
  simp +decide (disch := first | exact E1 h4 | fail) only [go_sem, ↓reduceIte, h4, Qn, List.contains_cons, List.contains_nil, List.flatMap_cons, List.flatMap_nil, List.append_nil]
  exact Qc9 rfl rfl rfl (Qx _) (Qx _)
end Go.Proofs.YtmnkngmmfnncoaaGreat
namespace Go.Proofs.YtmnkngmmfnncoaaGreat
open Go Go.FW
set_option linter.unusedSimpArgs false
set_option linter.unusedVariables false
set_option maxRecDepth 100000
end Go.Proofs.YtmnkngmmfnncoaaGreat
namespace Go.Proofs.YtmnkngmmfnncoaaGreat
open Go Go.FW
set_option linter.unusedSimpArgs false
set_option linter.unusedVariables false
set_option maxRecDepth 100000
end Go.Proofs.YtmnkngmmfnncoaaGreat
namespace Go.Proofs.YtmnkngmmfnncoaaGreat
open Go Go.FW
set_option linter.unusedSimpArgs false
set_option linter.unusedVariables false
set_option maxRecDepth 100000
end Go.Proofs.YtmnkngmmfnncoaaGreat
namespace Go.Proofs.YtmnkngmmfnncoaaGreat
open Go Go.FW
set_option linter.unusedSimpArgs false
set_option linter.unusedVariables false
set_option maxRecDepth 100000
end Go.Proofs.YtmnkngmmfnncoaaGreat
namespace Go.Proofs.YtmnkngmmfnncoaaGreat
open Go Go.FW
set_option linter.unusedSimpArgs false
set_option linter.unusedVariables false
set_option maxRecDepth 100000
theorem Qcq {x x' y y' : Nat -> Rat} : ∀ n, (∀ c, c < n -> x c = x' c /\ y c = y' c) -> Q7 x y n = Q7 x' y' n
 | 0, _ => rfl
 | n + 1, h => by
  simp only [Q7]
  rw [Qcq n fun c hc => h c (by omega), (h n (by omega)).1, (h n (by omega)).2]
theorem Qjv {x y : Nat -> Rat} : ∀ n, (∀ c, c < n -> x c = 0) -> Q7 x y n = 0
 | 0, _ => rfl
 | n + 1, h => by
  simp only [Q7]
  rw [Qjv n fun c hc => h c (by omega), h n (by omega)]; grind
theorem Qfw {x : Nat -> Rat} : ∀ n, Q7 x (fun _ => 0) n = 0
 | 0 => rfl
 | n + 1 => by
  simp only [Q7]
  rw [Qfw n]; grind
theorem Qr3 {f x : Nat -> Rat} {p : Rat} (hp : p ≠ 0) : ∀ n, Q7 (fun c => f c / p) x n * p = Q7 f x n
 | 0 => by simp only [Q7]; grind
 | n + 1 => by
  have := Qr3 (f := f) (x := x) hp n
  simp only [Q7]
  rw [<- this]
  grind
theorem Qr4 {f g x : Nat -> Rat} {q : Rat} : ∀ n, Q7 (fun c => f c - q * g c) x n = Q7 f x n - q * Q7 g x n
 | 0 => by simp only [Q7]; grind
 | n + 1 => by
  have := Qr4 (f := f) (g := g) (x := x) (q := q) n
  simp only [Q7]
  rw [this]
  grind
theorem Qi7 {y x : Nat -> Rat} {a : Nat} {v : Rat} : ∀ n, Q7 y (fun c => if c = a then v else x c) n = Q7 y x n + (if a < n then y a * (v - x a) else 0)
 | 0 => by simp only [Q7]; grind
 | n + 1 => by
  have h := Qi7 (y := y) (x := x) (a := a) (v := v) n
  simp only [Q7]
  rw [h]
  by_cases e : n = a
  ·subst e
   rw [if_pos rfl, if_neg (by omega), if_pos (by omega)]; grind
  ·rw [if_neg e]
   by_cases e2 : a < n
   ·rw [if_pos e2, if_pos (by omega)]; grind
   ·rw [if_neg e2, if_neg (by omega)]; grind
def Qk0 (M : MF) (R w : Nat) (x : Nat -> Rat) : Prop := ∀ r, r < R -> Q7 (M r) x w = 0
theorem Q73 {R w k : Nat} {E : Ech} {x : Nat -> Rat} (hn : E.piv.length <= R) : Qk0 (Qcg R E k).M R w x ↔ Qk0 E.M R w x := by
 unfold Qcg
 split
 ·exact Iff.rfl
 rename_i hp
 have hle := Qi4 E.M k (R - E.piv.length) E.piv.length
 have hne := Qlj E.M k (R - E.piv.length) E.piv.length
 have hi1 : E.piv.length <= Qca E.M R k E.piv.length := hle.1
 have hi2 : Qca E.M R k E.piv.length < R := by
  have : Qca E.M R k E.piv.length <= E.piv.length + (R - E.piv.length) := hle.2
  omega
 have hp0 : E.M (Qca E.M R k E.piv.length) k ≠ 0 := hne (by
  show Qca E.M R k E.piv.length < _
  omega)
 generalize hi : Qca E.M R k E.piv.length = i at *
 generalize hn' : E.piv.length = n at *
 generalize hpp : E.M i k = p at *
 have hN : ∀ r, Q7 (Qax (Qah E.M i n) n p r) x w * (if r = n then p else 1) = Q7 (if r = n then E.M i else if r = i then E.M n else E.M r) x w := by
  intro r
  by_cases e : r = n
  ·subst e
   rw [if_pos rfl, if_pos rfl]
   have : Qax (Qah E.M i r) r p r = fun c => E.M i c / p := by funext c; simp [Qax, Qah]
   rw [this]
   exact Qr3 hp0 w
  ·rw [if_neg e, if_neg e]
   have : Qax (Qah E.M i n) n p r = if r = i then E.M n else E.M r := by
    funext c; simp [Qax, Qah, e]
   rw [this]; grind
 have hL : ∀ r, Q7 (Qes (Qax (Qah E.M i n) n p) n k r) x w = if r = n then Q7 (Qax (Qah E.M i n) n p n) x w else Q7 (Qax (Qah E.M i n) n p r) x w - Qax (Qah E.M i n) n p r k * Q7 (Qax (Qah E.M i n) n p n) x w := by
  intro r
  by_cases e : r = n
  ·subst e; rw [if_pos rfl]
   refine Qcq w fun c _ => ⟨by simp [Qes], rfl⟩
  ·rw [if_neg e, <- Qr4]
   refine Qcq w fun c _ => ⟨by simp [Qes, e], rfl⟩
 generalize Qax (Qah E.M i n) n p = N at *
 constructor
 ·intro h
  have h1 : Q7 (N n) x w = 0 := by have := h n (by omega); rwa [hL, if_pos rfl] at this
  have h2 : ∀ r, r < R -> Q7 (N r) x w = 0 := fun r hr => by
   by_cases e : r = n
   ·rw [e]; exact h1
   ·have := h r hr
    rw [hL, if_neg e, h1] at this; grind
  have h3 : ∀ r, r < R -> Q7 (if r = n then E.M i else if r = i then E.M n else E.M r) x w = 0 := fun r hr => by
   rw [<- hN r, h2 r hr]; grind
  intro r hr
  by_cases e : r = i
  ·have := h3 n (by omega)
   rw [if_pos rfl] at this; rw [e]; exact this
  ·by_cases e2 : r = n
   ·have := h3 i hi2
    by_cases e3 : i = n
    ·omega
    ·rw [if_neg e3, if_pos rfl] at this; rw [e2]; exact this
   ·have := h3 r hr
    rw [if_neg e2, if_neg e] at this; exact this
 ·intro h
  have h3 : ∀ r, r < R -> Q7 (if r = n then E.M i else if r = i then E.M n else E.M r) x w = 0 := fun r hr => by
   split
   ·exact h i hi2
   ·split
    ·exact h n (by omega)
    ·exact h r hr
  have h2 : ∀ r, r < R -> Q7 (N r) x w = 0 := fun r hr => by
   have := hN r
   rw [h3 r hr] at this
   by_cases e : r = n
   ·rw [if_pos e] at this; grind
   ·rw [if_neg e] at this; grind
  intro r hr
  show Q7 (Qes N n k r) x w = 0
  rw [hL]
  split
  ·exact h2 n (by omega)
  ·rw [h2 r hr, h2 n (by omega)]; grind
theorem Qmt {R w : Nat} {M : MF} {x : Nat -> Rat} : ∀ k, Qk0 (Qv R M k).M R w x ↔ Qk0 M R w x
 | 0 => Iff.rfl
 | k + 1 => (Q73 (Qb5 R M k).2.1).trans (Qmt k)
def Qzw (R k : Nat) (E : Ech) : Prop := (∀ j (hj : j < E.piv.length), ∀ r, r < R -> E.M r E.piv[j] = if r = j then 1 else 0) /\ ∀ r, E.piv.length <= r -> r < R -> ∀ c, c < k -> E.M r c = 0
theorem Q3b {R k : Nat} {E : Ech} (hn : E.piv.length <= R) (hpk : ∀ x ∈ E.piv, x < k) (h : Qzw R k E) : Qzw R (k + 1) (Qcg R E k) := by
 obtain ⟨hu, hz⟩ := h
 unfold Qcg
 split
 ·rename_i hp
  refine ⟨hu, fun r h1 h2 c hc => ?_⟩
  by_cases e : c = k
  ·subst e
   exact Qsy E.M c (R - E.piv.length) E.piv.length r h1 (by
    show r < Qca E.M R c E.piv.length
    omega)
  ·exact hz r h1 h2 c (by omega)
 rename_i hp
 have hle := Qi4 E.M k (R - E.piv.length) E.piv.length
 have hne := Qlj E.M k (R - E.piv.length) E.piv.length
 have hi1 : E.piv.length <= Qca E.M R k E.piv.length := hle.1
 have hi2 : Qca E.M R k E.piv.length < R := by
  have : Qca E.M R k E.piv.length <= E.piv.length + (R - E.piv.length) := hle.2
  omega
 have hp0 : E.M (Qca E.M R k E.piv.length) k ≠ 0 := hne (by
  show Qca E.M R k E.piv.length < _
  omega)
 generalize hi : Qca E.M R k E.piv.length = i at *
 obtain ⟨n, hn'⟩ : ∃ n, n = E.piv.length := ⟨_, rfl⟩
 rw [<- hn'] at hz hi1 hi hn ⊢
 generalize hpp : E.M i k = p at *
 have hN : ∀ r c, Qax (Qah E.M i n) n p r c = if r = n then E.M i c / p else if r = i then E.M n c else E.M r c := by
  intro r c
  by_cases e : r = n
  ·rw [if_pos e]; simp [Qax, Qah, e]
  ·rw [if_neg e]
   simp only [Qax, Qah]
   rw [if_neg e, if_neg e]
   by_cases e2 : r = i
   ·rw [if_pos e2, if_pos e2]
   ·rw [if_neg e2, if_neg e2]
 have hNu : ∀ j (hj : j < n) r, r < R -> Qax (Qah E.M i n) n p r (E.piv[j]'(by omega)) = if r = j then 1 else 0 := by
  intro j hj r hr
  have hj2 : j < E.piv.length := by omega
  rw [hN]
  by_cases e : r = n
  ·have h1 := hu j (by omega) i hi2
   rw [if_neg (by omega)] at h1
   rw [if_pos e, h1, if_neg (by omega)]; grind
  ·rw [if_neg e]
   by_cases e2 : r = i
   ·rw [if_pos e2, hu j (by omega) n (by omega), if_neg (by omega), if_neg (by omega)]
   ·rw [if_neg e2]; exact hu j (by omega) r hr
 have hNz : ∀ r, n <= r -> r < R -> ∀ c, c < k -> Qax (Qah E.M i n) n p r c = 0 := by
  intro r h1 h2 c hc
  rw [hN]
  split
  ·rw [hz i hi1 hi2 c hc]; grind
  ·split
   ·exact hz n (by omega) (by omega) c hc
   ·exact hz r h1 h2 c hc
 have hNk : Qax (Qah E.M i n) n p n k = 1 := by rw [hN, if_pos rfl, hpp]; grind
 have hE : ∀ r c, Qes (Qax (Qah E.M i n) n p) n k r c = if r = n then Qax (Qah E.M i n) n p n c else Qax (Qah E.M i n) n p r c - Qax (Qah E.M i n) n p r k * Qax (Qah E.M i n) n p n c := fun r c => rfl
 generalize Qax (Qah E.M i n) n p = N at *
 have hlen : (E.piv ++ [k]).length = n + 1 := by simp [hn']
 refine ⟨fun j hj r hr => ?_, fun r h1 h2 c hc => ?_⟩
 ·simp only [hlen] at hj
  show Qes N n k r ((E.piv ++ [k])[j]) = _
  rw [hE]
  by_cases e : j = n
  ·have : (E.piv ++ [k])[j]'(by rw [hlen]; omega) = k := by
    rw [List.getElem_append_right (by omega)]; simp
   rw [this, hNk, e]
   by_cases e2 : r = n
   ·rw [if_pos e2, if_pos e2]
   ·rw [if_neg e2, if_neg e2]; grind
  ·have hj' : j < n := by omega
   have : (E.piv ++ [k])[j]'(by rw [hlen]; omega) = E.piv[j]'(by omega) := List.getElem_append_left (by omega)
   rw [this, hNu j hj' n (by omega), if_neg (by omega : ¬ n = j)]
   by_cases e2 : r = n
   ·rw [if_pos e2, if_neg (by omega)]
   ·rw [if_neg e2, hNu j hj' r hr]; grind
 ·rw [hlen] at h1
  show Qes N n k r c = 0
  rw [hE, if_neg (by omega)]
  by_cases e : c = k
  ·rw [e, hNk]; grind
  ·rw [hNz r (by omega) h2 c (by omega), hNz n (by omega) (by omega) c (by omega)]; grind
theorem Qgr {R : Nat} {M : MF} : ∀ k, Qzw R k (Qv R M k)
 | 0 => ⟨fun j hj => by simp [Qv] at hj, fun r _ _ c hc => by omega⟩
 | k + 1 => Q3b (Qb5 R M k).2.1 (Qb5 R M k).2.2 (Qgr k)
def Qhd (piv : List Nat) (x : Nat -> Rat) (val : Nat -> Rat) : Nat -> (Nat -> Rat)
 | 0 => x
 | j + 1 => fun c => if c = piv.getD j 0 then val j else Qhd piv x val j c
theorem Qmu {piv : List Nat} {x val : Nat -> Rat} {c : Nat} : ∀ j, j <= piv.length -> (∀ i (hi : i < piv.length), i < j -> piv[i] ≠ c) -> Qhd piv x val j c = x c
 | 0, _, _ => rfl
 | j + 1, hj, h => by
  have e : piv.getD j 0 = piv[j]'(by omega) := by rw [List.getD_eq_getElem?_getD, List.getElem?_eq_getElem (by omega), Option.getD_some]
  simp only [Qhd]
  rw [e, if_neg fun e2 => h j (by omega) (by omega) e2.symm]
  exact Qmu j (by omega) fun i hi hij => h i hi (by omega)
theorem Qr5 {R w : Nat} {E : Ech} {x val : Nat -> Rat} (hs : E.piv.Pairwise (· < ·)) (hu : Qzw R w E) (hw : ∀ y ∈ E.piv, y < w) (hx : ∀ y ∈ E.piv, x y = 0) {r : Nat} (hr : r < R) : ∀ j, j <= E.piv.length -> Q7 (E.M r) (Qhd E.piv x val j) w = Q7 (E.M r) x w + if r < j then val r else 0
 | 0, _ => by
  rw [if_neg (by omega)]
  simp only [Qhd]; grind
 | j + 1, hj => by
  have hj' : j < E.piv.length := by omega
  have h := Qr5 (val := val) hs hu hw hx hr j (by omega)
  have e : E.piv.getD j 0 = E.piv[j] := by rw [List.getD_eq_getElem?_getD, List.getElem?_eq_getElem (by omega), Option.getD_some]
  have hm : E.piv[j] ∈ E.piv := List.getElem_mem hj'
  have h0 : Qhd E.piv x val j E.piv[j] = 0 := by
   rw [Qmu j (by omega) fun i hi hij => by have := Qlr hs hij hj'; omega]
   exact hx _ hm
  simp only [Qhd]
  rw [e, Qi7, h, if_pos (hw _ hm), h0, hu.1 j hj' r hr]
  by_cases e1 : r = j
  ·subst e1
   rw [if_pos rfl, if_neg (by omega), if_pos (by omega)]; grind
  ·rw [if_neg e1]
   by_cases e2 : r < j
   ·rw [if_pos e2, if_pos (by omega)]; grind
   ·rw [if_neg e2, if_neg (by omega)]; grind
theorem Qmv {E : MF} {piv : List Nat} {k : Nat} : ∀ j, Qju E piv k j = Qhd piv (fun c => if c = k then 1 else 0) (fun j => -(E j k)) j
 | 0 => rfl
 | j + 1 => by simp only [Qju, Qhd]; rw [Qmv j]
theorem Qx0 {R m k : Nat} {M : MF} (hk : k < m) (hf : k ∉ (Qv R M m).piv) : Qk0 M R m (Qju (Qv R M m).M (Qv R M m).piv k (Qv R M m).piv.length) := by
 rw [<- Qmt (k := m)]
 intro r hr
 have hp := Qb5 R M m
 have hu := Qgr (R := R) (M := M) m
 rw [Qmv, Qr5 (Qdf R M m) hu hp.2.2 (fun y hy => if_neg fun e => hf (by rw [<- e]; exact hy)) hr _ (Nat.le_refl _)]
 have hd : Q7 ((Qv R M m).M r) (fun c => if c = k then 1 else 0) m = (Qv R M m).M r k := by
  rw [Qi7 (x := fun _ => 0), Qfw, if_pos hk]; grind
 rw [hd]
 split
 ·grind
 ·rw [hu.2 r (by omega) hr k hk]; grind
end Go.Proofs.YtmnkngmmfnncoaaGreat
namespace Go.Proofs.YtmnkngmmfnncoaaGreat
open Go Go.FW
set_option linter.unusedSimpArgs false
set_option linter.unusedVariables false
set_option maxRecDepth 100000
def Qb1 (f : Nat -> Rat) : Nat -> Rat
 | 0 => 0
 | n + 1 => Qb1 f n + f n
theorem Qdx {f g : Nat -> Rat} : ∀ n, (∀ c, c < n -> f c = g c) -> Qb1 f n = Qb1 g n
 | 0, _ => rfl
 | n + 1, h => by simp only [Qb1]; rw [Qdx n fun c hc => h c (by omega), h n (by omega)]
theorem Qr6 {f g : Nat -> Rat} {x y : Rat} : ∀ n, Qb1 (fun c => x * f c + y * g c) n = x * Qb1 f n + y * Qb1 g n
 | 0 => by simp only [Qb1]; grind
 | n + 1 => by simp only [Qb1]; rw [Qr6 n]; grind
theorem Qvz {f : Nat -> Rat} : ∀ n, (∀ c, c < n -> f c = 0) -> Qb1 f n = 0
 | 0, _ => rfl
 | n + 1, h => by simp only [Qb1]; rw [Qvz n fun c hc => h c (by omega), h n (by omega)]; grind
theorem Qx1 {f g : Nat -> Rat} : ∀ n, Qb1 (fun c => f c + g c) n = Qb1 f n + Qb1 g n
 | 0 => by simp only [Qb1]; grind
 | n + 1 => by simp only [Qb1]; rw [Qx1 n]; grind
theorem Qx2 {f : Nat -> Rat} {x : Rat} : ∀ n, x * Qb1 f n = Qb1 (fun c => x * f c) n
 | 0 => by simp only [Qb1]; grind
 | n + 1 => by simp only [Qb1]; rw [<- Qx2 n]; grind
theorem Qv0 {f : Nat -> Nat -> Rat} {m : Nat} : ∀ n, Qb1 (fun c => Qb1 (f c) m) n = Qb1 (fun d => Qb1 (fun c => f c d) n) m
 | 0 => (Qvz m fun _ _ => rfl).symm
 | n + 1 => by
  simp only [Qb1]
  rw [Qv0 n, Qx1]
theorem Qok {f : Nat -> Rat} : ∀ n, Qb1 (fun c => -f c) n = -Qb1 f n
 | 0 => by simp only [Qb1]; grind
 | n + 1 => by simp only [Qb1]; rw [Qok n]; grind
def sg (c e : Nat) : Rat := if c < e then 1 else if e < c then -1 else 0
theorem Qafl (c e : Nat) : sg e c = -sg c e := by
 unfold sg
 rcases Nat.lt_trichotomy c e with h | h | h
 ·rw [if_neg (by omega), if_pos h, if_pos h]
 ·subst h; rw [if_neg (by omega), if_neg (by omega)]; grind
 ·rw [if_pos h, if_neg (by omega), if_pos h]; grind
def Qar (n : Nat) : Nat -> MF -> (Nat -> Rat) -> Rat
 | 0, _, _ => 1
 | k + 1, A, w => Qb1 (fun c => A 0 c * w c * Qar n k (fun r => A (r + 1)) (fun e => w e * sg c e)) n
theorem Qbo {n : Nat} : ∀ {k : Nat} {A B : MF} {w : Nat -> Rat}, (∀ r, r < k -> ∀ c, c < n -> A r c = B r c) -> Qar n k A w = Qar n k B w
 | 0, _, _, _, _ => rfl
 | k + 1, A, B, w, h => by
  simp only [Qar]
  refine Qdx n fun c hc => ?_
  rw [h 0 (by omega) c hc, Qbo (A := fun r => A (r + 1)) (B := fun r => B (r + 1)) fun r hr c hc => h (r + 1) (by omega) c hc]
theorem Qhr {n : Nat} {x y : Rat} : ∀ {k i : Nat} {A B C : MF} {w : Nat -> Rat}, i < k -> (∀ r, r < k -> r ≠ i -> ∀ c, c < n -> A r c = B r c /\ A r c = C r c) -> (∀ c, c < n -> A i c = x * B i c + y * C i c) -> Qar n k A w = x * Qar n k B w + y * Qar n k C w
 | 0, i, _, _, _, _, hi, _, _ => by omega
 | k + 1, 0, A, B, C, w, _, h, h0 => by
  simp only [Qar]
  rw [<- Qr6]
  refine Qdx n fun c hc => ?_
  rw [h0 c hc, Qbo (A := fun r => A (r + 1)) (B := fun r => B (r + 1)) fun r hr c hc => (h (r + 1) (by omega) (by omega) c hc).1]
  rw [Qbo (A := fun r => C (r + 1)) (B := fun r => B (r + 1)) fun r hr c hc => by have := h (r + 1) (by omega) (by omega) c hc; rw [<- this.1, this.2]]
  grind
 | k + 1, i + 1, A, B, C, w, hi, h, h0 => by
  simp only [Qar]
  rw [<- Qr6]
  refine Qdx n fun c hc => ?_
  rw [Qhr (A := fun r => A (r + 1)) (B := fun r => B (r + 1)) (C := fun r => C (r + 1)) (i := i) (x := x) (y := y) (by omega) (fun r hr hne c hc => h (r + 1) (by omega) (by omega) c hc) h0]
  have h1 := h 0 (by omega) (by omega) c hc
  rw [<- h1.1, <- h1.2]; grind
theorem Qpq {n : Nat} : ∀ {k i : Nat} {A B : MF} {w : Nat -> Rat}, i + 1 < k -> (∀ r, r < k -> r ≠ i -> r ≠ i + 1 -> ∀ c, c < n -> B r c = A r c) -> (∀ c, c < n -> B i c = A (i + 1) c) -> (∀ c, c < n -> B (i + 1) c = A i c) -> Qar n k B w = -Qar n k A w
 | 0, _, _, _, _, hi, _, _, _ => by omega
 | 1, _, _, _, _, hi, _, _, _ => by omega
 | k + 2, 0, A, B, w, _, h, h0, h1 => by
  have e : ∀ (A : MF) (w : Nat -> Rat), Qar n (k + 2) A w = Qb1 (fun c => Qb1 (fun d => A 0 c * w c * (A 1 d * (w d * sg c d)) * Qar n k (fun r => A (r + 2)) (fun e => w e * sg c e * sg d e)) n) n := fun A w => by
   show Qb1 (fun c => A 0 c * w c * Qar n (k + 1) (fun r => A (r + 1)) (fun e => w e * sg c e)) n = _
   refine Qdx n fun c hc => ?_
   simp only [Qar]
   rw [Qx2]
   exact Qdx n fun d hd => by grind
  rw [e, e, Qv0, <- Qok]
  refine Qdx n fun c hc => ?_
  rw [<- Qok]
  refine Qdx n fun d hd => ?_
  rw [h0 d hd, h1 c hc, Qafl c d, Qbo (A := fun r => B (r + 2)) (B := fun r => A (r + 2)) fun r hr c hc => h (r + 2) (by omega) (by omega) (by omega) c hc]
  have ew : (fun e => w e * sg d e * sg c e) = fun e => w e * sg c e * sg d e := by funext e; grind
  rw [ew]; grind
 | k + 2, i + 1, A, B, w, hi, h, h0, h1 => by
  show Qb1 (fun c => B 0 c * w c * Qar n (k + 1) (fun r => B (r + 1)) (fun e => w e * sg c e)) n = -Qb1 (fun c => A 0 c * w c * Qar n (k + 1) (fun r => A (r + 1)) (fun e => w e * sg c e)) n
  rw [<- Qok]
  refine Qdx n fun c hc => ?_
  rw [Qpq (A := fun r => A (r + 1)) (B := fun r => B (r + 1)) (i := i) (by omega) (fun r hr h2 h3 c hc => h (r + 1) (by omega) (by omega) (by omega) c hc) h0 h1, h 0 (by omega) (by omega) (by omega) c hc]
  grind
theorem Qnx {n k i : Nat} {w : Nat -> Rat} : ∀ {d : Nat} {A : MF}, i + d + 1 < k -> (∀ c, c < n -> A i c = A (i + d + 1) c) -> Qar n k A w = 0
 | 0, A, hk, h => by
  have := Qpq (n := n) (k := k) (i := i) (A := A) (B := A) (w := w) (by omega) (fun r _ _ _ c _ => rfl) h (fun c hc => (h c hc).symm)
  grind
 | d + 1, A, hk, h => by
  have h1 := Qpq (n := n) (k := k) (i := i + d + 1) (A := A) (B := fun r => if r = i + d + 1 then A (i + d + 2) else if r = i + d + 2 then A (i + d + 1) else A r) (w := w) (by omega)
   (fun r _ h2 h3 c _ => by rw [if_neg h2, if_neg (by omega)]) (fun c _ => by rw [if_pos rfl]) (fun c _ => by rw [if_neg (by omega), if_pos rfl])
  have h2 := Qnx (n := n) (k := k) (i := i) (w := w) (d := d) (A := fun r => if r = i + d + 1 then A (i + d + 2) else if r = i + d + 2 then A (i + d + 1) else A r) (by omega)
   (fun c hc => by rw [if_neg (by omega), if_neg (by omega), if_pos rfl]; exact h c hc)
  grind
theorem Qx3 {n k i j : Nat} {w : Nat -> Rat} {A : MF} (hi : i < k) (hj : j < k) (hij : i ≠ j) (h : ∀ c, c < n -> A i c = A j c) : Qar n k A w = 0 := by
 rcases Nat.lt_or_ge i j with h1 | h1
 ·refine Qnx (i := i) (d := j - i - 1) (by omega) ?_
  rw [show i + (j - i - 1) + 1 = j by omega]; exact h
 ·refine Qnx (i := j) (d := i - j - 1) (by omega) ?_
  rw [show j + (i - j - 1) + 1 = i by omega]; exact fun c hc => (h c hc).symm
def Qa9 (M : MF) (i : Nat) (x : Nat -> Rat) : MF := fun r => if r = i then x else M r
theorem Q74 {n k i j : Nat} {w : Nat -> Rat} {A : MF} {q : Rat} (hi : i < k) (hj : j < k) (hij : i ≠ j) : Qar n k (Qa9 A i fun c => A i c - q * A j c) w = Qar n k A w := by
 have h1 := Qhr (n := n) (k := k) (i := i) (A := Qa9 A i fun c => A i c - q * A j c) (B := A) (C := Qa9 A i (A j)) (w := w) (x := 1) (y := -q) hi
  (fun r _ hne c _ => by unfold Qa9; rw [if_neg hne, if_neg hne]; exact ⟨rfl, rfl⟩) (fun c _ => by unfold Qa9; rw [if_pos rfl, if_pos rfl]; grind)
 have h2 := Qx3 (n := n) (k := k) (i := i) (j := j) (w := w) (A := Qa9 A i (A j)) hi hj hij (fun c _ => by unfold Qa9; rw [if_pos rfl, if_neg (fun e => hij e.symm)])
 rw [h1, h2]; grind
theorem Qzx {n k i : Nat} {w : Nat -> Rat} {A : MF} {p : Rat} (hi : i < k) (hp : p ≠ 0) : p * Qar n k (Qa9 A i fun c => A i c / p) w = Qar n k A w := by
 have h1 := Qhr (n := n) (k := k) (i := i) (A := A) (B := Qa9 A i fun c => A i c / p) (C := A) (w := w) (x := p) (y := 0) hi
  (fun r _ hne c _ => by unfold Qa9; rw [if_neg hne]; exact ⟨rfl, rfl⟩) (fun c _ => by unfold Qa9; rw [if_pos rfl]; grind)
 rw [h1]; grind
theorem Q3c {n k i j : Nat} {w : Nat -> Rat} {A : MF} (hi : i < k) (hj : j < k) (hij : i ≠ j) : Qar n k (Qah A i j) w = -Qar n k A w := by
 have hji : ¬ j = i := fun e => hij e.symm
 have key : ∀ (x y : Nat -> Rat), Qar n k (Qa9 (Qa9 A i fun c => x c + y c) j fun c => x c + y c) w = Qar n k (Qa9 (Qa9 A i x) j x) w + Qar n k (Qa9 (Qa9 A i x) j y) w + (Qar n k (Qa9 (Qa9 A i y) j x) w + Qar n k (Qa9 (Qa9 A i y) j y) w) := by
  intro x y
  have l1 : ∀ z : Nat -> Rat, Qar n k (Qa9 (Qa9 A i fun c => x c + y c) j z) w = 1 * Qar n k (Qa9 (Qa9 A i x) j z) w + 1 * Qar n k (Qa9 (Qa9 A i y) j z) w := fun z =>
   Qhr (i := i) hi (fun r _ hne c _ => by unfold Qa9; by_cases e : r = j <;> simp [e, hne]) (fun c _ => by unfold Qa9; rw [if_neg hij, if_neg hij, if_neg hij, if_pos rfl, if_pos rfl, if_pos rfl]; grind)
  have l2 : ∀ z : Nat -> Rat, Qar n k (Qa9 (Qa9 A i z) j fun c => x c + y c) w = 1 * Qar n k (Qa9 (Qa9 A i z) j x) w + 1 * Qar n k (Qa9 (Qa9 A i z) j y) w := fun z =>
   Qhr (i := j) hj (fun r _ hne c _ => by unfold Qa9; rw [if_neg hne, if_neg hne, if_neg hne]; exact ⟨rfl, rfl⟩) (fun c _ => by unfold Qa9; rw [if_pos rfl, if_pos rfl, if_pos rfl]; grind)
  rw [l1, l2, l2]; grind
 have z : ∀ x : Nat -> Rat, Qar n k (Qa9 (Qa9 A i x) j x) w = 0 := fun x => Qx3 hi hj hij fun c _ => by unfold Qa9; rw [if_neg hij, if_pos rfl, if_pos rfl]
 have hk := key (A i) (A j)
 rw [z, z, z] at hk
 have e1 : Qar n k (Qa9 (Qa9 A i (A i)) j (A j)) w = Qar n k A w := Qbo fun r _ c _ => by
  unfold Qa9
  by_cases e : r = j
  ·rw [if_pos e, e]
  ·rw [if_neg e]; by_cases e2 : r = i
   ·rw [if_pos e2, e2]
   ·rw [if_neg e2]
 have e2 : Qar n k (Qa9 (Qa9 A i (A j)) j (A i)) w = Qar n k (Qah A i j) w := Qbo fun r _ c _ => by
  unfold Qa9 Qah
  by_cases e : r = j
  ·simp [e]
  ·simp [e]
 rw [e1, e2] at hk
 grind
theorem Q3d {n k i : Nat} {w : Nat -> Rat} {A : MF} (hi : i < k) (h : ∀ c, c < n -> A i c = 0) : Qar n k A w = 0 := by
 have h1 := Qhr (n := n) (k := k) (i := i) (A := A) (B := A) (C := A) (w := w) (x := 0) (y := 0) hi (fun r _ _ c _ => ⟨rfl, rfl⟩) (fun c hc => by rw [h c hc]; grind)
 rw [h1]; grind
def Qdg (n : Nat) (A B : MF) : MF := fun r c => Q7 (A r) (fun k => B k c) n
theorem Qv1 {n k K : Nat} {w : Nat -> Rat} {N T : MF} (hn : n < K) (hT : ∀ r, T r = T r) : ∀ j, j <= K -> Qar k K (fun r => if r < j /\ r ≠ n then fun c => T r c - N r 0 * T n c else T r) w = Qar k K T w
 | 0, _ => Qbo fun r _ c _ => by rw [if_neg (by omega)]
 | j + 1, hj => by
  have ih := Qv1 (w := w) (k := k) (N := N) hn hT j (by omega)
  rw [<- ih]
  by_cases e : j = n
  ·refine Qbo fun r _ c _ => ?_
   show (if r < j + 1 /\ r ≠ n then fun c => T r c - N r 0 * T n c else T r) c = (if r < j /\ r ≠ n then fun c => T r c - N r 0 * T n c else T r) c
   by_cases h : r < j /\ r ≠ n
   ·rw [if_pos h, if_pos ⟨by omega, h.2⟩]
   ·rw [if_neg h, if_neg (by omega)]
  ·have h1 := Q74 (n := k) (k := K) (i := j) (j := n) (w := w) (A := fun r => if r < j /\ r ≠ n then fun c => T r c - N r 0 * T n c else T r) (q := N j 0) (by omega) hn e
   rw [<- h1]
   refine Qbo fun r _ c _ => ?_
   unfold Qa9
   by_cases e2 : r = j
   ·subst e2
    rw [if_pos ⟨by omega, e⟩, if_pos rfl, if_neg (by omega), if_neg (by omega)]
   ·rw [if_neg e2]
    show (if r < j + 1 /\ r ≠ n then fun c => T r c - N r 0 * T n c else T r) c = (if r < j /\ r ≠ n then fun c => T r c - N r 0 * T n c else T r) c
    by_cases h : r < j /\ r ≠ n
    ·rw [if_pos h, if_pos ⟨by omega, h.2⟩]
    ·rw [if_neg h, if_neg (by omega)]
theorem Q75 {n : Nat} {A B : MF} {r c : Nat} {f g : Nat -> Rat} {q : Rat} (h : ∀ k, k < n -> A r k = f k - q * g k) : Qdg n A B r c = Q7 f (fun k => B k c) n - q * Q7 g (fun k => B k c) n := by
 unfold Qdg
 rw [Qcq (x' := fun k => f k - q * g k) n fun k hk => ⟨h k hk, rfl⟩, Qr4]
theorem Q76 {R k : Nat} {E : Ech} {B : MF} (hn : E.piv.length <= R) : Qar R R (Qdg R E.M B) (fun _ => 1) * E.det = Qar R R (Qdg R (Qcg R E k).M B) (fun _ => 1) * (Qcg R E k).det /\ (E.det ≠ 0 -> (Qcg R E k).det ≠ 0) := by
 unfold Qcg
 split
 ·exact ⟨rfl, id⟩
 rename_i hp
 have hle := Qi4 E.M k (R - E.piv.length) E.piv.length
 have hne := Qlj E.M k (R - E.piv.length) E.piv.length
 have hi1 : E.piv.length <= Qca E.M R k E.piv.length := hle.1
 have hi2 : Qca E.M R k E.piv.length < R := by
  have : Qca E.M R k E.piv.length <= E.piv.length + (R - E.piv.length) := hle.2
  omega
 have hp0 : E.M (Qca E.M R k E.piv.length) k ≠ 0 := hne (by
  show Qca E.M R k E.piv.length < _
  omega)
 generalize hi : Qca E.M R k E.piv.length = i at *
 generalize hn' : E.piv.length = n at *
 generalize hpp : E.M i k = p at *
 obtain ⟨D0, hD0⟩ : ∃ D, Qar R R (Qdg R E.M B) (fun _ => 1) = D := ⟨_, rfl⟩
 obtain ⟨D1, hD1⟩ : ∃ D, Qar R R (Qdg R (Qah E.M i n) B) (fun _ => 1) = D := ⟨_, rfl⟩
 obtain ⟨D2, hD2⟩ : ∃ D, Qar R R (Qdg R (Qax (Qah E.M i n) n p) B) (fun _ => 1) = D := ⟨_, rfl⟩
 obtain ⟨D3, hD3⟩ : ∃ D, Qar R R (Qdg R (Qes (Qax (Qah E.M i n) n p) n k) B) (fun _ => 1) = D := ⟨_, rfl⟩
 have s1 : D1 = if i = n then D0 else -D0 := by
  by_cases e : i = n
  ·rw [if_pos e, <- hD0, <- hD1]
   refine Qbo fun r _ c _ => ?_
   have : Qah E.M i n r = E.M r := by
    unfold Qah
    by_cases e2 : r = n
    ·rw [if_pos e2, e, e2]
    ·rw [if_neg e2, if_neg (by omega)]
   unfold Qdg; rw [this]
  ·rw [if_neg e, <- hD0, <- hD1, <- Q3c hi2 (show n < R by omega) e]
   refine Qbo fun r _ c _ => ?_
   unfold Qdg Qah
   by_cases e2 : r = n
   ·simp [e2]
   ·by_cases e3 : r = i
    ·simp [e3, e]
    ·simp [e2, e3]
 have s2 : p * D2 = D1 := by
  rw [<- hD1, <- hD2, <- Qzx (A := Qdg R (Qah E.M i n) B) (show n < R by omega) hp0]
  congr 1
  refine Qbo fun r _ c _ => ?_
  unfold Qa9
  by_cases e : r = n
  ·subst e
   rw [if_pos rfl]
   have h1 := Qr3 (f := fun c => E.M i c) (x := fun k => B k c) hp0 R
   have h2 : Q7 (Qax (Qah E.M i r) r p r) (fun k => B k c) R = Q7 (fun c => E.M i c / p) (fun k => B k c) R := Qcq R fun d _ => ⟨by simp [Qax, Qah], rfl⟩
   have h3 : Q7 (Qah E.M i r r) (fun k => B k c) R = Q7 (fun c => E.M i c) (fun k => B k c) R := Qcq R fun d _ => ⟨by simp [Qah], rfl⟩
   show Q7 (Qax (Qah E.M i r) r p r) (fun k => B k c) R = Q7 (Qah E.M i r r) (fun k => B k c) R / p
   rw [h2, h3, <- h1]
   generalize Q7 (fun c => E.M i c / p) (fun k => B k c) R = y
   grind
  ·rw [if_neg e]
   unfold Qdg
   exact Qcq R fun d _ => ⟨by simp [Qax, e], rfl⟩
 have s3 : D3 = D2 := by
  rw [<- hD3, <- hD2]
  have h := Qv1 (w := fun _ => 1) (k := R) (K := R) (n := n) (N := fun r _ => Qax (Qah E.M i n) n p r k) (T := Qdg R (Qax (Qah E.M i n) n p) B) (by omega) (fun _ => rfl) R (Nat.le_refl _)
  rw [<- h]
  refine Qbo fun r hr c _ => ?_
  by_cases e : r = n
  ·subst e
   rw [if_neg (by omega)]
   unfold Qdg
   exact Qcq R fun d _ => ⟨by simp [Qes], rfl⟩
  ·rw [if_pos ⟨hr, e⟩]
   rw [Q75 (f := Qax (Qah E.M i n) n p r) (g := Qax (Qah E.M i n) n p n) (q := Qax (Qah E.M i n) n p r k) fun d _ => by simp [Qes, e]]
   rfl
 have g1 : D0 * E.det = D3 * ((if i = n then E.det else -E.det) * p) := by
  rw [s3]
  by_cases e : i = n
  ·rw [if_pos e] at s1 ⊢
   rw [<- s1, <- s2]; grind
  ·rw [if_neg e] at s1 ⊢
   have : D0 = -D1 := by rw [s1]; grind
   rw [this, <- s2]; grind
 rw [<- hD0, <- hD3] at g1
 refine ⟨g1, fun h h2 => ?_⟩
 rcases Rat.mul_eq_zero.1 h2 with h3 | h3
 ·by_cases e : i = n
  ·rw [if_pos e] at h3; exact h h3
  ·rw [if_neg e] at h3; exact h (by grind)
 ·exact hp0 h3
theorem Qpr {R : Nat} {M B : MF} : ∀ k, Qar R R (Qdg R M B) (fun _ => 1) = Qar R R (Qdg R (Qv R M k).M B) (fun _ => 1) * (Qv R M k).det /\ (Qv R M k).det ≠ 0
 | 0 => ⟨by show _ = _ * (1 : Rat); rw [Rat.mul_one]; rfl, by show (1 : Rat) ≠ 0; decide⟩
 | k + 1 => by
  obtain ⟨h1, h2⟩ := Qpr (R := R) (M := M) (B := B) k
  obtain ⟨h3, h4⟩ := Q76 (B := B) (E := Qv R M k) (k := k) (Qb5 R M k).2.1
  exact ⟨h1.trans h3, h4 h2⟩
end Go.Proofs.YtmnkngmmfnncoaaGreat
namespace Go.Proofs.YtmnkngmmfnncoaaGreat
open Go Go.FW
set_option linter.unusedSimpArgs false
set_option linter.unusedVariables false
set_option maxRecDepth 100000
end Go.Proofs.YtmnkngmmfnncoaaGreat
namespace Go.Proofs.YtmnkngmmfnncoaaGreat
open Go Go.FW
set_option linter.unusedSimpArgs false
set_option linter.unusedVariables false
set_option maxRecDepth 100000
theorem Qv2 {A : Nat -> Nat -> Rat} {e z : Nat -> Rat} {r : Nat} : ∀ n, Q7 (fun i => Q7 (A i) e r) z n = Q7 (fun j => Q7 (fun i => A i j) z n) e r
 | 0 => (Qjv r fun _ _ => rfl).symm
 | n + 1 => by
  have h := Qv2 (A := A) (e := e) (z := z) (r := r) n
  have key : ∀ r, Q7 (fun j => Q7 (fun i => A i j) z n + A n j * z n) e r = Q7 (fun j => Q7 (fun i => A i j) z n) e r + Q7 (A n) e r * z n := by
   intro r
   induction r with
   | zero => simp only [Q7]; grind
   | succ r ih => simp only [Q7]; rw [ih]; grind
  show Q7 (fun i => Q7 (A i) e r) z n + Q7 (A n) e r * z n = _
  rw [h]
  exact (key r).symm
theorem Qps {x y : Nat -> Rat} : ∀ n, Q7 x y n = Q7 y x n
 | 0 => rfl
 | n + 1 => by simp only [Q7]; rw [Qps n]; grind
theorem Qzy {l : List Nat} (hs : l.Pairwise (· < ·)) {r : Nat} (h : ∀ k, k < r -> k ∈ l) : r <= l.length := by
 have key : ∀ k, k < r -> ∀ j (hj : j < l.length), l[j] = k -> k <= j := by
  intro k
  induction k with
  | zero => intro _ j _ _; omega
  | succ k ih =>
   intro hk j hj e
   obtain ⟨i, hi, e2⟩ := List.getElem_of_mem (h k (by omega))
   have h1 := ih (by omega) i hi e2
   have h2 : i < j := by
    rcases Nat.lt_or_ge i j with h | h
    ·exact h
    ·rcases Nat.lt_or_ge j i with h3 | h3
     ·have := Qlr hs h3 hi; omega
     ·have : i = j := by omega
      subst this; omega
   omega
 cases r with
 | zero => omega
 | succ r =>
  obtain ⟨i, hi, e⟩ := List.getElem_of_mem (h r (by omega))
  have := key r (by omega) i hi e
  omega
theorem Qx4 {n r : Nat} {C : MF} (h : ∀ z, Qk0 C n r z -> ∀ j, j < r -> z j = 0) : r <= n := by
 refine Classical.byContradiction fun hn => ?_
 have hp := Qb5 n C r
 have hs := Qdf n C r
 have : ∃ k, k < r /\ k ∉ (Qv n C r).piv := by
  refine Classical.byContradiction fun hno => ?_
  have := Qzy hs (r := r) fun k hk => Classical.byContradiction fun hk2 => hno ⟨k, hk, hk2⟩
  omega
 obtain ⟨k, hk, hkp⟩ := this
 have h1 := h _ (Qx0 hk hkp) k hk
 rw [Qmv, Qmu _ (Nat.le_refl _) fun i hi _ e => hkp (by rw [<- e]; exact List.getElem_mem hi)] at h1
 rw [if_pos rfl] at h1
 exact absurd h1 (by decide)
theorem Qmw {piv : List Nat} {w : Nat} {f x val : Nat -> Rat} (hs : piv.Pairwise (· < ·)) (hw : ∀ y ∈ piv, y < w) (hx : ∀ y ∈ piv, x y = 0) : ∀ j, j <= piv.length -> Q7 f (Qhd piv x val j) w = Q7 f x w + Q7 (fun i => f (piv.getD i 0)) val j
 | 0, _ => by simp only [Qhd, Q7]; grind
 | j + 1, hj => by
  have hj' : j < piv.length := by omega
  have h := Qmw (f := f) (val := val) hs hw hx j (by omega)
  have e : piv.getD j 0 = piv[j] := by rw [List.getD_eq_getElem?_getD, List.getElem?_eq_getElem (by omega), Option.getD_some]
  have hm : piv[j] ∈ piv := List.getElem_mem hj'
  have h0 : Qhd piv x val j piv[j] = 0 := by
   rw [Qmu j (by omega) fun i hi hij => by have := Qlr hs hij hj'; omega]
   exact hx _ hm
  simp only [Qhd, Q7]
  rw [e, Qi7, h, if_pos (hw _ hm), h0]; grind
theorem Q77 {R m : Nat} {M : MF} {f : Nat -> Rat} (hf : ∀ x, Qk0 M R m x -> Q7 f x m = 0) {c : Nat} (hc : c < m) : f c = Q7 (fun j => f ((Qv R M m).piv.getD j 0)) (fun j => (Qv R M m).M j c) (Qv R M m).piv.length := by
 have hp := Qb5 R M m
 have hs := Qdf R M m
 have hu := Qgr (R := R) (M := M) m
 by_cases hcp : c ∈ (Qv R M m).piv
 ·obtain ⟨i, hi, rfl⟩ := List.getElem_of_mem hcp
  have key : ∀ n, n <= (Qv R M m).piv.length -> Q7 (fun j => f ((Qv R M m).piv.getD j 0)) (fun j => (Qv R M m).M j (Qv R M m).piv[i]) n = if i < n then f (Qv R M m).piv[i] else 0 := by
   intro n
   induction n with
   | zero => intro _; rw [if_neg (by omega)]; rfl
   | succ n ih =>
    intro hn
    show Q7 (fun j => f ((Qv R M m).piv.getD j 0)) (fun j => (Qv R M m).M j (Qv R M m).piv[i]) n + f ((Qv R M m).piv.getD n 0) * (Qv R M m).M n (Qv R M m).piv[i] = _
    rw [ih (by omega), hu.1 i hi n (by omega)]
    by_cases e : n = i
    ·subst e
     rw [if_pos rfl, if_neg (by omega), if_pos (by omega), List.getD_eq_getElem?_getD, List.getElem?_eq_getElem (by omega), Option.getD_some]; grind
    ·rw [if_neg e]
     by_cases e2 : i < n
     ·rw [if_pos e2, if_pos (by omega)]; grind
     ·rw [if_neg e2, if_neg (by omega)]; grind
  rw [key _ (Nat.le_refl _), if_pos hi]
 ·have h1 := hf _ (Qx0 (R := R) (M := M) hc hcp)
  rw [Qmv, Qmw hs hp.2.2 (fun y hy => if_neg fun e => hcp (by rw [<- e]; exact hy)) _ (Nat.le_refl _)] at h1
  have hd : Q7 f (fun d => if d = c then 1 else 0) m = f c := by
   rw [Qi7 (x := fun _ => 0), Qfw, if_pos hc]; grind
  have hn : ∀ n, Q7 (fun i => f ((Qv R M m).piv.getD i 0)) (fun j => -((Qv R M m).M j c)) n = -Q7 (fun i => f ((Qv R M m).piv.getD i 0)) (fun j => (Qv R M m).M j c) n := by
   intro n
   induction n with
   | zero => simp only [Q7]; grind
   | succ n ih => simp only [Q7]; rw [ih]; grind
  rw [hd, hn] at h1
  grind
theorem Qv3 {R m : Nat} {M : MF} {z : Nat -> Rat} (h : Qk0 M R m (Qhd (Qv R M m).piv (fun _ => 0) z (Qv R M m).piv.length)) : ∀ j, j < (Qv R M m).piv.length -> z j = 0 := by
 have hp := Qb5 R M m
 rw [<- Qmt (k := m)] at h
 intro j hj
 have := h j (by omega)
 rw [Qr5 (Qdf R M m) (Qgr m) hp.2.2 (fun _ _ => rfl) (by omega) _ (Nat.le_refl _), Qfw, if_pos hj] at this
 grind
end Go.Proofs.YtmnkngmmfnncoaaGreat
namespace Go.Proofs.YtmnkngmmfnncoaaGreat
open Go Go.FW
set_option linter.unusedSimpArgs false
set_option linter.unusedVariables false
set_option maxRecDepth 100000
theorem Qs5 {f : Nat -> Rat} {s : Nat} : ∀ n, Qb1 (fun c => (if s = c then 1 else 0) * f c) n = if s < n then f s else 0
 | 0 => by rw [if_neg (by omega)]; rfl
 | n + 1 => by
  simp only [Qb1]
  rw [Qs5 n]
  by_cases e : s = n
  ·subst e; rw [if_neg (by omega), if_pos rfl, if_pos (by omega)]; grind
  ·rw [if_neg e]
   by_cases e2 : s < n
   ·rw [if_pos e2, if_pos (by omega)]; grind
   ·rw [if_neg e2, if_neg (by omega)]; grind
theorem Q3e {n : Nat} : ∀ (k s : Nat) (w : Nat -> Rat), k + s <= n -> (∀ c, s <= c -> w c = 1) -> Qar n k (fun r c => if r + s = c then 1 else 0) w = 1
 | 0, _, _, _, _ => rfl
 | k + 1, s, w, h, hw => by
  have e : (fun r : Nat => (fun c : Nat => if r + 1 + s = c then (1 : Rat) else 0)) = fun r c => if r + (s + 1) = c then 1 else 0 := by
   funext r c
   rw [show r + 1 + s = r + (s + 1) by omega]
  show Qb1 (fun c => (if 0 + s = c then (1 : Rat) else 0) * w c * Qar n k (fun r c => if r + 1 + s = c then 1 else 0) (fun e => w e * sg c e)) n = 1
  rw [e]
  have e2 : ∀ c, (if 0 + s = c then (1 : Rat) else 0) * w c * Qar n k (fun r c => if r + (s + 1) = c then 1 else 0) (fun e => w e * sg c e) = (if s = c then 1 else 0) * (w c * Qar n k (fun r c => if r + (s + 1) = c then 1 else 0) (fun e => w e * sg c e)) := fun c => by
   rw [Nat.zero_add]; grind
  rw [Qdx n fun c _ => e2 c, Qs5, if_pos (by omega), hw s (Nat.le_refl _), Q3e k (s + 1) _ (by omega) fun c hc => by rw [hw c (by omega)]; unfold sg; rw [if_pos (by omega)]; grind]
  grind
theorem Qk1 {l : List Nat} (hs : l.Pairwise (· < ·)) {j : Nat} : ∀ d (h : j + d < l.length), l[j] + d <= l[j + d]
 | 0, _ => Nat.le_refl _
 | d + 1, h => by
  have h1 := Qk1 hs (j := j) d (by omega)
  have h2 := Qlr hs (i := j + d) (j := j + (d + 1)) (by omega) h
  omega
theorem Qw3 {l : List Nat} (hs : l.Pairwise (· < ·)) (hb : ∀ x ∈ l, x < l.length) {j : Nat} (hj : j < l.length) : l[j] = j := by
 have h1 := Qk1 hs (j := 0) j (by omega)
 have h2 := Qk1 hs (j := j) (l.length - 1 - j) (by omega)
 have h3 := hb _ (List.getElem_mem (show j + (l.length - 1 - j) < l.length by omega))
 simp only [Nat.zero_add] at h1
 omega
theorem Qs6 {y : Nat -> Rat} {r n : Nat} (h : r < n) : Q7 (fun k => if k = r then 1 else 0) y n = y r := by
 rw [Qps, Qi7 (x := fun _ => 0), Qfw, if_pos h]; grind
theorem Qx5 {R : Nat} {A B : MF} : Qar R R (Qdg R A B) (fun _ => 1) = Qcm R A * Qar R R B (fun _ => 1) := by
 obtain ⟨h1, h2⟩ := Qpr (R := R) (M := A) (B := B) R
 have hp := Qb5 R A R
 have hu := Qgr (R := R) (M := A) R
 have hs := Qdf R A R
 rw [h1]
 unfold Qcm
 by_cases hlt : (Qv R A R).piv.length < R
 ·rw [if_pos hlt, Q3d (i := R - 1) (by omega) fun c hc => Qjv R fun d hd => hu.2 (R - 1) (by omega) (by omega) d hd]; grind
 ·rw [if_neg hlt]
  have hlen : (Qv R A R).piv.length = R := by omega
  have e : Qar R R (Qdg R (Qv R A R).M B) (fun _ => 1) = Qar R R B (fun _ => 1) := Qbo fun r hr c hc => by
   unfold Qdg
   rw [Qcq (x' := fun k => if k = r then 1 else 0) R fun d hd => ⟨?_, rfl⟩, Qs6 hr]
   have h5 := hu.1 d (by omega) r hr
   rw [Qw3 hs (fun x hx => by rw [hlen]; exact hp.2.2 x hx) (by omega)] at h5
   rw [h5]
   by_cases e : r = d
   ·rw [if_pos e, if_pos e.symm]
   ·rw [if_neg e, if_neg fun e2 => e e2.symm]
  rw [e]; grind
theorem Qq6 {R : Nat} {A : MF} : Qar R R A (fun _ => 1) = Qcm R A := by
 have h := Qx5 (R := R) (A := A) (B := fun r c => if r + 0 = c then 1 else 0)
 rw [Q3e R 0 _ (by omega) fun _ _ => rfl] at h
 rw [<- Rat.mul_one (Qcm R A), <- h]
 refine Qbo fun r hr c hc => ?_
 unfold Qdg
 rw [Qps]
 rw [Qcq (x' := fun k => if k = c then 1 else 0) (y' := A r) R fun d hd => ⟨by show (if d + 0 = c then (1 : Rat) else 0) = _; rw [Nat.add_zero], rfl⟩, Qs6 hc]
theorem Q78 {R : Nat} {A B : MF} : Qcm R (Qdg R A B) = Qcm R A * Qcm R B := by rw [<- Qq6, Qx5, Qq6]
theorem Qzz {R : Nat} {A B : MF} (h : ∀ r, r < R -> ∀ c, c < R -> A r c = B r c) : Qcm R A = Qcm R B := by
 rw [<- Qq6, <- Qq6]; exact Qbo h
theorem Qace {R : Nat} {A : MF} : Qcm R A ≠ 0 ↔ (Qv R A R).piv.length = R := by
 have hp := Qb5 R A R
 have hd := (Qpr (R := R) (M := A) (B := A) R).2
 unfold Qcm
 by_cases h : (Qv R A R).piv.length < R
 ·rw [if_pos h]; exact ⟨fun h2 => absurd rfl h2, fun h2 => by omega⟩
 ·rw [if_neg h]; exact ⟨fun _ => by omega, fun _ => hd⟩
theorem Qx6 {R m : Nat} {A : MF} : (Qv m (fun r c => A c r) R).piv.length <= (Qv R A m).piv.length := by
 have hp := Qb5 m (fun r c => A c r) R
 have hs := Qdf m (fun r c => A c r) R
 refine Qx4 (C := fun j i => A ((Qv m (fun r c => A c r) R).piv.getD i 0) ((Qv R A m).piv.getD j 0)) fun z hz => Qv3 fun c hc => ?_
 rw [Qmw hs hp.2.2 (fun _ _ => rfl) _ (Nat.le_refl _), Qfw]
 have e : Q7 (fun i => A ((Qv m (fun r c => A c r) R).piv.getD i 0) c) z (Qv m (fun r c => A c r) R).piv.length = Q7 (fun i => Q7 (fun j => A ((Qv m (fun r c => A c r) R).piv.getD i 0) ((Qv R A m).piv.getD j 0)) (fun j => (Qv R A m).M j c) (Qv R A m).piv.length) z (Qv m (fun r c => A c r) R).piv.length :=
  Qcq _ fun i hi => ⟨Q77 (R := R) (f := A ((Qv m (fun r c => A c r) R).piv.getD i 0)) (fun x hx => hx _ (by
   rw [List.getD_eq_getElem?_getD, List.getElem?_eq_getElem hi, Option.getD_some]
   exact hp.2.2 _ (List.getElem_mem hi))) hc, rfl⟩
 show 0 + Q7 (fun i => A ((Qv m (fun r c => A c r) R).piv.getD i 0) c) z (Qv m (fun r c => A c r) R).piv.length = 0
 rw [e, Qv2, Qjv _ fun j hj => hz j hj]; grind
theorem Q3f {R m : Nat} {A : MF} : Qf5 m R (fun r c => A c r) = Qf5 R m A := Nat.le_antisymm Qx6 (Qx6 (R := m) (m := R) (A := fun r c => A c r))
theorem Qv4 {R : Nat} {M : MF} : ∀ k, (Qd6 (Qv R M k).piv k).length + (Qv R M k).piv.length = k
 | 0 => rfl
 | k + 1 => by
  have ih := Qv4 (R := R) (M := M) k
  have hp := Qb5 R M k
  show (Qd6 (Qcg R (Qv R M k) k).piv (k + 1)).length + (Qcg R (Qv R M k) k).piv.length = k + 1
  unfold Qcg
  split
  ·have : (Qv R M k).piv.contains k = false := Bool.eq_false_iff.2 fun h => by have := hp.2.2 k (List.contains_iff_mem.1 h); omega
   rw [Qmr, this]
   simp only [Bool.false_eq_true, if_false, List.length_append, List.length_cons, List.length_nil]
   omega
  ·simp only
   have e1 : ((Qv R M k).piv ++ [k]).contains k = true := List.contains_iff_mem.2 (by simp)
   have e2 : Qd6 ((Qv R M k).piv ++ [k]) k = Qd6 (Qv R M k).piv k := by
    unfold Qd6
    refine List.filter_congr fun c hc => ?_
    have hc := List.mem_range.1 hc
    congr 1
    by_cases h : c ∈ (Qv R M k).piv
    ·rw [List.contains_iff_mem.2 h, List.contains_iff_mem.2 (List.mem_append_left _ h)]
    ·have f1 : (Qv R M k).piv.contains c = false := Bool.eq_false_iff.2 fun h2 => h (List.contains_iff_mem.1 h2)
     have f2 : ((Qv R M k).piv ++ [k]).contains c = false := Bool.eq_false_iff.2 fun h2 => by
      rcases List.mem_append.1 (List.contains_iff_mem.1 h2) with h3 | h3
      ·exact h h3
      ·rw [List.mem_singleton] at h3; omega
     rw [f1, f2]
   rw [Qmr, e1, e2]
   simp only [if_true, List.append_nil, List.length_append, List.length_cons, List.length_nil]
   omega
end Go.Proofs.YtmnkngmmfnncoaaGreat
namespace Go.Proofs.YtmnkngmmfnncoaaGreat
open Go Go.FW
set_option linter.unusedSimpArgs false
set_option linter.unusedVariables false
set_option maxRecDepth 100000
end Go.Proofs.YtmnkngmmfnncoaaGreat
namespace Go.Proofs.YtmnkngmmfnncoaaGreat
open Go Go.FW
set_option linter.unusedSimpArgs false
set_option linter.unusedVariables false
set_option maxRecDepth 100000
end Go.Proofs.YtmnkngmmfnncoaaGreat
namespace Go.Proofs.YtmnkngmmfnncoaaGreat
open Go Go.FW
set_option linter.unusedSimpArgs false
set_option linter.unusedVariables false
set_option maxRecDepth 100000
end Go.Proofs.YtmnkngmmfnncoaaGreat
namespace Go.Proofs.YtmnkngmmfnncoaaGreat
open Go Go.FW
set_option linter.unusedSimpArgs false
set_option linter.unusedVariables false
set_option maxRecDepth 100000
theorem Qz0 {m : Nat} {L : List (Nat -> Rat)} : PV.rowsL m L = .sl 1 (Q5 (PV.rowD m) (fun i => L.getD i fun _ => 0) L.length) := by
 have e : L.map (PV.rowD m) = Q5 (PV.rowD m) (fun i => L.getD i fun _ => 0) L.length := by
  refine List.ext_getElem (by simp [Q5]) fun j h1 h2 => ?_
  have hj : j < L.length := by rw [List.length_map] at h1; exact h1
  rw [Qeq, List.getElem_map, List.getD_eq_getElem?_getD, List.getElem?_eq_getElem hj, Option.getD_some]
 rw [PV.rowsL, e]
end Go.Proofs.YtmnkngmmfnncoaaGreat
namespace Go.Proofs.YtmnkngmmfnncoaaGreat
open Go Go.FW
set_option linter.unusedSimpArgs false
set_option linter.unusedVariables false
set_option maxRecDepth 100000
theorem Qv5 {r c r' c' : Int} {a b : List RQ} (ha : Qcs a) (hb : Qcs b) (h : ¬ ((Qcf a 25 && Qcf b 25) = true /\ Qba r c a = true /\ Qba r' c' b = true)) : Qd Tryz.prog 11 [PV.rmat r c a, PV.rmat r' c' b] (· = .bool true) := by
 have hsm := Qpo (l := [⟨r, c, a⟩, ⟨r', c', b⟩]) (by simp; exact ⟨ha, hb⟩) (by simp)
 simp only [List.all_cons, List.all_nil, Bool.and_true] at hsm
 have hra := Qhq (r := r) (c := c) ha
 have hrb := Qhq (r := r') (c := c') hb
 cases h1 : (Qcf a 25 && Qcf b 25)
 ·rw [h1] at hsm
  refine Qh Qm Tryz.func11 rfl Qnt (by simp [c11]) fun C hP => ?_; simp only [c11, Zo, Zg, Zm, Zc, Zf, Zl, Zh, Zs, Zi, Zb, Zk, Zn, Zu, Zq, Zr, Zz]
  simp +decide (disch := first | exact D0 | fail) only [go_sem, ↓reduceIte]
  refine Qcn hP hsm Ur0 rfl ?_
  simp +decide (disch := first | exact E0 | fail) only [go_sem, ↓reduceIte, Qn, List.contains_cons, List.contains_nil, List.flatMap_cons, List.flatMap_nil, List.append_nil]
  refine Qa hP Qfv rfl rfl rfl ?_
  simp +decide (disch := first | exact E0 | fail) only [go_sem, ↓reduceIte, Qn, List.contains_cons, List.contains_nil, List.flatMap_cons, List.flatMap_nil, List.append_nil]
  exact Qc rfl rfl
 rw [h1] at hsm
 cases h2 : Qba r c a
 ·rw [h2] at hra
  refine Qh Qm Tryz.func11 rfl Qnt (by simp [c11]) fun C hP => ?_; simp only [c11, Zo, Zg, Zm, Zc, Zf, Zl, Zh, Zs, Zi, Zb, Zk, Zn, Zu, Zq, Zr, Zz]
  simp +decide (disch := first | exact D0 | fail) only [go_sem, ↓reduceIte]
  refine Qcn hP hsm Ur0 rfl ?_
  simp +decide (disch := first | exact E0 | fail) only [go_sem, ↓reduceIte, Qn, List.contains_cons, List.contains_nil, List.flatMap_cons, List.flatMap_nil, List.append_nil]
  refine Qa hP hra rfl rfl rfl ?_
  simp +decide (disch := first | exact E0 | fail) only [go_sem, ↓reduceIte, Qn, List.contains_cons, List.contains_nil, List.flatMap_cons, List.flatMap_nil, List.append_nil]
  refine Qa hP Qfv rfl rfl rfl ?_
  simp +decide (disch := first | exact E0 | fail) only [go_sem, ↓reduceIte, Qn, List.contains_cons, List.contains_nil, List.flatMap_cons, List.flatMap_nil, List.append_nil]
  exact Qc rfl rfl
 rw [h2] at hra
 have h3 : Qba r' c' b = false := Bool.eq_false_iff.2 fun h3 => h ⟨h1, h2, h3⟩
 rw [h3] at hrb
 refine Qh Qm Tryz.func11 rfl Qnt (by simp [c11]) fun C hP => ?_; simp only [c11, Zo, Zg, Zm, Zc, Zf, Zl, Zh, Zs, Zi, Zb, Zk, Zn, Zu, Zq, Zr, Zz]
 simp +decide (disch := first | exact D0 | fail) only [go_sem, ↓reduceIte]
 refine Qcn hP hsm Ur0 rfl ?_
 simp +decide (disch := first | exact E0 | fail) only [go_sem, ↓reduceIte, Qn, List.contains_cons, List.contains_nil, List.flatMap_cons, List.flatMap_nil, List.append_nil]
 refine Qa hP hra rfl rfl rfl ?_
 simp +decide (disch := first | exact E0 | fail) only [go_sem, ↓reduceIte, Qn, List.contains_cons, List.contains_nil, List.flatMap_cons, List.flatMap_nil, List.append_nil]
 refine Qa hP hrb rfl rfl rfl ?_
 simp +decide (disch := first | exact E0 | fail) only [go_sem, ↓reduceIte, Qn, List.contains_cons, List.contains_nil, List.flatMap_cons, List.flatMap_nil, List.append_nil]
 refine Qa hP Qfv rfl rfl rfl ?_
 simp +decide (disch := first | exact E0 | fail) only [go_sem, ↓reduceIte, Qn, List.contains_cons, List.contains_nil, List.flatMap_cons, List.flatMap_nil, List.append_nil]
 exact Qc rfl rfl
theorem Qhe {r c r' c' : Int} {a b : List RQ} (ha : Qcs a) (hb : Qcs b) (h1 : (Qcf a 25 && Qcf b 25) = true) (h2 : Qba r c a = true) (h3 : Qba r' c' b = true) {t : List PV} {n nl w : Nat} {LF : MF} {n1 n2 : Bool} {a1 d1 a2 d2 : List Nat} {e1 e2 : Int}
  (htr : Qd Tryz.prog 46 [PV.rmat r c a] (· = .tup [.agg [.int .i64 c, .int .i64 r, .sl 3 t], .int .i64 0]))
  (hrk : Qd Tryz.prog 18 [PV.rmat r c a] (· = .tup [.int .i64 (n : Nat), .int .i64 0]))
  (hrt : Qd Tryz.prog 18 [.agg [.int .i64 c, .int .i64 r, .sl 3 t]] (· = .tup [.int .i64 (n : Nat), .int .i64 0]))
  (hker : Qd Tryz.prog 42 [PV.rmat r c a] (· = .tup [.sl 1 (Q5 (PV.rowD w) LF nl), .int .i64 0]))
  (hn : n <= 40) (hnl : ((n + nl : Nat) : Int) = c) (hc : c <= 40)
  (hda : Qd Tryz.prog 16 [PV.rmat r c a] (· = .tup [PV.rr n1 a1 d1, .int .i64 e1]))
  (hdb : Qd Tryz.prog 16 [PV.rmat r' c' b] (· = .tup [PV.rr n2 a2 d2, .int .i64 e2])) (he : ¬ (e1 = 0 /\ e2 = 0 /\ r = r')) : Qd Tryz.prog 11 [PV.rmat r c a, PV.rmat r' c' b] (· = .bool true) := by
 have hsm := Qpo (l := [⟨r, c, a⟩, ⟨r', c', b⟩]) (by simp; exact ⟨ha, hb⟩) (by simp)
 simp only [List.all_cons, List.all_nil, Bool.and_true] at hsm
 have hra := Qhq (r := r) (c := c) ha
 have hrb := Qhq (r := r') (c := c') hb
 rw [h1] at hsm
 rw [h2] at hra
 rw [h3] at hrb
 have hrl : (Q5 (PV.rowD w) LF nl).length = nl := Qao _ _ _
 have hnl2 : (n : Int) + (nl : Int) = c := by omega
 refine Qh Qm Tryz.func11 rfl Qnt (by simp [c11]) fun C hP => ?_; simp only [c11, Zo, Zg, Zm, Zc, Zf, Zl, Zh, Zs, Zi, Zb, Zk, Zn, Zu, Zq, Zr, Zz]
 simp +decide (disch := first | exact D0 | fail) only [go_sem, ↓reduceIte]
 refine Qcn hP hsm Ur0 rfl ?_
 simp +decide (disch := first | exact E0 | fail) only [go_sem, ↓reduceIte, Qn, List.contains_cons, List.contains_nil, List.flatMap_cons, List.flatMap_nil, List.append_nil]
 refine Qa hP hra rfl rfl rfl ?_
 simp +decide (disch := first | exact E0 | fail) only [go_sem, ↓reduceIte, Qn, List.contains_cons, List.contains_nil, List.flatMap_cons, List.flatMap_nil, List.append_nil]
 refine Qa hP hrb rfl rfl rfl ?_
 simp +decide (disch := first | exact E0 | fail) only [go_sem, ↓reduceIte, Qn, List.contains_cons, List.contains_nil, List.flatMap_cons, List.flatMap_nil, List.append_nil]
 refine Qa hP htr rfl rfl rfl ?_
 simp +decide (disch := first | exact E0 | fail) only [go_sem, ↓reduceIte, Qn, List.contains_cons, List.contains_nil, List.flatMap_cons, List.flatMap_nil, List.append_nil]
 refine Qa hP hrk rfl rfl rfl ?_
 simp +decide (disch := first | exact E0 | fail) only [go_sem, ↓reduceIte, Qn, List.contains_cons, List.contains_nil, List.flatMap_cons, List.flatMap_nil, List.append_nil]
 refine Qa hP hrt rfl rfl rfl ?_
 simp +decide (disch := first | exact E0 | fail) only [go_sem, ↓reduceIte, Qn, List.contains_cons, List.contains_nil, List.flatMap_cons, List.flatMap_nil, List.append_nil]
 refine Qa hP hker rfl rfl rfl ?_
 simp +decide (disch := first | exact E2 hrl hnl2 | fail) only [go_sem, ↓reduceIte, Qn, List.contains_cons, List.contains_nil, List.flatMap_cons, List.flatMap_nil, List.append_nil, hrl, hnl2]
 refine Qa hP hda rfl rfl rfl ?_
 simp +decide (disch := first | exact E0 | fail) only [go_sem, ↓reduceIte, Qn, List.contains_cons, List.contains_nil, List.flatMap_cons, List.flatMap_nil, List.append_nil]
 refine Qa hP hdb rfl rfl rfl ?_
 simp +decide (disch := first | exact E0 | fail) only [go_sem, ↓reduceIte, Qn, List.contains_cons, List.contains_nil, List.flatMap_cons, List.flatMap_nil, List.append_nil]
 by_cases q1 : e1 = 0
 ·by_cases q2 : e2 = 0
  ·have q3 : ¬ r = r' := fun q3 => he ⟨q1, q2, q3⟩
   simp +decide (disch := first | exact E3 q1 q2 q3 | fail) only [go_sem, ↓reduceIte, q1, q2, q3, Qn, List.contains_cons, List.contains_nil, List.flatMap_cons, List.flatMap_nil, List.append_nil]
   refine Qa hP Qfv rfl rfl rfl ?_
   simp +decide (disch := first | exact E0 | fail) only [go_sem, ↓reduceIte, Qn, List.contains_cons, List.contains_nil, List.flatMap_cons, List.flatMap_nil, List.append_nil]
   exact Qc rfl rfl
  ·simp +decide (disch := first | exact E2 q1 q2 | fail) only [go_sem, ↓reduceIte, q1, q2, Qn, List.contains_cons, List.contains_nil, List.flatMap_cons, List.flatMap_nil, List.append_nil]
   refine Qa hP Qfv rfl rfl rfl ?_
   simp +decide (disch := first | exact E0 | fail) only [go_sem, ↓reduceIte, Qn, List.contains_cons, List.contains_nil, List.flatMap_cons, List.flatMap_nil, List.append_nil]
   exact Qc rfl rfl
 ·simp +decide (disch := first | exact E1 q1 | fail) only [go_sem, ↓reduceIte, q1, Qn, List.contains_cons, List.contains_nil, List.flatMap_cons, List.flatMap_nil, List.append_nil]
  refine Qa hP Qfv rfl rfl rfl ?_
  simp +decide (disch := first | exact E0 | fail) only [go_sem, ↓reduceIte, Qn, List.contains_cons, List.contains_nil, List.flatMap_cons, List.flatMap_nil, List.append_nil]
  exact Qc rfl rfl
theorem Qv6 {r c r' c' : Int} {a b : List RQ} (ha : Qcs a) (hb : Qcs b) (h1 : (Qcf a 25 && Qcf b 25) = true) (h2 : Qba r c a = true) (h3 : Qba r' c' b = true) {t : List PV} {n nl w : Nat} {LF : MF} {n1 n2 : Bool} {a1 d1 a2 d2 : List Nat} {e1 e2 : Int}
  (htr : Qd Tryz.prog 46 [PV.rmat r c a] (· = .tup [.agg [.int .i64 c, .int .i64 r, .sl 3 t], .int .i64 0]))
  (hrk : Qd Tryz.prog 18 [PV.rmat r c a] (· = .tup [.int .i64 (n : Nat), .int .i64 0]))
  (hrt : Qd Tryz.prog 18 [.agg [.int .i64 c, .int .i64 r, .sl 3 t]] (· = .tup [.int .i64 (n : Nat), .int .i64 0]))
  (hker : Qd Tryz.prog 42 [PV.rmat r c a] (· = .tup [.sl 1 (Q5 (PV.rowD w) LF nl), .int .i64 0]))
  (hn : n <= 40) (hnl : ((n + nl : Nat) : Int) = c) (hc : c <= 40)
  (hda : Qd Tryz.prog 16 [PV.rmat r c a] (· = .tup [PV.rr n1 a1 d1, .int .i64 e1]))
  (hdb : Qd Tryz.prog 16 [PV.rmat r' c' b] (· = .tup [PV.rr n2 a2 d2, .int .i64 e2])) (q1 : e1 = 0) (q2 : e2 = 0) (q3 : r = r') {p : List PV} {n3 : Bool} {a3 d3 : List Nat} {n4 : Bool} {a4 d4 : List Nat} {s : Int}
  (hmul : Qd Tryz.prog 48 [PV.rmat r c a, PV.rmat r' c' b] (· = .tup [.agg [.int .i64 r, .int .i64 c', .sl 3 p], .int .i64 0]))
  (hdp : Qd Tryz.prog 16 [.agg [.int .i64 r, .int .i64 c', .sl 3 p]] (· = .tup [PV.rr n3 a3 d3, .int .i64 0]))
  (hpr : Qd Tryz.prog 38 [PV.rr n1 a1 d1, PV.rr n2 a2 d2] (· = PV.rr n4 a4 d4))
  (heq : Qd Tryz.prog 39 [PV.rr n3 a3 d3, PV.rr n4 a4 d4] (· = .bool true))
  (hsg : Qd Tryz.prog 36 [PV.rr n1 a1 d1] (· = .int .i64 s)) (hs : s ≠ 0 ↔ (n : Int) = r) : Qd Tryz.prog 11 [PV.rmat r c a, PV.rmat r' c' b] (· = .bool true) := by
 have hsm := Qpo (l := [⟨r, c, a⟩, ⟨r', c', b⟩]) (by simp; exact ⟨ha, hb⟩) (by simp)
 simp only [List.all_cons, List.all_nil, Bool.and_true] at hsm
 have hra := Qhq (r := r) (c := c) ha
 have hrb := Qhq (r := r') (c := c') hb
 rw [h1] at hsm
 rw [h2] at hra
 rw [h3] at hrb
 have hrl : (Q5 (PV.rowD w) LF nl).length = nl := Qao _ _ _
 have hnl2 : (n : Int) + (nl : Int) = c := by omega
 refine Qh Qm Tryz.func11 rfl Qnt (by simp [c11]) fun C hP => ?_; simp only [c11, Zo, Zg, Zm, Zc, Zf, Zl, Zh, Zs, Zi, Zb, Zk, Zn, Zu, Zq, Zr, Zz]
 simp +decide (disch := first | exact D0 | fail) only [go_sem, ↓reduceIte]
 refine Qcn hP hsm Ur0 rfl ?_
 simp +decide (disch := first | exact E0 | fail) only [go_sem, ↓reduceIte, Qn, List.contains_cons, List.contains_nil, List.flatMap_cons, List.flatMap_nil, List.append_nil]
 refine Qa hP hra rfl rfl rfl ?_
 simp +decide (disch := first | exact E0 | fail) only [go_sem, ↓reduceIte, Qn, List.contains_cons, List.contains_nil, List.flatMap_cons, List.flatMap_nil, List.append_nil]
 refine Qa hP hrb rfl rfl rfl ?_
 simp +decide (disch := first | exact E0 | fail) only [go_sem, ↓reduceIte, Qn, List.contains_cons, List.contains_nil, List.flatMap_cons, List.flatMap_nil, List.append_nil]
 refine Qa hP htr rfl rfl rfl ?_
 simp +decide (disch := first | exact E0 | fail) only [go_sem, ↓reduceIte, Qn, List.contains_cons, List.contains_nil, List.flatMap_cons, List.flatMap_nil, List.append_nil]
 refine Qa hP hrk rfl rfl rfl ?_
 simp +decide (disch := first | exact E0 | fail) only [go_sem, ↓reduceIte, Qn, List.contains_cons, List.contains_nil, List.flatMap_cons, List.flatMap_nil, List.append_nil]
 refine Qa hP hrt rfl rfl rfl ?_
 simp +decide (disch := first | exact E0 | fail) only [go_sem, ↓reduceIte, Qn, List.contains_cons, List.contains_nil, List.flatMap_cons, List.flatMap_nil, List.append_nil]
 refine Qa hP hker rfl rfl rfl ?_
 simp +decide (disch := first | exact E2 hrl hnl2 | fail) only [go_sem, ↓reduceIte, Qn, List.contains_cons, List.contains_nil, List.flatMap_cons, List.flatMap_nil, List.append_nil, hrl, hnl2]
 refine Qa hP hda rfl rfl rfl ?_
 simp +decide (disch := first | exact E0 | fail) only [go_sem, ↓reduceIte, Qn, List.contains_cons, List.contains_nil, List.flatMap_cons, List.flatMap_nil, List.append_nil]
 refine Qa hP hdb rfl rfl rfl ?_
 simp +decide (disch := first | exact E3 q1 q2 q3 | fail) only [go_sem, ↓reduceIte, Qn, List.contains_cons, List.contains_nil, List.flatMap_cons, List.flatMap_nil, List.append_nil, q1, q2, q3]
 rw [q3] at hmul hdp hs
 refine Qa hP hmul rfl rfl rfl ?_
 simp +decide (disch := first | exact E0 | fail) only [go_sem, ↓reduceIte, Qn, List.contains_cons, List.contains_nil, List.flatMap_cons, List.flatMap_nil, List.append_nil]
 refine Qa hP hdp rfl rfl rfl ?_
 simp +decide (disch := first | exact E0 | fail) only [go_sem, ↓reduceIte, Qn, List.contains_cons, List.contains_nil, List.flatMap_cons, List.flatMap_nil, List.append_nil]
 refine Qa hP hpr rfl rfl rfl ?_
 simp +decide (disch := first | exact E0 | fail) only [go_sem, ↓reduceIte, Qn, List.contains_cons, List.contains_nil, List.flatMap_cons, List.flatMap_nil, List.append_nil]
 refine Qa hP heq rfl rfl rfl ?_
 simp +decide (disch := first | exact E0 | fail) only [go_sem, ↓reduceIte, Qn, List.contains_cons, List.contains_nil, List.flatMap_cons, List.flatMap_nil, List.append_nil]
 refine Qa hP hsg rfl rfl rfl ?_
 have tt : (true == true) = true := rfl
 have ff : (false == false) = true := rfl
 by_cases hnr : (n : Int) = r'
 ·have hs0 := hs.2 hnr
  simp +decide (disch := first | exact D4 hs0 hnr tt ff | fail) only [go_sem, ↓reduceIte, hs0, hnr, tt, ff]
  refine Qa hP Qfv rfl rfl rfl ?_
  simp +decide (disch := first | exact E0 | fail) only [go_sem, ↓reduceIte, Qn, List.contains_cons, List.contains_nil, List.flatMap_cons, List.flatMap_nil, List.append_nil]
  exact Qc rfl rfl
 ·have hs0 : s = 0 := Classical.byContradiction fun h => hnr (hs.1 h)
  simp +decide (disch := first | exact D4 hs0 hnr tt ff | fail) only [go_sem, ↓reduceIte, hs0, hnr, tt, ff]
  refine Qa hP Qfv rfl rfl rfl ?_
  simp +decide (disch := first | exact E0 | fail) only [go_sem, ↓reduceIte, Qn, List.contains_cons, List.contains_nil, List.flatMap_cons, List.flatMap_nil, List.append_nil]
  exact Qc rfl rfl
end Go.Proofs.YtmnkngmmfnncoaaGreat
namespace Go.Proofs.YtmnkngmmfnncoaaGreat
open Go Go.FW
set_option linter.unusedSimpArgs false
set_option linter.unusedVariables false
set_option maxRecDepth 100000
theorem Q3g {a b : List Rat} {R m n r c : Nat} (hr : r < R) (hc : c < n) : Qw (Qkz a b R m n) n r c = Q7 (Qw a m r) (fun k => Qw b n k c) m := by
 have h : r * n + c < R * n := by
  have : (r + 1) * n <= R * n := Nat.mul_le_mul_right _ hr
  rw [Nat.add_mul] at this; omega
 have e : Qw (Qkz a b R m n) n r c = Qii (Qw a m) (Qw b n) m n (r * n + c) := by
  unfold Qkz
  show List.getD ((List.range (R * n)).map (Qii (Qw a m) (Qw b n) m n)) (r * n + c) 0 = _
  rw [List.getD_eq_getElem?_getD, List.getElem?_eq_getElem (by simpa using h)]
  simp
 rw [e, Qxz hc]
theorem Qs7 {R R' m : Nat} {A B : MF} (h : ∀ x, Qk0 A R m x -> Qk0 B R' m x) : (Qv R' B m).piv.length <= (Qv R A m).piv.length := by
 have hp := Qb5 R' B m
 refine Qx4 (C := fun j i => (Qv R A m).M j ((Qv R' B m).piv.getD i 0)) fun z hz => Qv3 (h _ ?_)
 rw [<- Qmt (k := m)]
 intro r hr
 rw [Qmw (Qdf R' B m) hp.2.2 (fun _ _ => rfl) _ (Nat.le_refl _), Qfw]
 by_cases hr2 : r < (Qv R A m).piv.length
 ·have := hz r hr2
  rw [this]; grind
 ·rw [Qjv _ fun i hi => (Qgr (R := R) (M := A) m).2 r (by omega) hr _ ?_]
  ·grind
  ·rw [List.getD_eq_getElem?_getD, List.getElem?_eq_getElem hi, Option.getD_some]
   exact hp.2.2 _ (List.getElem_mem hi)
theorem Qz1 {R m : Nat} {A B : MF} (h : ∀ r, r < R -> ∀ c, c < m -> A r c = B r c) : Qf5 R m A = Qf5 R m B :=
 Nat.le_antisymm (Qs7 fun x hx r hr => by rw [Qcq m fun c hc => ⟨h r hr c hc, rfl⟩]; exact hx r hr)
  (Qs7 fun x hx r hr => by rw [<- Qcq m fun c hc => ⟨h r hr c hc, rfl⟩]; exact hx r hr)
theorem Qny (q : Rat) : PV.rat q = PV.rr (decide (q.num < 0)) (dig q.num.natAbs) (dig q.den) := rfl
theorem Qr7 {r c r' c' : Int} {a b : List RQ} (h : Qzv r /\ Qzv c /\ Qcs a) (h' : Qzv r' /\ Qzv c' /\ Qcs b) : Qd Tryz.prog 11 [PV.rmat r c a, PV.rmat r' c' b] (· = .bool true) := by
 have ha := h.2.2
 have hb := h'.2.2
 by_cases hq : (Qcf a 25 && Qcf b 25) = true /\ Qba r c a = true /\ Qba r' c' b = true
 case neg => exact Qv5 ha hb hq
 obtain ⟨h1, h2, h3⟩ := hq
 have h12 := h1
 rw [Bool.and_eq_true] at h12
 obtain ⟨R, m, la, rfl, rfl, hR, hm, hla, hlen, hmat⟩ := Qxq ha h2
 obtain ⟨R', m', lb, rfl, rfl, hR', hm', hlb, hlen', hmat'⟩ := Qxq hb h3
 obtain ⟨l25, sl⟩ := Qvx ha h12.1
 obtain ⟨l25', sl'⟩ := Qvx hb h12.2
 rw [<- hla] at sl
 rw [<- hlb] at sl'
 have sA : ∀ q ∈ la, rs q <= 1048576 := fun q hq => by have := sl q hq; omega
 have sB : ∀ q ∈ lb, rs q <= 1048576 := fun q hq => by have := sl' q hq; omega
 have h25 : R * m <= 25 := by rw [<- hlen, hla, List.length_map]; exact l25
 have h25' : R' * m' <= 25 := by rw [<- hlen', hlb, List.length_map]; exact l25'
 have h25t : m * R <= 25 := by rw [Nat.mul_comm]; exact h25
 have hBA : Qjs (3 * 3125) R m m (Qw la m) := Qlq (by omega) (fun r _ c _ => Qff (by omega) sl) (Nat.le_refl _) (Qi6 h25)
 have stl := Q3a (R := R) (m := m) (k := 3) (by omega) sl
 have htl : (trL la R m).length = m * R := by simp [trL, Nat.mul_comm]
 have hBT : Qjs (3 * 3125) m R R (Qw (trL la R m) R) := Qlq (by omega) (fun r _ c _ => Qff (by omega) stl) (Nat.le_refl _) (Qi6 h25t)
 have htr := Qo8 hlen hR hm sA
 have hrk := Q27 hlen hR hm sA (by omega) hBA
 have hrt := Q27 htl hm hR (fun q hq => by have := stl q hq; omega) (by omega) hBT
 have hker := Q70 hlen hR hm sA (by omega) hBA
 have hre : Qf5 m R (Qw (trL la R m) R) = Qf5 R m (Qw la m) := by
  rw [<- Q3f (R := R) (m := m)]
  exact Qz1 fun r hr c hc => Qvy hr hc
 rw [hre] at hrt
 have hnl : Qf5 R m (Qw la m) + (Qga (Qv R (Qw la m) m).M (Qv R (Qw la m) m).piv m).length = m := by
  have := Qv4 (R := R) (M := Qw la m) m
  unfold Qf5 Qga
  rw [List.length_map]; omega
 rw [Qz0] at hker
 generalize Qga (Qv R (Qw la m) m).M (Qv R (Qw la m) m).piv m = KL at *
 rw [<- hmat] at htr hrk hker
 have hnl2 : ((Qf5 R m (Qw la m) + KL.length : Nat) : Int) = (m : Int) := by omega
 by_cases e1 : R = m
 case neg =>
  have d1 := Qpp ha h2 (show (R : Int) ≠ (m : Int) by omega)
  by_cases e2 : R' = m'
  ·subst e2
   have d2 := Qq2 (K := 3 * 3125) hlen' hR' sB (by omega) (Qlq (by omega) (fun r _ c _ => Qff (by omega) sl') (Nat.le_refl _) (Qi6 h25'))
   rw [<- hmat', Qny] at d2
   exact Qhe ha hb h1 h2 h3 htr hrk hrt hker (by omega) hnl2 (by omega) d1 d2 (fun h => absurd h.1 (by decide))
  ·have d2 := Qpp hb h3 (show (R' : Int) ≠ (m' : Int) by omega)
   exact Qhe ha hb h1 h2 h3 htr hrk hrt hker (by omega) hnl2 (by omega) d1 d2 (fun h => absurd h.1 (by decide))
 subst e1
 have d1 := Qq2 (K := 3 * 3125) hlen hR sA (by omega) hBA
 rw [<- hmat, Qny] at d1
 by_cases e2 : R' = m'
 case neg =>
  have d2 := Qpp hb h3 (show (R' : Int) ≠ (m' : Int) by omega)
  exact Qhe ha hb h1 h2 h3 htr hrk hrt hker (by omega) hnl2 (by omega) d1 d2 (fun h => absurd h.2.1 (by decide))
 subst e2
 have hBB : Qjs (3 * 3125) R' R' R' (Qw lb R') := Qlq (by omega) (fun r _ c _ => Qff (by omega) sl') (Nat.le_refl _) (Qi6 h25')
 have d2 := Qq2 (K := 3 * 3125) hlen' hR' sB (by omega) hBB
 rw [<- hmat', Qny] at d2
 by_cases e3 : R = R'
 case neg => exact Qhe ha hb h1 h2 h3 htr hrk hrt hker (by omega) hnl2 (by omega) d1 d2 (fun h => e3 (by omega))
 subst e3
 have hdr : ∀ l : List Rat, Qjs (3 * 3125) R R R (Qw l R) -> rs (Qcm R (Qw l R)) <= 9375 := fun l hB => by
  unfold Qcm
  split
  ·have := Qyz; omega
  ·exact (hB R (Nat.le_refl _)).2
 have r1 := hdr la hBA
 have r2 := hdr lb hBB
 have hr5 : R <= 5 := by have := Qi6 h25; omega
 have hml := Qo9 la lb R R R
 have sP : ∀ q ∈ Qkz la lb R R R, rs q <= 48 := fun q hq => by
  obtain ⟨j, _, rfl⟩ := List.mem_map.1 hq
  unfold Qii
  have := Qoj (x := Qw la R (j / R)) (y := fun c => Qw lb R c (j % R)) (k := 3) R fun c _ => ⟨Qff (by omega) sl, Qff (by omega) sl'⟩
  have b5 : (R + 1) * (2 * 3 + 2) <= 6 * 8 := Nat.mul_le_mul_right _ (by omega)
  omega
 have hmul := Qago hlen hlen' hR hR hR sA sB
 rw [<- hmat, <- hmat'] at hmul
 have hdp := Qq2 (K := 48 * 3125) hml hR (fun q hq => by have := sP q hq; omega) (by omega) (Qlq (by omega) (fun r _ c _ => Qff (by omega) sP) (Nat.le_refl _) (Qi6 h25))
 have hde : Qcm R (Qw (Qkz la lb R R R) R) = Qcm R (Qw la R) * Qcm R (Qw lb R) := by
  rw [<- Q78]
  exact Qzz fun r hr c hc => Q3g hr hc
 rw [hde, Qny] at hdp
 have hpr := Qkc (a := Qcm R (Qw la R)) (b := Qcm R (Qw lb R)) (k := 9375) r1 r2 (by omega)
 have r3 := Qec (Qcm R (Qw la R)) (Qcm R (Qw lb R))
 have heq := Qxr (a := Qcm R (Qw la R) * Qcm R (Qw lb R)) (b := Qcm R (Qw la R) * Qcm R (Qw lb R)) (k := 18750) (by omega) (by omega) (by omega)
 rw [decide_eq_true rfl] at heq
 have hsg := Qln (a := Qcm R (Qw la R)) (by omega)
 have hs : Qd4 (Qcm R (Qw la R)) ≠ 0 ↔ ((Qf5 R R (Qw la R) : Nat) : Int) = (R : Int) := by
  have := Qace (R := R) (A := Qw la R)
  unfold Qf5
  constructor
  ·intro h
   have := this.1 fun e => h (Qc6.2 e)
   omega
  ·intro h h2
   exact this.2 (by omega) (Qc6.1 h2)
 simp only [Qny] at hpr heq hsg
 exact Qv6 ha hb h1 h2 h3 htr hrk hrt hker (by omega) hnl2 (by omega) d1 d2 rfl rfl rfl hmul hdp hpr heq hsg hs
end Go.Proofs.YtmnkngmmfnncoaaGreat
namespace Go.Proofs.YtmnkngmmfnncoaaGreat
open Go Go.FW Go.ChangeShapes Go.WideShapes Go.ChangeAt Go.RowKit
set_option linter.unusedSimpArgs false
set_option linter.unusedVariables false
set_option maxRecDepth 100000
theorem Qm5 (H : Type) (enc : TypeId × Value -> H) (W : World) (base : Nat) (args : Array Value) (ds gs : List (DataW H)) (before : List MemPlace)
  (Qdl : ∀ (j : Nat) t v, Tryz.f11.params[j]? = some t -> args[j]? = some v -> Value.okWide Tryz.prog W .any base t v)
  (hW : DataW.Whole enc Tryz.prog Tryz.f11.params.toList Rows.matrixDetsSpec.vars false W args.toList ds gs before) (hk : Rows.uptoSmall H (ds ++ gs) = true) :
  Calls Tryz.prog 11 args W fun e W' => ∃ v, e = .returned v /\ Rows.matrixDetsSpec.post enc Tryz.prog Tryz.f11 false true false false W args v W' := by
 have hW' := hW
 obtain ⟨p, q, hA0, hV, rfl, hfz, hnd⟩ := hW
 have hA : DataW.TrodAll enc Tryz.prog W 0 (fun _ => true) true Tryz.f11.params.toList args.toList ds p := hA0
 rw [Tryz.params11] at hA Qdl
 obtain ⟨v0, vs0, e0, ds0, p0, q0, hargs, rfl, rfl, h0, r0⟩ := trodAll_cons hA
 obtain ⟨v1, vs1, e1, ds1, p1, q1, rfl, rfl, rfl, h1, r1⟩ := trodAll_cons r0
 obtain ⟨rfl, rfl, rfl⟩ := trodAll_nil r1
 obtain rfl : args = #[v0, v1] := by cases args; simp_all
 obtain ⟨rfl, rfl⟩ := trodVars_none hV
 have hb := Q6q hk
 simp only [List.append_nil, Rows.uptoBulkAll] at hb
 obtain ⟨r0, c0, l0, g0, b0⟩ := Qqx (Qdl 0 _ v0 rfl rfl) h0 (by omega)
 obtain ⟨r1, c1, l1, g1, b1⟩ := Qqx (Qdl 1 _ v1 rfl rfl) h1 (by omega)
 exact Q2h hW' rfl (by kernel_rfl) (by kernel_rfl) rfl (Qr7 b0 b1) rfl
  (Q6r (vs := [v0, v1]) (by
   intro i x hx v hv
   match i, hx, hv with
   | 0, hx, hv => simp at hx hv; subst hx hv; exact g0
   | 1, hx, hv => simp at hx hv; subst hx hv; exact g1
   | i + 2, hx, hv => simp at hx) rfl)
theorem Qol (os : Os) (started : os.Started) (H : Type) (enc : TypeId × Value -> H) (F : Stop.Interp) :
  ReturnsInHanded {} Tryz.checked os 11 .any ((Rows.OpenSpec.upto Rows.matrixDetsSpec).pre6 enc Tryz.prog Tryz.f11 Rows.matrixDetsUptoRow.domain false) (((Rows.OpenSpec.upto Rows.matrixDetsSpec).at F).post enc Tryz.prog Tryz.f11 false true false false) := by
 refine returnsInHanded_of_cond (C := Tryz.checked) (s := Rows.OpenSpec.upto Rows.matrixDetsSpec) (k := Rows.uptoSmall) rfl own started (by kernel_rfl) Tryz.func11
  (OpenSpec.witness (enc := enc) (C := Tryz.checked) (s := Rows.OpenSpec.upto Rows.matrixDetsSpec) (k := Rows.uptoSmall) rfl false ⟨#[], #[.agg #[.int .i64 0, .int .i64 0, .slice none 0 0], .agg #[.int .i64 0, .int .i64 0, .slice none 0 0]], []⟩ 8 (by kernel_rfl) (by kernel_rfl) (by kernel_rfl)
   (x := ([.agg [.lit (.int .i64 0), .lit (.int .i64 0), .nil], .agg [.lit (.int .i64 0), .lit (.int .i64 0), .nil]], [], [])) (by kernel_rfl) rfl (by kernel_rfl)) ?_
 intro W base args ds gs before Qdl hW _ hk _
 exact Qm5 H enc W base args ds gs before Qdl hW hk
theorem matrixDets_proved : Rows.MatrixDetsUptoSaid :=
 OpenClaim.holds_of_cond 11 Tryz.f11 rfl rfl rfl rfl rfl rfl rfl ⟨rfl, rfl, rfl, rfl, rfl⟩ rfl rfl rfl rfl rfl (by kernel_rfl) Tryz.func11 (by kernel_rfl)
  (of_decide_eq_true (by kernel_rfl)) (by unfold Func.isWrapper; first | (rw [if_pos (by decide +kernel)]; kernel_rfl) | (rw [if_neg (by decide +kernel)]; exact ⟨rfl, rfl⟩))
  (fun os started H enc _ F => Qol os started H enc F)
end Go.Proofs.YtmnkngmmfnncoaaGreat
