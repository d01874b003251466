/- Part 7 of the proof of DiscoverCandidate: E1, E2, E3, EZ, E4, E5, E6, E7, E8, E9, FwTB. Own lemmas; no conditions. -/
import Derived.Test.YtnhofjeojfgfoaaGreatDiscoverCandidatePart6
set_option maxHeartbeats 1000000
set_option linter.unusedSimpArgs false
set_option linter.unusedVariables false
set_option linter.unnecessarySimpa false
set_option maxRecDepth 100000
namespace Go.Proofs.YtnhofjeojfgfoaaGreat
open Go Go.FW
abbrev PV.fct (f : Int × List Int) : PV :=.agg [.int .i64 f.1, PV.mono f.2, .bool false, .sl 1 [], .sl 1 []]
def Qaz (a b : Int) : Int := if a < b then -1 else if a > b then 1 else 0
theorem Qpw {a b : Int} : Qm Tryz.prog 67 [.int .i64 a, .int .i64 b] (· = .int .i64 (Qaz a b)) := by
 refine Qo Q1 Tryz.func67 rfl Qxb (by simp [c67]) fun C hP =>?_; simp only [c67];refine Sz0 ?_;refine Q3 (fun h =>?_) (fun h =>?_)
 ·refine Sz0 ?_;exact Qk (by simp [Qaz, h]) rfl
 refine Sz0 ?_;refine Q3 (fun h2 =>?_) (fun h2 =>?_)
 ·refine Sz0 ?_;exact Qk (by simp [Qaz, h, h2]) rfl
 refine Sz0 ?_;exact Qk (by simp [Qaz, h, h2]) rfl
abbrev PV.pr (p : Int × Int) : PV :=.agg [.int .i64 p.1, .int .i64 p.2]
def Qb6 (n a : Nat) : List (Int × Int) := (List.range' (a + 1) (n - (a + 1))).map fun (b : Nat) => ((a : Int), (b : Int))
def Qc5 (n : Nat) : List (Int × Int) := (List.range n).flatMap (Qb6 n)
theorem Qf2 (n a : Nat) : (Qb6 n a).length = n - (a + 1) := by simp [Qb6]
theorem Qld {n : Nat} : ∀ i, ((List.range i).flatMap (Qb6 n)).length <= i * n
 | 0 => by simp
 | i + 1 => by have := Qld (n := n) i;have h2 := Qf2 n i;rw [List.range_succ, List.flatMap_append, List.length_append];simp only [List.flatMap_cons, List.flatMap_nil, List.append_nil, Nat.succ_mul];omega
theorem Qpx {n i j : Nat} (h : i + 1 + j < n) : (Qb6 n i).take (j + 1) = (Qb6 n i).take j ++ [((i : Int), ((i + 1 + j : Nat) : Int))] := by
 have hl : j < (Qb6 n i).length := by rw [Qf2]; omega
 rw [List.take_succ_eq_append_getElem hl];simp [Qb6]
theorem Qsm {n i j : Nat} (h : ¬ i + 1 + j < n) : (Qb6 n i).take j = Qb6 n i := List.take_of_length_le (by rw [Qf2]; omega)
theorem Qns {n : Nat} (hn : n <= 100) : Qm Tryz.prog 28 [.int .i64 n] (· = .sl 2 ((Qc5 n).map PV.pr)) := by
 refine Qo Q1 Tryz.func28 rfl Qw8 (by simp [c28]) fun C hP =>?_; simp only [c28];refine Sz0 ?_;refine Qmd 3 900 2 48 (by omega) Tz0 ?_;refine Qas (by repeat (first | exact Qam | exact Qac | exact Qad | exact Qae | exact Qaf | apply Qab | apply Qal | apply Qaw | apply Qa8 | apply Qa9 | apply Q7 | apply Qao)) [(3, 5), (7, 23)] [21, 22, 900] (fun m J hp => ∃ i, m = n - i /\ i <= n /\ J 3 = .ms 900 ((List.range i).flatMap (Qb6 n)).length /\ J 7 = .int .i64 (i : Nat) /\ hp 900 = some ⟨2, 48, ((List.range i).flatMap (Qb6 n)).map PV.pr, false⟩) n ?_ ?_
 ·refine ⟨0, rfl, by omega, ?_⟩;refine Sz0 ?_;exact ⟨rfl, rfl, rfl⟩
 rintro _ J h ⟨i, rfl, hi, j3, ji, hh⟩;refine Sz2 j3 ji ?_;refine Q3 (fun hg =>?_) (fun hg =>?_)
 ·have hi' : i < n := by omega
  have hs1 := Qld (n := n) i;have hs2 : i * n <= 100 * 100 := Nat.mul_le_mul (by omega) hn;have hstep : (List.range (i + 1)).flatMap (Qb6 n) = (List.range i).flatMap (Qb6 n) ++ Qb6 n i := by rw [List.range_succ]; simp
  generalize (List.range i).flatMap (Qb6 n) = A at *
  refine Sz2 j3 ji ?_;refine Qas (by repeat (first | exact Qam | exact Qac | exact Qad | exact Qae | exact Qaf | apply Qab | apply Qal | apply Qaw | apply Qa8 | apply Qa9 | apply Q7 | apply Qao)) [(3, 3), (5, 5), (12, 22)] [21, 22, 900] (fun m J hp => ∃ j, m = n - j /\ j <= n /\ (j = 0 ∨ i + 1 + j <= n) /\ J 3 = .ms 900 (A ++ (Qb6 n i).take j).length /\ J 5 = .int .i64 ((i + 1 + j : Nat) : Int) /\ hp 900 = some ⟨2, 48, (A ++ (Qb6 n i).take j).map PV.pr, false⟩) n ?_ ?_
  ·refine ⟨0, rfl, by omega, by omega, ?_⟩;refine Sz2 j3 hh ?_;simp
  rintro _ J1 h1 ⟨j, rfl, hj, hj2, j3b, j5, hh1⟩;have hsl := Qf2 n i;have htl : ((Qb6 n i).take j).length <= n := by rw [List.length_take]; omega
  refine Sz4 j3 ji @j3b j5 ?_;refine Q3 (fun hg1 =>?_) (fun hg1 =>?_)
  ·have ht := Qpx (n := n) (i := i) (j := j) (by omega);have e5 : ((i + 1 + j : Nat) : Int) + 1 = ((i + 1 + (j + 1) : Nat) : Int) := by omega
   refine Sz4 j3 ji @j3b j5 ?_;rw [Qes (f := PV.pr) (y := ((i : Int), ((i + 1 + j : Nat) : Int))) (xs := A ++ (Qb6 n i).take j) (ty' := 48) (fz := false) (Tz1 hh1) Qry (by omega) rfl (by simp; omega) (by simp; omega)];refine Sz5 j3 ji @j3b j5 e5 ?_;refine Q9 (n - (j + 1)) (by omega) ⟨j + 1, rfl, by omega, by omega, ?_⟩;rw [ht];simp +decide (disch := first | omega | rfl | (simp +decide only [go_sem, ↓reduceIte, List.append_assoc, List.length_append, Nat.add_assoc] <;> rfl) | fail) only [go_sem, ↓reduceIte, List.append_assoc, List.length_append, Nat.add_assoc]
  ·have ht := Qsm (n := n) (i := i) (j := j) (by omega);rw [ht] at j3b hh1;refine Sz4 j3 ji @j3b j5 ?_;simp (disch := decide) only [Qcs, Qgs, Qls];refine Q9 (n - (i + 1)) (by omega) ⟨i + 1, rfl, by omega, ?_⟩;rw [hstep];exact Tz2 @j3b hh1
 ·obtain rfl : i = n := by omega
  refine Vz2 j3 hh ?_;exact Qk (by rw [List.take_of_length_le (by simp)]; rfl) rfl
def upI (n a : Nat) : List Nat := List.range' a (n - a)
theorem Quy {f g : Int × List Int} (hf : f.1 ≠ 9) (hl : f.2.length <= 100) (hl2 : g.2.length <= 100) : Qm Tryz.prog 47 [PV.fct f, PV.fct g] (fun r => ∃ c : Int, r = .int .i64 c /\ (c = 0 ↔ f = g)) := by
 have ho := fun a b => Qpw (a := a) (b := b);have ord0 : ∀ a b, a ≠ b -> Qaz a b ≠ 0 := fun a b h => by unfold Qaz; split <;> (try split) <;> omega
 obtain ⟨k, l⟩ := f;obtain ⟨k2, l2⟩ := g;simp only at hf hl hl2;have d9 : decide (k = 9) = false := decide_eq_false hf;have d9' : decide (¬ k = 9) = true := decide_eq_true hf;refine Qo Q1 Tryz.func47 rfl Qxc (by simp [c47]) fun C hP =>?_; simp only [c47];refine Sz0 ?_;refine Q3 (fun hk =>?_) (fun hk =>?_)
 ·refine Sz0 ?_;refine Qe hP (ho k k2) rfl rfl rfl ?_;refine Sz0 ?_;exact ⟨rfl, _, Qdq _, _, rfl, by simp [ord0 k k2 hk, hk]⟩
 have hk' : k = k2 := by omega
 refine Sz0 ?_;refine Qas (by repeat (first | exact Qam | exact Qac | exact Qad | exact Qae | exact Qaf | apply Qab | apply Qal | apply Qaw | apply Qa8 | apply Qa9 | apply Q7 | apply Qao)) [(4, 5), (16, 51)] [] (fun m J hp => ∃ i, m = l.length - i /\ i <= l.length /\ i <= l2.length /\ l.take i = l2.take i /\ J 5 = .int .i64 (i : Nat) /\ hp 2 = some ⟨5, 35, [PV.fct (k, l)], false⟩ /\ hp 3 = some ⟨5, 35, [PV.fct (k2, l2)], false⟩) l.length ?_ ?_
 ·refine ⟨0, rfl, by omega, by omega, rfl, ?_⟩;refine Sz0 ?_
  try (first | rfl | trivial | exact ⟨rfl, rfl⟩ | exact ⟨rfl, rfl, rfl⟩)
 rintro _ J h ⟨i, rfl, hi, hi2, htk, j5, b2, b3⟩;by_cases c1 : i < l.length
 ·have e1 : decide ((i : Int) < (l.length : Int)) = true := decide_eq_true (by omega);by_cases c2 : i < l2.length
  ·have e2 : decide ((i : Int) < (l2.length : Int)) = true := decide_eq_true (by omega);have t1 := List.take_succ_eq_append_getElem c1;have t2 := List.take_succ_eq_append_getElem c2;generalize hx : l[i] = x at *
   generalize hy : l2[i] = y at *
   by_cases exy : x = y
   ·have q1 : decide (x = y) = true := decide_eq_true exy;have q2 : decide (¬ x = y) = false := decide_eq_false fun h => h exy;refine Sz9 j5 b2 b3 e1 e2 hx hy q1 q2 ?_;refine Q9 (l.length - (i + 1)) (by omega) ⟨i + 1, rfl, by omega, by omega, by rw [t1, t2, htk, exy], ?_⟩;refine Sz2 b2 b3 ?_
    try trivial
   ·have q1 : decide (x = y) = false := decide_eq_false exy;have q2 : decide (¬ x = y) = true := decide_eq_true exy;refine Sz9 j5 b2 b3 e1 e2 hx hy q1 q2 ?_;refine Qe hP (ho x y) rfl rfl rfl ?_;refine Sz0 ?_;refine ⟨rfl, _, Qdq _, _, rfl, ?_⟩;have : l ≠ l2 := fun e => exy (by subst e; rw [<- hx, <- hy]);simp [ord0 x y exy, this]
  ·have e2 : decide ((i : Int) < (l2.length : Int)) = false := decide_eq_false (by omega);have hne : l.length ≠ l2.length := by omega
   refine Sz5 j5 b2 b3 e1 e2 ?_;refine Q3 (fun hg =>?_) (fun hg =>?_)
   ·refine Sz3 j5 b2 b3 ?_;refine Qe hP (ho l.length l2.length) rfl rfl rfl ?_;refine Sz0 ?_;refine ⟨rfl, _, Qdq _, _, rfl, ?_⟩;have : l ≠ l2 := fun e => hne (by rw [e]);simp [ord0 l.length l2.length (by omega), this]
   ·omega
 ·have e1 : decide ((i : Int) < (l.length : Int)) = false := decide_eq_false (by omega);refine Sz4 j5 b2 b3 e1 ?_;refine Q3 (fun hg =>?_) (fun hg =>?_)
  ·refine Sz3 j5 b2 b3 ?_;refine Qe hP (ho l.length l2.length) rfl rfl rfl ?_;refine Sz0 ?_;refine ⟨rfl, _, Qdq _, _, rfl, ?_⟩;have : l ≠ l2 := fun e => hg (by rw [e]);simp [ord0 l.length l2.length (by omega), this]
  ·refine Sz5 j5 b2 b3 d9 d9' ?_;refine ⟨rfl, _, Qdq _, 0, rfl, ?_⟩;have : l = l2 := by rw [List.take_of_length_le (by omega), List.take_of_length_le (by omega)] at htk;exact htk
   simp [hk', this]
theorem Qpy {f g : Int × List Int} (hf : f.1 ≠ 9) (hl : f.2.length <= 100) (hl2 : g.2.length <= 100) : Qm Tryz.prog 25 [PV.fct f, PV.fct g] (· = .bool (decide (f = g))) := by have hc := Quy hf hl hl2;refine Qo Q1 Tryz.func25 rfl Qxd (by simp [c25]) fun C hP =>?_; simp only [c25];refine Sz0 ?_;refine Qnd hP hc rfl rfl rfl ?_;rintro _ ⟨c, rfl, hc⟩;refine Sz0 ?_;exact Qk (by rw [decide_eq_decide.2 hc]) rfl
def FkB (L : List (Int × List Int)) : Prop := L.length <= 2000 /\ ∀ f ∈ L, f.1 ≠ 9 /\ f.2.length <= 100
def Qs7 (n : Nat) : List (List Int) := (upI n 0).flatMap fun m => (Qay n 2 0).filterMap (Qbj m)
def Qxy (n : Nat) : List (Int × List (List Int)) := [(1, Qay n 3 0), (2, Qau Qc8 (Qc5 n)), (3, Qau Qc9 (Qc5 n)), (4, Qau Qc9 (Qc5 n)), (5, Qs7 n), (6, Qay n 4 0), (8, Qay n 2 0)]
def Qbm (n : Nat) : List (Int × List Int) := (Qxy n).flatMap fun g => g.2.map fun l => (g.1, l)
instance : DecidablePred FkB := fun L => by unfold FkB; infer_instance
theorem Qxz : (Qbm 3).length = 13 /\ (Qbm 3)[0]? = some (1, [0, 1, 2]) := by decide +kernel
theorem Qx0 : (Qbm 4).length = 56 := by decide +kernel
theorem Quz {s t : Int × Int} : Qm Tryz.prog 11 [PV.pr s, PV.pr t] (· = .bool (Qc8 s t)) := by
 obtain ⟨a, b⟩ := s;obtain ⟨c, d⟩ := t;have hv : Qc8 (a, b) (c, d) = (decide (¬ a = c) && decide (¬ a = d) && decide (¬ b = c) && decide (¬ b = d)) := rfl;rw [hv];refine Qo Q1 Tryz.func11 rfl Qw9 (by simp [c11]) fun C hP =>?_; simp only [c11];by_cases h1 : a = c
 ·have q1 : decide (a = c) = true := decide_eq_true h1;have q1' : decide (¬ a = c) = false := decide_eq_false fun h => h h1;refine Sz2 q1 q1' ?_;exact Qk rfl rfl
 have q1 : decide (a = c) = false := decide_eq_false h1;have q1' : decide (¬ a = c) = true := decide_eq_true h1;by_cases h2 : a = d
 ·have q2 : decide (a = d) = true := decide_eq_true h2;have q2' : decide (¬ a = d) = false := decide_eq_false fun h => h h2;refine Sz4 q1 q1' q2 q2' ?_;exact Qk rfl rfl
 have q2 : decide (a = d) = false := decide_eq_false h2;have q2' : decide (¬ a = d) = true := decide_eq_true h2;by_cases h3 : b = c
 ·have q3 : decide (b = c) = true := decide_eq_true h3;have q3' : decide (¬ b = c) = false := decide_eq_false fun h => h h3;refine Sz6 q1 q1' q2 q2' q3 q3' ?_;exact Qk rfl rfl
 have q3 : decide (b = c) = false := decide_eq_false h3;have q3' : decide (¬ b = c) = true := decide_eq_true h3;refine Sz6 q1 q1' q2 q2' q3 q3' ?_;exact Qk (by simp) rfl
theorem Qpz {s t : Int × Int} : Qm Tryz.prog 12 [PV.pr s, PV.pr t] (· = .bool (Qc9 s t)) := by
 obtain ⟨a, b⟩ := s;obtain ⟨c, d⟩ := t;have hv : Qc9 (a, b) (c, d) = (decide (¬ a = c) || decide (¬ b = d)) := rfl;rw [hv];refine Qo Q1 Tryz.func12 rfl Qxa (by simp [c12]) fun C hP =>?_; simp only [c12];by_cases h1 : a = c
 ·have q1 : decide (a = c) = true := decide_eq_true h1;have q1' : decide (¬ a = c) = false := decide_eq_false fun h => h h1;refine Sz2 q1 q1' ?_;exact Qk (by simp) rfl
 have q1 : decide (a = c) = false := decide_eq_false h1;have q1' : decide (¬ a = c) = true := decide_eq_true h1;refine Sz2 q1 q1' ?_;exact Qk rfl rfl
structure Qs8 : Prop where
 ok : ∀ n : Nat, n < 8 -> Qm Tryz.prog 4 [.int .i64 n] (· = .tup [.sl 5 ((Qbm n).map PV.fct), .int .i64 0])
 neg : ∀ n : Int, n < 0 ∨ 40 < n -> Qm Tryz.prog 4 [.int .i64 n] (· = .tup [.sl 5 (([] : List (Int × List Int)).map PV.fct), .int .i64 2])
 large : ∀ n : Int, 10 < n -> n <= 40 -> Qm Tryz.prog 4 [.int .i64 n] (· = .tup [.sl 5 (([] : List (Int × List Int)).map PV.fct), .int .i64 4])
theorem Qp0 (hC : Qs8) : Qm Tryz.prog 8 [] (· = .bool true) := by
 have h3 := hC.ok 3 (by omega);have h4 := hC.ok 4 (by omega);obtain ⟨l3, a3⟩ := Qxz;have l4 := Qx0;have he := Qpy (f := (1, [0, 1, 2])) (g := (1, [0, 1, 2])) (by simp) (by simp) (by simp);generalize Qbm 3 = A at *
 generalize Qbm 4 = B at *
 obtain ⟨x, A', rfl⟩ : ∃ x A', A = x :: A' := by
  cases A with
  | nil => cases l3
  | cons x A' => exact ⟨x, A', rfl⟩
 simp at a3;subst a3;refine Qo Q1 Tryz.func8 rfl Qzb (by simp [c8]) fun C hP =>?_; simp only [c8];refine Sz0 ?_;refine Qe hP h3 rfl rfl rfl ?_;refine Sz0 ?_;refine Qe hP h4 rfl rfl rfl ?_;have q13 : decide (((A'.length + 1 : Nat) : Int) = 13) = true := decide_eq_true (by simp at l3; omega);have q56 : decide (((B.length : Nat) : Int) = 56) = true := decide_eq_true (by omega);have he2 := he.le (args' := [PV.fct (1, [0, 1, 2]), .agg [.int .i64 1, .sl 1 [.int .i64 0, .int .i64 1, .int .i64 2], .bool false, .nilS, .nilS]]) ⟨Qdq _, ⟨Qbq _, Qbq _, Qbq _, trivial, trivial, trivial⟩, trivial⟩
 repeat' first
  | rw [Qgt (by rfl) (by simp [PV.cells]) (by omega)]
  | (rw [Qnr (m := 3) (e := 1) (ty := 3) (xs := [.int .i64 0, .int .i64 1, .int .i64 2]) (fz := false) rfl Tz0 rfl]; refine ⟨⟨rfl, by decide⟩, ⟨rfl, by decide⟩, ?_⟩)
  | refine Qe hP he2 rfl rfl rfl ?_
  | simp +decide (disch := first | omega | rfl | (simp +decide only [go_sem, ↓reduceIte, q13, q56, Qbk, List.contains_cons, List.contains_nil, List.flatMap_cons, List.flatMap_nil, List.append_nil] <;> rfl) | fail) only [go_sem, ↓reduceIte, q13, q56, Qbk, List.contains_cons, List.contains_nil, List.flatMap_cons, List.flatMap_nil, List.append_nil]
 exact Qk rfl rfl
open Go Go.FW Go.RowKit Go.Shelf
theorem Qet {f : FuncId} {args : List PV} {R : PV -> Prop} (h : Qm Tryz.prog f args R) {vals : Array Value} {w : World} (hs : vals.size = args.length) (X : Nat -> Prop) (hX : ∀ b, X b -> b < w.heap.size) (hr : ∀ (i : Nat) (x : PV), args[i]? = some x -> Qn w X x (vals.getD i undef)) (n : Nat) :
  CallsIn Fence.wide n Tryz.prog f vals w fun e w' => ∃ v r, e = .returned v /\ Ext Qi w w' /\ Qa6 w' X r v /\ R r := callsIn_wide.2 (h.2 w X vals hX hs hr)
theorem Qi1 (n : Nat) (hn : n <= 100) (m : Nat) (w : World) : CallsIn Fence.wide m Tryz.prog 28 #[.int .i64 (n : Nat)] w fun e w' => ∃ a cap, e = .returned (.slice a (Qc5 n).length cap) /\ Ext Qi w w' /\
  ∀ i (h : i < (Qc5 n).length), ∃ b off, a = some ⟨b, off, none⟩ /\ b < w'.heap.size /\ w.heap.size <= b /\ (Qc5 n).length <= cap /\ w'.cell? ⟨b, off + i * 2, none⟩ = some (.int .i64 (Qc5 n)[i].1) /\ w'.cell? ⟨b, off + i * 2 + 1, none⟩ = some (.int .i64 (Qc5 n)[i].2) := by
 refine (Qet (Qns hn) rfl (fun b => b < w.heap.size) (fun _ h => h) (fun i x hx =>?_) m).mono fun e w' h =>?_
 ·match i, hx with
  | 0, hx => simp at hx; subst hx; exact Qd.int _ _
  | i + 1, hx => simp at hx
 ·obtain ⟨v, r, rfl, h1, h2, rfl⟩ := h;have h2' : Qd w' (fun b => b < w.heap.size) (.sl 2 ((Qc5 n).map PV.pr)) v := h2;generalize Qc5 n = S at *
  generalize hX : S.map PV.pr = X at h2';have hl : X.length = S.length := by rw [<- hX]; simp
  cases h2' with
  | slE _ a cap hc =>have : S = [] := List.length_eq_zero_iff.1 (by rw [<- hl]; rfl);subst this;exact ⟨a, cap, rfl, h1, fun i hi => by cases hi⟩
  | sl _ _ b off cap vs hX' hb hl' hc he hv hr =>
   refine ⟨_, cap, by rw [hl], h1, fun i hi => ⟨b, off, rfl, hb, by omega, by omega, ?_, ?_⟩⟩
   ·have hg : X[i]? = some (PV.pr S[i]) := by rw [<- hX, List.getElem?_map, List.getElem?_eq_getElem hi]; rfl
    have h3 := hv i (by omega) 0 (by omega);have h4 := hr i _ hg 0 _ rfl;generalize vs i 0 = u at h3 h4;cases h4;exact h3
   ·have hg : X[i]? = some (PV.pr S[i]) := by rw [<- hX, List.getElem?_map, List.getElem?_eq_getElem hi]; rfl
    have h3 := hv i (by omega) 1 (by omega);have h4 := hr i _ hg 1 _ rfl;generalize vs i 1 = u at h3 h4;cases h4;exact h3
theorem Qle (w : World) (p : Int × Int) : Qn w Qi (PV.pr p) (.agg #[.int .i64 p.1, .int .i64 p.2]) := by
 refine ⟨_, rfl, rfl, fun i x hx =>?_⟩
 match i, hx with
 | 0, hx => simp at hx; subst hx; exact Qd.int _ _
 | 1, hx => simp at hx; subst hx; exact Qd.int _ _
 | i + 2, hx => simp at hx
def Qnt (ft : FuncId) : Int × Int -> Int × Int -> Bool := if ft = 11 then Qc8 else Qc9
theorem Qia (ft : FuncId) (hft : ft = 11 ∨ ft = 12) (m : Nat) (s t : Int × Int) (w : World) :
  CallsIn Fence.wide m Tryz.prog ft #[.agg #[.int .i64 s.1, .int .i64 s.2], .agg #[.int .i64 t.1, .int .i64 t.2]] w fun e w' => e = .returned (.bool (Qnt ft s t)) /\ Ext Qi w w' := by
 have h : Qm Tryz.prog ft [PV.pr s, PV.pr t] (· = .bool (Qnt ft s t)) := by
  rcases hft with rfl | rfl
  ·exact Quz
  ·exact Qpz
 refine (Qet h rfl Qi (fun _ h => h.elim) (fun i x hx =>?_) m).mono fun e w' h =>?_
 ·match i, hx with
  | 0, hx => simp at hx; subst hx; exact Qle w s
  | 1, hx => simp at hx; subst hx; exact Qle w t
  | i + 2, hx => simp at hx
 ·obtain ⟨v, r, rfl, h1, h2, rfl⟩ := h;cases h2;exact ⟨rfl, h1⟩
open Go Go.FW Go.RowKit
theorem Qsn (n : Nat) : Qhk n (Qc5 n) = Qbm n := by
 have h : upI n 0 = List.range' 0 n := by unfold upI; simp
 unfold Qhk Qbm Qe3 Qxy Qs7;rw [h]
theorem Qu0 : ∀ n, n < 8 -> (Qc5 n).length <= 400 := by decide +kernel
theorem Qso : ∀ n, n < 8 -> (Qbm n).length <= 100000 := by decide +kernel
theorem Qz9 (n : Nat) (hn : n < 8) : Qmi n (Qc5 n) := by
 refine ⟨Qu0 n hn, fun m w => Qi1 n (by omega) m w, fun m s1 s2 t1 t2 w =>?_, fun m s1 s2 t1 t2 w =>?_⟩
 ·have h := Qia 11 (.inl rfl) m (s1, s2) (t1, t2) w;have e : Qnt 11 = Qc8 := if_pos rfl;rw [e] at h;exact h
 ·have h := Qia 12 (.inr rfl) m (s1, s2) (t1, t2) w;have e : Qnt 12 = Qc9 := if_neg (by decide);rw [e] at h;exact h
theorem Qs9 : ∀ (L : List (Int × List Int × Value)) (i : Nat) (x : Int × List Int × Value) (j : Nat), L[i]? = some x -> j < 5 -> (L.flatMap Qa0)[i * 5 + j]? = (Qa0 x)[j]?
 | [], i, x, j, h, _ => by simp at h
 | y :: L, 0, x, j, h, hj => by simp at h; subst h;rw [List.flatMap_cons, List.getElem?_append_left (by simp [Qa0]; omega)];simp
 | y :: L, i + 1, x, j, h, hj => by
  rw [List.flatMap_cons, List.getElem?_append_right (by simp [Qa0]; omega)];have e : (i + 1) * 5 + j - (Qa0 y).length = i * 5 + j := by simp [Qa0]; omega
  rw [e];exact Qs9 L i x j (by simpa using h) hj
theorem Qsp {w : World} {X : Nat -> Prop} {v : Value} {c : List Int} (h : SlI eI v c w) (hX : ∀ b, v.ownBlock = some b -> ¬ X b) : Qd w X (PV.mono c) v := by
 rcases h.2 with ⟨rfl, h0⟩ | ⟨g, cap, cur, rfl, _, hg, h1, h2, _, _⟩
 ·have : c = [] := List.length_eq_zero_iff.1 h0;subst this;exact Qd.slE 1 none 0 (Nat.zero_le _)
 ·have hl : (c.map (PV.int .i64)).length = c.length := by simp
  have hc := h.cells (g := g) rfl;show Qd w X (.sl 1 (c.map (PV.int .i64))) _;rw [<- hl];refine Qd.sl 1 _ g 0 cap (fun i _ =>.int .i64 (c.getD i 0)) (hX g rfl) (Array.getElem?_eq_some_iff.1 hg).1 (by simpa using h1) h2 (fun i x hx =>?_) (fun i hi j hj =>?_) (fun i x hx j y hy =>?_)
  ·rw [List.getElem?_map] at hx;cases hci : c[i]? with
   | none => rw [hci] at hx; cases hx
   | some a => rw [hci] at hx; cases hx; rfl
  ·have hi' : i < c.length := by simpa using hi
   have hj0 : j = 0 := by omega
   subst hj0;have := hc i (.int .i64 c[i]) (by simp [hi']);have e : (⟨g, 0, none⟩ : Addr).add i = ⟨g, 0 + i * 1 + 0, none⟩ := by unfold Addr.add; split <;> simp_all
   rw [e] at this;rw [this];simp [hi']
  ·rw [List.getElem?_map] at hx;cases hci : c[i]? with
   | none => rw [hci] at hx; cases hx
   | some a =>
    rw [hci] at hx; cases hx
    match j, hy with
    | 0, hy =>simp [PV.cells] at hy;subst hy;simp [hci];exact Qd.int _ _
    | j + 1, hy => simp [PV.cells] at hy
theorem Qu1 {w w' : World} {X : Nat -> Prop} (hX : ∀ b, X b -> b < w.heap.size) {base : Nat} (hb : w.heap.size < base) {L : List (Int × List Int × Value)} {vo : Value} (hr : w'.ownsRow base 35 5 vo L.length (L.flatMap Qa0)) (ha : ∀ x ∈ L, SlI eI x.2.2 x.2.1 w' /\ ∀ b, x.2.2.ownBlock = some b -> base <= b) :
  Qd w' X (.sl 5 ((L.map fun x => (x.1, x.2.1)).map PV.fct)) vo := by
 have hr0 := hr;rcases hr.2 with ⟨rfl, h0⟩ | ⟨g, cap, cur, rfl, hbg, hg, h1, h2, _, _⟩
 ·have : L = [] := List.length_eq_zero_iff.1 h0;subst this;exact Qd.slE 5 none 0 (Nat.zero_le _)
 ·have hl : ((L.map fun x => (x.1, x.2.1)).map PV.fct).length = L.length := by simp
  rw [show Value.slice (some ⟨g, 0, none⟩) L.length cap = Value.slice (some ⟨g, 0, none⟩) ((L.map fun x => (x.1, x.2.1)).map PV.fct).length cap by rw [hl]];have hget : ∀ (i : Nat) (x : PV), ((L.map fun x => (x.1, x.2.1)).map PV.fct)[i]? = some x -> ∃ z, L[i]? = some z /\ x = PV.fct (z.1, z.2.1) := fun i x hx => by
   rw [List.map_map, List.getElem?_map] at hx;cases hz : L[i]? with
   | none => rw [hz] at hx; cases hx
   | some z => rw [hz] at hx; cases hx; exact ⟨z, rfl, rfl⟩
  refine Qd.sl 5 _ g 0 cap (fun i j => ((L[i]?.map Qa0).getD []).getD j undef) (fun h => by have := hX g h; omega) (Array.getElem?_eq_some_iff.1 hg).1 (by rw [hl]; exact h1) h2 (fun i x hx =>?_) (fun i hi j hj =>?_) (fun i x hx j y hy =>?_)
  ·obtain ⟨z, _, rfl⟩ := hget i x hx;rfl
  ·rw [hl] at hi;have hz : L[i]? = some L[i] := List.getElem?_eq_getElem hi;have h3 := hr0.cellAt (i * 5 + j) (by omega);rw [show (0 : Nat) + i * 5 + j = i * 5 + j by omega, h3, Qs9 L i _ j hz hj, hz];have hj5 : j < (Qa0 L[i]).length := by simpa [Qa0] using hj
   simp [hj5]
  ·obtain ⟨z, hz, rfl⟩ := hget i x hx;have hm := ha z (List.mem_of_getElem? hz);simp only [hz, Option.map_some, Option.getD_some]
   match j, hy with
   | 0, hy => simp [PV.cells] at hy; subst hy; exact Qd.int _ _
   | 1, hy =>simp [PV.cells] at hy; subst hy;exact Qsp hm.1 fun b hb' h => by have := hX b h; have := hm.2 b hb'; omega
   | 2, hy => simp [PV.cells] at hy; subst hy; exact Qd.bool _
   | 3, hy => simp [PV.cells] at hy; subst hy; exact Qd.slE 1 none 0 (Nat.zero_le _)
   | 4, hy => simp [PV.cells] at hy; subst hy; exact Qd.slE 1 none 0 (Nat.zero_le _)
   | j + 5, hy => simp [PV.cells] at hy
theorem Qi2 {w : World} {X : Nat -> Prop} {L : List PV} {v : Value} {k : Int} (h : Qd w X (.sl 5 L) v) : Qa6 w X (.tup [.sl 5 L, .int .i64 k]) (.tuple #[v, .int .i64 k]) := by
 refine ⟨_, rfl, rfl, fun i x hx =>?_⟩
 match i, hx with
 | 0, hx => simp at hx; subst hx; exact h
 | 1, hx => simp at hx; subst hx; exact Qd.int _ _
 | i + 2, hx => simp at hx
theorem Qi3 {vals : Array Value} {n : Int} (h1 : vals.size = ([PV.int .i64 n] : List PV).length) {w : World} {X : Nat -> Prop} (h2 : ∀ (i : Nat) (x : PV), ([PV.int .i64 n] : List PV)[i]? = some x -> Qn w X x (vals.getD i undef)) : vals = #[.int .i64 n] := by
 have h0 := h2 0 (.int .i64 n) rfl;obtain ⟨v, rfl⟩ : ∃ v, vals = #[v] := by
  obtain ⟨l⟩ := vals
  match l, h1 with
  | [v], _ => exact ⟨v, rfl⟩
 have h1 : Qd w X (.int .i64 n) v := h0;cases h1;rfl
theorem Qnu : Qs8 := by
 refine ⟨fun n hn => ⟨by unfold Qdi; kernel_rfl, fun w X vals hX hs hr =>?_⟩, fun n hn => ⟨by unfold Qdi; kernel_rfl, fun w X vals hX hs hr =>?_⟩, fun n h1 h2 => ⟨by unfold Qdi; kernel_rfl, fun w X vals hX hs hr =>?_⟩⟩
 ·rw [Qi3 hs hr];have hl := Qso n hn;rw [<- Qsn n] at hl ⊢;refine callsIn_wide.1 ((Qtd n (by omega) (Qc5 n) (Qz9 n hn) hl 0 w).mono fun e w' h =>?_);obtain ⟨vo, rfl, L, base, h1, h2, h3, h4, h5⟩ := h;rw [<- h1];exact ⟨_, _, rfl, h2, Qi2 (Qu1 hX h3 h4 h5), rfl⟩
 ·rw [Qi3 hs hr];refine callsIn_wide.1 ((Qqf n hn 0 w).mono fun e w' h =>?_);obtain ⟨rfl, rfl⟩ := h;exact ⟨_, _, rfl, Ext.refl _ _, Qi2 (Qd.slE 5 none 0 (Nat.zero_le _)), rfl⟩
 ·rw [Qi3 hs hr];refine callsIn_wide.1 ((Qmk n h1 h2 0 w).mono fun e w' h =>?_);obtain ⟨rfl, rfl⟩ := h;exact ⟨_, _, rfl, Ext.refl _ _, Qi2 (Qd.slE 5 none 0 (Nat.zero_le _)), rfl⟩
theorem Qf3 (x : Int) : Qm Tryz.prog 30 [.int .i64 x] (· = .bool false) := by refine Qo Q1 Tryz.func30 rfl Qxk (by simp [c30]) fun C hP =>?_; simp only [c30];refine Sz1 @not_true_eq_false ?_;exact Qk rfl rfl
theorem Qp1 (x y : Int) : Qm Tryz.prog 92 [.int .i64 x, .int .i64 y] (· = .bool (decide (x < y))) := by refine Qo Q1 Tryz.func92 rfl Qxj (by simp [c92]) fun C hP =>?_; simp only [c92];refine Sz0 ?_;refine Qe hP (Qf3 x) rfl rfl rfl ?_;refine Sz0 ?_;exact Qk rfl rfl
theorem Qnv {x : Nat} (h : x < 256) : Qm Tryz.prog 96 [.int .u64 x] (· = .int .i64 (Lib.bitLen x : Nat)) :=
 Qlq (by simp [Qdi]; exact ⟨rfl, by decide⟩) (fun w => Qlu x w (by omega) (by omega)) (fun _ _ => Qd.int _ _)
theorem Qsq {x : Nat} (h : x < 256) : Qm Tryz.prog 76 [.int .u64 x] (· = .int .i64 (Lib.bitLen x : Nat)) := by refine Qo Q1 Tryz.func76 rfl Qxl (by simp [c76]) fun C hP =>?_; simp only [c76];refine Sz0 ?_;refine Qe hP (Qnv h) rfl rfl rfl ?_;refine Sz0 ?_;exact Qk rfl rfl
abbrev Qhe (xs : List Int) (r : PV) (xs' : List PV) : Prop := r = .tup [] /\ ∃ ys : List Int, xs' = Qce ys /\ ys.Perm xs /\ Srt ys
theorem Qgl {xs : List Int} (h0 : 0 < xs.length) (hl : xs.length <= 2 ^ 30) :
  Qfj Tryz.prog 86 [.mso B0 0 xs.length, .int .i64 0, .int .i64 xs.length] 3 (Qce xs) (Qhe xs) := by
 refine Qgi Q1 Tryz.func86 rfl Qxi (by simp [c86]) fun C hP =>?_; simp only [c86];refine Sz0 ?_;refine Qas (by repeat (first | exact Qam | exact Qac | exact Qad | exact Qae | exact Qaf | apply Qab | apply Qal | apply Qaw | apply Qa8 | apply Qa9 | apply Q7)) [(6, 7), (10, 48)] [] (fun m J hp => ∃ i S Cc, m = xs.length - i /\ i <= xs.length /\ 1 <= i /\ S.length = i /\ (S ++ Cc).Perm xs /\ Srt S /\ J 6 = .int .i64 (i : Nat) /\ hp 1000000 = some ⟨1, 3, Qce (S ++ Cc), false⟩) (xs.length - 1) ?_ ?_
 ·obtain _ | ⟨x, xs⟩ := xs
  ·simp at h0
  refine ⟨1, [x], xs, rfl, by simp, by omega, rfl, List.Perm.refl _, by simp, ?_⟩;refine Sz0 ?_;rfl
 rintro _ J h ⟨i, S, Cc, rfl, hi, hi1, hSl, hperm, hS, h6, hh⟩;have hlen := hperm.length_eq;rw [List.length_append] at hlen;refine Sz1 h6 ?_;refine Q3 (fun hg =>?_) (fun hg =>?_)
 ·obtain _ | ⟨x, Cc⟩ := Cc
  ·simp at hlen; omega
  refine Sz1 h6 ?_;refine Qas (by repeat (first | exact Qam | exact Qac | exact Qad | exact Qae | exact Qaf | apply Qab | apply Qal | apply Qaw | apply Qa8 | apply Qa9 | apply Q7)) [(7, 7), (16, 48)] [] (fun m J hp => ∃ A B, m = A.length /\ A.length + B.length = i /\ (A ++ x :: (B ++ Cc)).Perm xs /\ Srt (A ++ B) /\ (∀ b ∈ B, x <= b) /\ J 7 = .int .i64 (A.length : Nat) /\ hp 1000000 = some ⟨1, 3, Qce (A ++ x :: (B ++ Cc)), false⟩) i ?_ ?_
  ·refine ⟨S, [], hSl.symm, by simpa using hSl, by simpa using hperm, by simpa using hS, by simp, ?_⟩;refine Sz1 hh ?_;rw [hSl]
  rintro _ J2 h2 ⟨A, B, rfl, hAB, hp2, hs2, hB, h7, hh2⟩;have hl2 := hp2.length_eq;refine Sz1 h7 ?_;refine Qlo (fun hg2 =>?_) (fun hg2 =>?_)
  ·obtain ⟨A', a, rfl⟩ : ∃ A' a, A = A' ++ [a] := by
    rcases List.eq_nil_or_concat A with h | ⟨A', a, h⟩
    ·subst h; simp at hg2
    ·exact ⟨A', a, by simpa using h⟩
   obtain ⟨j, hj⟩ : ∃ j, A'.length = j := ⟨_, rfl⟩
   have hA1 : (A' ++ [a]).length = j + 1 := by simp [hj]
   have hcc : A' ++ [a] ++ x :: (B ++ Cc) = A' ++ a :: x :: (B ++ Cc) := by simp
   rw [hA1] at h7 hAB;rw [hcc] at hh2 hl2 hp2;rw [hA1];have hL1 : j + 1 < (A' ++ a :: x :: (B ++ Cc)).length := by simp; omega
   have hL0 : j < (A' ++ a :: x :: (B ++ Cc)).length := by omega
   have g1 := Qsc hj hL1;have g0 := Quq hj hL0;have hsw := Qsd (R := B ++ Cc) (a := a) (x := x) hj;have e : ((j + 1 : Nat) : Int) - 1 = j := by omega
   generalize hLL : A' ++ a :: x :: (B ++ Cc) = L at *
   refine Sz5 h7 hh2 e g0 g1 ?_;refine Qe hP (Qp1 x a) rfl rfl rfl ?_;refine Sz5 h7 hh2 e g0 g1 ?_;refine Q3 (fun hc =>?_) (fun hc =>?_)
   ·have hset1 : j + 1 < (L.set (j + 1) a).length := by simpa using hL1
    simp +decide (disch := first | omega | rfl | (simp +decide only [go_sem, ↓reduceIte, h7, hh2, e, g0, g1, List.length_set] <;> rfl) | fail) only [go_sem, ↓reduceIte, h7, hh2, e, g0, g1, List.length_set];refine Q9 j (by omega) ⟨A', a :: B, hj.symm, by simp; omega, ?_, by simpa using hs2, ?_, ?_⟩
    ·refine List.Perm.trans ?_ hp2;rw [<- hLL];exact List.Perm.append_left _ (List.Perm.swap ..)
    ·intro b hb;rcases List.mem_cons.1 hb with rfl | hb
     ·omega
     ·exact hB b hb
    ·rw [hsw];exact Tz1 hj
   ·have hsr := Qh8 hs2 (x := x) (fun c hc => by simp only [List.getLast?_append, List.getLast?_singleton, Option.some_or, Option.some.injEq] at hc;omega) hB;refine Sz2 h7 h6 ?_;simp (disch := decide) only [Qcs, Qgs];refine Q9 (xs.length - (i + 1)) (by omega) ⟨i + 1, A' ++ [a] ++ x :: B, Cc, rfl, by omega, by omega, by simp; omega, ?_, hsr, ?_⟩
    ·rw [show A' ++ [a] ++ x :: B ++ Cc = L by rw [<- hLL]; simp]; exact hp2
    ·rw [show A' ++ [a] ++ x :: B ++ Cc = L by rw [<- hLL]; simp];exact Tz1 hh2
  ·obtain rfl : A = [] := List.length_eq_zero_iff.1 (by omega);have hsr := Qh8 hs2 (x := x) (by simp) hB;refine Sz2 h7 h6 ?_;simp (disch := decide) only [Qcs, Qgs];refine Q9 (xs.length - (i + 1)) (by omega) ⟨i + 1, [] ++ x :: B, Cc, rfl, by omega, by omega, by simp at hAB ⊢; omega, by simpa using hp2, hsr, ?_⟩;exact Tz1 hh2
 ·obtain rfl : Cc = [] := List.length_eq_zero_iff.1 (by omega);rw [List.append_nil] at hperm hh;refine Sz1 hh ?_;refine Qk4 hh (Qc4 _) ?_ ⟨rfl, S, rfl, hperm, hS⟩;simp; omega
theorem Qsr {xs : List Int} {lim : Int} (h0 : 0 < xs.length) (hl : xs.length <= 12) :
  Qfj Tryz.prog 75 [.mso B0 0 xs.length, .int .i64 0, .int .i64 xs.length, .int .i64 lim] 3 (Qce xs) (Qhe xs) := by
 refine Qgi Q1 Tryz.func75 rfl Qxh (by simp [c75]) fun C hP =>?_; simp only [c75];refine Sz0 ?_;refine Qas (by repeat (first | exact Qam | exact Qac | exact Qad | exact Qae | exact Qaf | apply Qab | apply Qal | apply Qaw | apply Qa8 | apply Qa9 | apply Q7)) [(1, 3), (8, 133)] [] (fun m J hp => J 1 = .int .i64 0 /\ J 2 = .int .i64 xs.length /\ hp 1000000 = some ⟨1, 3, Qce xs, false⟩) 1 ?_ ?_
 ·exact Tz0
 rintro m J h ⟨h1, h2, hh⟩;refine Sz3 h1 h2 @Int.sub_zero ?_;refine Q3 (fun _ =>?_) (fun h => by omega);refine Sz3 h1 h2 hh ?_;refine Qk3 hP (Qgl h0 (by omega)) (β := 1000000) (Tz1 hh) (Qc4 _) (by simp; omega) (by simp [toB, B0]) rfl ?_;rintro r xs' _ _ ⟨rfl, ys, rfl, hp2, hs2⟩;simp +decide (disch := first | omega | rfl | (simp +decide only [go_sem, ↓reduceIte, Qed] <;> rfl) | fail) only [go_sem, ↓reduceIte, Qed];refine Qk4 Tz0 (Qc4 _) ?_ ⟨rfl, ys, rfl, hp2, hs2⟩;have := hp2.length_eq;simp; omega
theorem Qp2 {xs : List Int} (h0 : 0 < xs.length) (hl : xs.length <= 12) :
  Qfj Tryz.prog 64 [.mso B0 0 xs.length] 3 (Qce xs) (Qhe xs) := by
 refine Qgi Q1 Tryz.func64 rfl Qxg (by simp [c64]) fun C hP =>?_; simp only [c64];refine Sz0 ?_;refine Qe hP (Qsq (x := xs.length) (by omega)) rfl rfl rfl ?_;refine Sz0 ?_;refine Qk3 hP (Qsr (lim := (Lib.bitLen xs.length : Nat)) h0 hl) (β := 1000000) Tz0 (Qc4 _) (by simp; omega) (by simp [toB, B0]) rfl ?_;rintro r xs' _ _ ⟨rfl, ys, rfl, hp2, hs2⟩;simp +decide (disch := first | omega | rfl | (simp +decide only [go_sem, ↓reduceIte, Qed] <;> rfl) | fail) only [go_sem, ↓reduceIte, Qed];refine Qk4 Tz0 (Qc4 _) ?_ ⟨rfl, ys, rfl, hp2, hs2⟩;have := hp2.length_eq;simp; omega
theorem Qnw {l : List Int} {x : Int} (hl : l.length <= 2 ^ 36) : Qm Tryz.prog 65 [PV.mono l, .int .i64 x] (· = .int .i64 (Qf1 (fun y => decide (x = y)) l)) := by
 refine Qo Q1 Tryz.func65 rfl Qxf (by simp [c65]) fun C hP =>?_; simp only [c65];refine Sz0 ?_;refine Qas (by repeat (first | exact Qam | exact Qac | exact Qad | exact Qae | exact Qaf | apply Qab | apply Qal | apply Qaw | apply Qa8 | apply Qa9 | apply Q7)) [(4, 5), (8, 18)] [] (fun n J hp => ∃ i, n = l.length - i /\ i <= l.length /\ (∀ j (h : j < l.length), j < i -> (fun y => decide (x = y)) l[j] = false) /\ J 8 = .int .i64 (i : Nat)) l.length ?_ ?_
 ·refine ⟨0, rfl, by omega, by omega, ?_⟩;refine Sz0 ?_;rfl
 rintro _ J h ⟨i, rfl, hi, h1, h8⟩;refine Sz1 h8 ?_;refine Q3 (fun hg =>?_) (fun hg =>?_)
 ·have hi' : i < l.length := by omega
  have hat := fun h => Qsa (g := fun y => decide (x = y)) hi' h h1;have hadd : (fun y => decide (x = y)) l[i] = false -> ∀ j (h : j < l.length), j < i + 1 -> (fun y => decide (x = y)) l[j] = false := fun h j hj hji => by
   by_cases e : j = i
   ·subst e; exact h
   ·exact h1 j hj (by omega)
  generalize hx : l[i] = y at *
  refine Sz2 h8 hx ?_;refine Q3 (fun hc =>?_) (fun hc =>?_)
  ·refine Sz0 ?_;exact Qk (by rw [hat (decide_eq_true hc)]) rfl
  ·refine Sz1 h8 ?_;refine Q9 (l.length - (i + 1)) (by omega) ⟨i + 1, rfl, by omega, hadd (decide_eq_false hc), ?_⟩;exact Tz0
 ·obtain rfl : i = l.length := by omega
  refine Sz0 ?_;exact Qk (by rw [Qnm (fun j hj => h1 j hj hj)]) rfl
theorem Qju {l : List Int} {x : Int} (hl : l.length <= 2 ^ 36) : Qm Tryz.prog 43 [PV.mono l, .int .i64 x] (· = .bool (decide (x ∈ l))) := by
 refine Qo Q1 Tryz.func43 rfl Qxe (by simp [c43]) fun C hP =>?_; simp only [c43];refine Sz0 ?_;refine Qe hP (Qnw hl) rfl rfl rfl ?_;refine Sz0 ?_;refine Qk (congrArg PV.bool ?_) rfl;rw [Qpm];cases h : decide (x ∈ l) with
 | true => rw [List.any_eq_true]; exact ⟨x, of_decide_eq_true h, decide_eq_true rfl⟩
 | false => rw [List.any_eq_false]; intro y hy h2; have := of_decide_eq_true h2; subst this; exact of_decide_eq_false h hy
theorem Qe1 {a b : Int} : Qm Tryz.prog 15 [.int .i64 a, .int .i64 b] (· = .int .i64 (Qaz a b)) := by
 have h1 := Qf3 a;have h2 := Qf3 b;refine Qo Q1 Tryz.func15 rfl Qxm (by simp [c15]) fun C hP =>?_; simp only [c15];refine Sz0 ?_;refine Qe hP h1 rfl rfl rfl ?_;refine Sz0 ?_;refine Qe hP h2 rfl rfl rfl ?_;refine Sz0 ?_;refine Q3 (fun h =>?_) (fun h =>?_)
 ·refine Sz0 ?_;exact Qk (by simp [Qaz, h]) rfl
 refine Sz0 ?_;refine Q3 (fun h2 =>?_) (fun h2 =>?_)
 ·refine Sz0 ?_;exact Qk (by simp [Qaz, h, h2]) rfl
 refine Sz0 ?_;exact Qk (by simp [Qaz, h, h2]) rfl
def orI (a b : Int) : Int := if a = 0 then b else a
theorem Qx1 {a b : Int} : Qm Tryz.prog 14 [PV.mono [a, b]] (· = .int .i64 (orI a b)) := by
 have e0 : decide ((0 : Int) < 2) = true := rfl;have e1 : decide ((1 : Int) < 2) = true := rfl;have e2 : decide ((2 : Int) < 2) = false := rfl;by_cases h1 : a = 0
 ·subst h1;by_cases h2 : b = 0
  ·subst h2;refine Qo Q1 Tryz.func14 rfl Qlc (by simp [c14]) fun C hP =>?_; simp only [c14];refine Sz0 ?_;refine Qas (by repeat (first | exact Qam | exact Qac | exact Qad | exact Qae | exact Qaf | apply Qab | apply Qal | apply Qaw | apply Qa8 | apply Qa9 | apply Q7 | apply Qao)) [(2, 2), (5, 5), (8, 16)] [] (fun m J hp => ∃ i : Nat, m = 2 - i /\ i <= 2 /\ J 3 = .int .i64 0 /\ J 8 = .int .i64 (i : Nat)) 2 ?_ ?_
   ·refine ⟨0, rfl, by omega, ?_⟩;refine Sz0 ?_
    try (first | rfl | exact ⟨rfl, rfl⟩)
   rintro _ J h ⟨i, rfl, hi, j3, j8⟩;refine Sz1 j8 ?_;refine Q3 (fun hg =>?_) (fun hg =>?_)
   ·match i, hg, j8 with
    | 0, hg, j8 =>
     simp +decide (disch := first | omega | rfl | (simp +decide only [go_sem, ↓reduceIte, j3, j8, List.getElem_cons_zero, List.getElem_cons_succ, not_true_eq_false] <;> rfl) | fail) only [go_sem, ↓reduceIte, j3, j8, List.getElem_cons_zero, List.getElem_cons_succ, not_true_eq_false];refine Q9 (2 - 1) (by omega) ⟨1, rfl, by omega, ?_⟩;refine Sz1 j3 ?_
     try (first | rfl | trivial)
    | 1, hg, j8 =>
     simp +decide (disch := first | omega | rfl | (simp +decide only [go_sem, ↓reduceIte, j3, j8, List.getElem_cons_zero, List.getElem_cons_succ, not_true_eq_false] <;> rfl) | fail) only [go_sem, ↓reduceIte, j3, j8, List.getElem_cons_zero, List.getElem_cons_succ, not_true_eq_false];refine Q9 (2 - 2) (by omega) ⟨2, rfl, by omega, ?_⟩;refine Sz1 j3 ?_
     try (first | rfl | trivial)
    | i + 2, hg, j8 => omega
   ·refine Sz2 j3 j8 ?_;exact Qk rfl rfl
  ·have q2 : decide (¬ b = 0) = true := decide_eq_true h2;refine Qo Q1 Tryz.func14 rfl Qlc (by simp [c14]) fun C hP =>?_; simp only [c14];refine Sz0 ?_;refine Qas (by repeat (first | exact Qam | exact Qac | exact Qad | exact Qae | exact Qaf | apply Qab | apply Qal | apply Qaw | apply Qa8 | apply Qa9 | apply Q7 | apply Qao)) [(2, 2), (5, 5), (8, 16)] [] (fun m J hp => ∃ i : Nat, m = 2 - i /\ i <= 1 /\ J 3 = .int .i64 0 /\ J 8 = .int .i64 (i : Nat)) 2 ?_ ?_
   ·refine ⟨0, rfl, by omega, ?_⟩;refine Sz0 ?_
    try (first | rfl | exact ⟨rfl, rfl⟩)
   rintro _ J h ⟨i, rfl, hi, j3, j8⟩;refine Sz1 j8 ?_;refine Q3 (fun hg =>?_) (fun hg =>?_)
   ·match i, hg, j8 with
    | 0, hg, j8 =>
     simp +decide (disch := first | omega | rfl | (simp +decide only [go_sem, ↓reduceIte, j3, j8, List.getElem_cons_zero, List.getElem_cons_succ, not_true_eq_false] <;> rfl) | fail) only [go_sem, ↓reduceIte, j3, j8, List.getElem_cons_zero, List.getElem_cons_succ, not_true_eq_false];refine Q9 (2 - 1) (by omega) ⟨1, rfl, by omega, ?_⟩;refine Sz1 j3 ?_
     try (first | rfl | trivial)
    | 1, hg, j8 =>simp +decide (disch := first | omega | rfl | (simp +decide only [go_sem, ↓reduceIte, j3, j8, q2, List.getElem_cons_zero, List.getElem_cons_succ] <;> rfl) | fail) only [go_sem, ↓reduceIte, j3, j8, q2, List.getElem_cons_zero, List.getElem_cons_succ];exact Qk (by simp [orI]) rfl
    | i + 2, hg, j8 => omega
   ·omega
 ·have q1 : decide (¬ a = 0) = true := decide_eq_true h1;refine Qo Q1 Tryz.func14 rfl Qlc (by simp [c14]) fun C hP =>?_; simp only [c14];refine Sz0 ?_;refine Qas (by repeat (first | exact Qam | exact Qac | exact Qad | exact Qae | exact Qaf | apply Qab | apply Qal | apply Qaw | apply Qa8 | apply Qa9 | apply Q7 | apply Qao)) [(2, 2), (5, 5), (8, 16)] [] (fun m J hp => m = 2 /\ J 3 = .int .i64 0 /\ J 8 = .int .i64 0) 2 ?_ ?_
  ·refine Sz0 ?_
   try (first | rfl | exact ⟨rfl, rfl⟩ | trivial)
  rintro _ J h ⟨rfl, j3, j8⟩;simp +decide (disch := first | omega | rfl | (simp +decide only [go_sem, ↓reduceIte, j3, j8, q1, List.getElem_cons_zero, List.getElem_cons_succ] <;> rfl) | fail) only [go_sem, ↓reduceIte, j3, j8, q1, List.getElem_cons_zero, List.getElem_cons_succ];exact Qk (by simp [orI, h1]) rfl
def Qcu : List Int -> List Int -> Int
 | [], [] => 0
 | [], _ :: _ => -1
 | _ :: _, [] => 1
 | a :: l, b :: m => if Qaz a b = 0 then Qcu l m else Qaz a b
theorem Qp3 {l m : List Int} {i : Nat} (h1 : i < l.length) (h2 : i < m.length) : Qcu (l.drop i) (m.drop i) = if Qaz l[i] m[i] = 0 then Qcu (l.drop (i + 1)) (m.drop (i + 1)) else Qaz l[i] m[i] := by rw [List.drop_eq_getElem_cons h1, List.drop_eq_getElem_cons h2, Qcu]
theorem Qp4 {l m : List Int} (hl : l.length <= 100) (hm : m.length <= 100) : Qm Tryz.prog 16 [PV.mono l, PV.mono m] (· = .int .i64 (Qcu l m)) := by
 have hc := fun a b => Qe1 (a := a) (b := b);refine Qo Q1 Tryz.func16 rfl Qxn (by simp [c16]) fun C hP =>?_; simp only [c16];refine Sz0 ?_;refine Qas (by repeat (first | exact Qam | exact Qac | exact Qad | exact Qae | exact Qaf | apply Qab | apply Qal | apply Qaw | apply Qa8 | apply Qa9 | apply Q7 | apply Qao)) [(4, 8), (11, 30)] [] (fun k J hp => ∃ i, k = l.length - i /\ i <= l.length /\ i <= m.length /\ Qcu (l.drop i) (m.drop i) = Qcu l m /\ J 11 = .int .i64 (i : Nat)) l.length ?_ ?_
 ·refine ⟨0, rfl, by omega, by omega, rfl, ?_⟩;refine Sz0 ?_
  try (first | rfl | trivial)
 rintro _ J h ⟨i, rfl, hi, hi2, htk, j11⟩;by_cases c1 : i < l.length
 ·have e1 : decide ((i : Int) < (l.length : Int)) = true := decide_eq_true (by omega);by_cases c2 : i < m.length
  ·have e2 : decide ((i : Int) ≥ (m.length : Int)) = false := decide_eq_false (by omega);have e3 : decide ((m.length : Int) <= (i : Int)) = false := decide_eq_false (by omega);have hd := Qp3 c1 c2;rw [htk] at hd;generalize hx : l[i] = x at *
   generalize hy : m[i] = y at *
   by_cases ho : Qaz x y = 0
   ·have q : decide (¬ Qaz x y = 0) = false := decide_eq_false fun h => h ho;rw [if_pos ho] at hd;refine Sz6 j11 e1 e2 e3 hx hy ?_;refine Qe hP (hc x y) rfl rfl rfl ?_;refine Sz7 j11 e1 e2 e3 hx hy q ?_;refine Q9 (l.length - (i + 1)) (by omega) ⟨i + 1, rfl, by omega, by omega, hd.symm, ?_⟩;refine Sz0 ?_
    try trivial
   ·have q : decide (¬ Qaz x y = 0) = true := decide_eq_true ho;rw [if_neg ho] at hd;refine Sz6 j11 e1 e2 e3 hx hy ?_;refine Qe hP (hc x y) rfl rfl rfl ?_;refine Sz7 j11 e1 e2 e3 hx hy q ?_;exact Qk (by rw [hd]) rfl
  ·have e2 : decide ((i : Int) ≥ (m.length : Int)) = true := decide_eq_true (by omega);have e3 : decide ((m.length : Int) <= (i : Int)) = true := decide_eq_true (by omega);generalize hx : l[i] = x at *
   have hv : Qcu l m = 1 := by rw [<- htk, List.drop_eq_nil_of_le (Nat.le_of_not_lt c2), List.drop_eq_getElem_cons c1]; rfl
   refine Sz5 j11 e1 e2 e3 hx ?_;exact Qk (by rw [hv]) rfl
 ·have e1 : decide ((i : Int) < (l.length : Int)) = false := decide_eq_false (by omega);have hd : l.drop i = [] := List.drop_eq_nil_of_le (Nat.le_of_not_lt c1);rw [hd] at htk;by_cases c2 : l.length < m.length
  ·have e2 : decide ((l.length : Int) < (m.length : Int)) = true := decide_eq_true (by omega);have hv : Qcu l m = -1 := by rw [<- htk, List.drop_eq_getElem_cons (show i < m.length by omega)]; rfl
   refine Sz3 j11 e1 e2 ?_;exact Qk (by rw [hv]) rfl
  ·have e2 : decide ((l.length : Int) < (m.length : Int)) = false := decide_eq_false (by omega);have hv : Qcu l m = 0 := by rw [<- htk, List.drop_eq_nil_of_le (show m.length <= i by omega)]; rfl
   refine Sz3 j11 e1 e2 ?_;exact Qk (by rw [hv]) rfl
def Qfb (f g : Int × List Int) : Int := orI (Qaz f.1 g.1) (Qcu f.2 g.2)
theorem Qnx {f g : Int × List Int} (hf : f.1 ≠ 9) (hl : f.2.length <= 100) (hl2 : g.2.length <= 100) : Qm Tryz.prog 5 [PV.fct f, PV.fct g] (· = .int .i64 (Qfb f g)) := by
 obtain ⟨k, l⟩ := f;obtain ⟨k2, l2⟩ := g;simp only at hf hl hl2;have hv : Qfb (k, l) (k2, l2) = orI (Qaz k k2) (Qcu l l2) := rfl;rw [hv];have hc := Qe1 (a := k) (b := k2);have hs := Qp4 hl hl2;have ho := Qx1 (a := Qaz k k2) (b := Qcu l l2);generalize Qaz k k2 = a at *
 generalize Qcu l l2 = b at *
 have d9 : decide (¬ k = 9) = true := decide_eq_true hf;refine Qo Q1 Tryz.func5 rfl Qzd (by simp [c5]) fun C hP =>?_; simp only [c5];refine Sz0 ?_;refine Qe hP hc rfl rfl rfl ?_;refine Sz0 ?_;refine Qe hP hs rfl rfl rfl ?_;refine Sz0 ?_;refine Qiy hP ho (by simp +decide (disch := first | omega | rfl | (simp +decide only [go_sem, ↓reduceIte, Qbk, List.contains_cons, List.contains_nil, List.flatMap_cons, List.flatMap_nil, List.append_nil] <;> rfl) | fail) only [go_sem, ↓reduceIte, Qbk, List.contains_cons, List.contains_nil, List.flatMap_cons, List.flatMap_nil, List.append_nil]; rfl) rfl ?_;refine Vz0 ?_;by_cases h0 : orI a b = 0
 ·have q : decide (¬ orI a b = 0) = false := decide_eq_false fun h => h h0;refine Vz2 q d9 ?_;exact Qk rfl rfl
 ·have q : decide (¬ orI a b = 0) = true := decide_eq_true h0;refine Vz2 q d9 ?_;exact Qk rfl rfl
theorem Qef {fr : Fr} {hp : HP} {K : Qa} {len e d β i o : Nat} {k : IntKind} (h : 0 < len) : Qdr len e (.mp β i o) (.int k 0) d fr hp K = K (upd fr d (.mp β i o)) hp := by simp [Qdr, h]
theorem Qeg {fr : Fr} {hp : HP} {K : Qa} {len d β i o : Nat} {k : IntKind} (h : 1 < len) : Qdr len 1 (.mp β i o) (.int k 1) d fr hp K = K (upd fr d (.mp β i (o + 1))) hp := by simp [Qdr]; omega
theorem Qgm {a b : Int} : Qm Tryz.prog 46 [.int .i64 a, .int .i64 b] (· = PV.pr (min a b, max a b)) := by refine Qo Q1 Tryz.func46 rfl Qxo (by simp [c46]) fun C hP =>?_; simp only [c46];refine Sz0 ?_;refine Qgu ?_;refine Sz0 ?_;exact Qk rfl rfl
theorem Qhf {p : Int × Int} : Qm Tryz.prog 24 [PV.pr p] (· = .bool (decide (p.1 = p.2))) := by
 obtain ⟨a, b⟩ := p;refine Qo Q1 Tryz.func24 rfl Qxp (by simp [c24]) fun C hP =>?_; simp only [c24]
 repeat' first
  | rw [Qef (by omega)]
  | rw [Qeg (by omega)]
  | simp +decide (disch := first | omega | rfl | (simp +decide only [go_sem, ↓reduceIte] <;> rfl) | fail) only [go_sem, ↓reduceIte]
 exact Qk rfl rfl
theorem Qta {p : Int × Int} {x : Int} : Qm Tryz.prog 58 [PV.pr p, .int .i64 x] (· = .bool (decide (p.1 = x) || decide (p.2 = x))) := by
 obtain ⟨a, b⟩ := p;cases h1 : decide (a = x)
 ·refine Qo Q1 Tryz.func58 rfl Qpv (by simp [c58]) fun C hP =>?_; simp only [c58]
  repeat' first
   | rw [Qef (by omega)]
   | rw [Qeg (by omega)]
   | simp +decide (disch := first | omega | rfl | (simp +decide only [go_sem, ↓reduceIte, h1] <;> rfl) | fail) only [go_sem, ↓reduceIte, h1]
  exact Qk (by simp [h1]) rfl
 ·refine Qo Q1 Tryz.func58 rfl Qpv (by simp [c58]) fun C hP =>?_; simp only [c58]
  repeat' first
   | rw [Qef (by omega)]
   | rw [Qeg (by omega)]
   | simp +decide (disch := first | omega | rfl | (simp +decide only [go_sem, ↓reduceIte, h1] <;> rfl) | fail) only [go_sem, ↓reduceIte, h1]
  exact Qk (by simp [h1]) rfl
def Qhg (p q : Int × Int) : Int := orI (Qaz p.1 q.1) (Qaz p.2 q.2)
theorem Qp5 {p q : Int × Int} : Qm Tryz.prog 60 [PV.pr p, PV.pr q] (· = .int .i64 (Qhg p q)) := by
 obtain ⟨a, b⟩ := p;obtain ⟨c, d⟩ := q;have h1 := Qe1 (a := a) (b := c);have h2 := Qe1 (a := b) (b := d);have h3 := Qx1 (a := Qaz a c) (b := Qaz b d);have hv : Qhg (a, b) (c, d) = orI (Qaz a c) (Qaz b d) := rfl;rw [hv];generalize Qaz a c = x at *
 generalize Qaz b d = y at *
 refine Qo Q1 Tryz.func60 rfl Qxq (by simp [c60]) fun C hP =>?_; simp only [c60];refine Sz0 ?_;rw [Qef (by omega)];refine Sz0 ?_;rw [Qef (by omega)];refine Sz0 ?_;rw [Qeg (by omega)];refine Sz0 ?_;rw [Qeg (by omega)];refine Sz0 ?_;refine Qe hP h1 rfl rfl rfl ?_;refine Sz0 ?_;refine Qe hP h2 rfl rfl rfl ?_;refine Sz0 ?_;refine Qiy hP h3 (by simp +decide (disch := first | omega | rfl | (simp +decide only [go_sem, ↓reduceIte, Qbk, List.contains_cons, List.contains_nil, List.flatMap_cons, List.flatMap_nil, List.append_nil] <;> rfl) | fail) only [go_sem, ↓reduceIte, Qbk, List.contains_cons, List.contains_nil, List.flatMap_cons, List.flatMap_nil, List.append_nil]; rfl) rfl ?_;refine Vz0 ?_;exact Qk rfl rfl
theorem Qdz {k a b c d : Int} : Qm Tryz.prog 23 [PV.fct (k, [a, b, c, d])] (· = .sl 2 ([(min a b, max a b), (min c d, max c d)].map PV.pr)) := by
 obtain ⟨S, hS⟩ : ∃ S, S = [(min a b, max a b), (min c d, max c d)] := ⟨_, rfl⟩
 rw [<- hS];have b1 := Qgm (a := a) (b := b);have b2 := Qgm (a := c) (b := d);have t0 : S.take (0 + 1) = S.take 0 ++ [(min a b, max a b)] := by rw [hS]; rfl
 have t1 : S.take (1 + 1) = S.take 1 ++ [(min c d, max c d)] := by rw [hS]; rfl
 have hl : S.length = 2 := by rw [hS]; rfl
 obtain ⟨l, hll⟩ : ∃ l, l = [a, b, c, d] := ⟨_, rfl⟩
 have l4 : l.length = 4 := by rw [hll]; rfl
 have g0 : ∀ h : 0 < l.length, l[0] = a := by subst hll; intro _; rfl
 have g1 : ∀ h : 1 < l.length, l[1] = b := by subst hll; intro _; rfl
 have g2 : ∀ h : 2 < l.length, l[2] = c := by subst hll; intro _; rfl
 have g3 : ∀ h : 3 < l.length, l[3] = d := by subst hll; intro _; rfl
 rw [<- hll];clear hll hS;refine Qo Q1 Tryz.func23 rfl Qxr (by simp [c23]) fun C hP =>?_; simp only [c23];refine Sz0 ?_;refine Qmd 3 900 2 62 (by omega) Tz0 ?_;refine Qas (by repeat (first | exact Qam | exact Qac | exact Qad | exact Qae | exact Qaf | apply Qab | apply Qal | apply Qaw | apply Qa8 | apply Qa9 | apply Q7 | apply Qao)) [(3, 27)] [26, 27, 900] (fun m J hp => ∃ i, m = 2 - i /\ i <= 2 /\ J 3 = .ms 900 (S.take i).length /\ J 4 = .int .i64 ((2 * i : Nat) : Int) /\ hp 1 = some ⟨5, 35, [PV.fct (k, l)], false⟩ /\ hp 900 = some ⟨2, 62, (S.take i).map PV.pr, false⟩) 2 ?_ ?_
 ·refine ⟨0, rfl, by omega, ?_⟩;refine Sz0 ?_;rfl
 rintro _ J h ⟨i, rfl, hi, j3, j4, hb, hh⟩;refine Sz3 j3 j4 hb ?_;refine Q3 (fun hg =>?_) (fun hg =>?_)
 ·have hi2 : i < 2 := by omega
  match i, hi2 with
  | 0, _ =>
   have lA : (S.take 0).length <= 2 := by rw [List.length_take]; omega
   generalize S.take 0 = A at *
   refine Sz5 j3 j4 hb g0 g1 ?_;refine Qe hP b1 rfl rfl rfl ?_;refine Sz3 j3 j4 hb ?_;rw [Qes (f := PV.pr) (y := (min a b, max a b)) (xs := A) (ty' := 62) (fz := false) (Tz1 hh) Qry (by omega) rfl (by omega) (by omega)];refine Sz3 j3 j4 hb ?_;refine Q9 (2 - 1) (by omega) ⟨1, rfl, by omega, ?_⟩;rw [show S.take 1 = _ from t0];simp +decide (disch := first | omega | rfl | (simp +decide only [go_sem, ↓reduceIte, hb, List.length_append] <;> rfl) | fail) only [go_sem, ↓reduceIte, hb, List.length_append]
  | 1, _ =>
   have lA : (S.take 1).length <= 2 := by rw [List.length_take]; omega
   generalize S.take 1 = A at *
   refine Sz5 j3 j4 hb g2 g3 ?_;refine Qe hP b2 rfl rfl rfl ?_;refine Sz3 j3 j4 hb ?_;rw [Qes (f := PV.pr) (y := (min c d, max c d)) (xs := A) (ty' := 62) (fz := false) (Tz1 hh) Qry (by omega) rfl (by omega) (by omega)];refine Sz3 j3 j4 hb ?_;refine Q9 (2 - 2) (by omega) ⟨2, rfl, by omega, ?_⟩;rw [show S.take 2 = _ from t1];simp +decide (disch := first | omega | rfl | (simp +decide only [go_sem, ↓reduceIte, hb, List.length_append] <;> rfl) | fail) only [go_sem, ↓reduceIte, hb, List.length_append]
 ·obtain rfl : i = 2 := by omega
  refine Vz3 j3 hh hb ?_;exact Qk (by rw [List.take_of_length_le (by simp), List.take_of_length_le (by omega)]) rfl
def arN (k : Int) : Nat := if k = 8 then 2 else if k = 1 ∨ k = 5 then 3 else 4
def kdN (k : Int) : Prop := k = 1 ∨ k = 2 ∨ k = 3 ∨ k = 4 ∨ k = 5 ∨ k = 6 ∨ k = 8
theorem Qu2 {k : Int} (h : kdN k) : Qm Tryz.prog 55 [.int .i64 k] (· = .int .i64 (arN k : Nat)) := by
 rcases h with rfl | rfl | rfl | rfl | rfl | rfl | rfl
 all_goals
  refine Qo Q1 Tryz.func55 rfl Qw5 (by simp [c55]) fun C hP =>?_; simp only [c55];refine Sz0 ?_;exact Qk rfl rfl
theorem Qu3 : Qm Tryz.prog 57 [.agg [.bool false, .sl 1 [], .sl 1 []]] (· = .bool true) := by refine Qo Q1 Tryz.func57 rfl Qw6 (by simp [c57]) fun C hP =>?_; simp only [c57];refine Sz0 ?_;exact Qk rfl rfl
theorem Qu4 {k n : Int} {l : List Int} (h : kdN k) (hl : l.length = arN k) (hl2 : ∀ j (h : j < l.length), 0 <= l[j] /\ l[j] < n) :
  Qm Tryz.prog 36 [PV.fct (k, l), .int .i64 n] (· = .int .i64 0) := by
 have hA := Qu2 h;have hz := Qu3;have h0 : 2 <= arN k /\ arN k <= 4 := by unfold arN; split <;> (try split) <;> omega
 have h9 : decide (k = 9) = false := decide_eq_false (by unfold kdN at h; omega);have h9' : decide (¬ k = 9) = true := decide_eq_true (by unfold kdN at h; omega);generalize arN k = A at *
 have a0 : decide ((A : Int) = 0) = false := decide_eq_false (by omega);have a1 : decide (¬ (A : Int) = (A : Int)) = false := decide_eq_false fun h => h rfl;refine Qo Q1 Tryz.func36 rfl Qw7 (by simp [c36]) fun C hP =>?_; simp only [c36];refine Sz0 ?_;refine Qe hP hA rfl rfl rfl ?_;refine Sz3 hl a0 a1 ?_;refine Qas (by repeat (first | exact Qam | exact Qac | exact Qad | exact Qae | exact Qaf | apply Qab | apply Qal | apply Qaw | apply Qa8 | apply Qa9 | apply Q7 | apply Qao)) [(4, 4), (7, 7), (21, 32)] [] (fun m J hp => ∃ i, m = A - i /\ i <= A /\ J 21 = .int .i64 (i : Nat) /\ hp 2 = some ⟨5, 35, [PV.fct (k, l)], false⟩) A ?_ ?_
 ·refine ⟨0, rfl, by omega, ?_⟩;refine Sz0 ?_;rfl
 rintro _ J h ⟨i, rfl, hi, j21, hb2⟩;refine Sz1 j21 ?_;refine Q3 (fun hg =>?_) (fun hg =>?_)
 ·have hi' : i < l.length := by omega
  obtain ⟨g1, g2⟩ := hl2 i hi';generalize hx : l[i] = x at *
  have d1 : decide (x < 0) = false := decide_eq_false (by omega);have d2 : decide (x ≥ n) = false := decide_eq_false (by omega);have d3 : decide (n <= x) = false := decide_eq_false (by omega);refine Sz5 j21 hx d1 d2 d3 ?_;refine Q9 (A - (i + 1)) (by omega) ⟨i + 1, rfl, by omega, ?_⟩;exact Tz1 hb2
 refine Sz3 hb2 h9 h9' ?_;refine Qe hP hz rfl rfl rfl ?_;refine Sz1 hb2 ?_;exact Qk rfl rfl
theorem Qu5 {w : World} {X : Nat -> Prop} {base : Nat} {v : Value} {c : List Int} {n : Nat} (hn : n = c.length) (h : w.ownsRow base eI 1 v n (c.map (.int .i64))) (hX : ∀ b, base <= b -> ¬ X b) : Qd w X (PV.mono c) v := by
 subst hn;rcases h.2 with ⟨rfl, h0⟩ | ⟨g, cap, cur, rfl, hbg, hg, h1, h2, _, _⟩
 ·have : c = [] := List.length_eq_zero_iff.1 h0;subst this;exact Qd.slE 1 none 0 (Nat.zero_le _)
 ·have hl : (c.map (PV.int .i64)).length = c.length := by simp
  have hc := h.cells (g := g) rfl;show Qd w X (.sl 1 (c.map (PV.int .i64))) _;rw [<- hl];refine Qd.sl 1 _ g 0 cap (fun i _ =>.int .i64 (c.getD i 0)) (hX g hbg) (Array.getElem?_eq_some_iff.1 hg).1 (by simpa using h1) h2 (fun i x hx =>?_) (fun i hi j hj =>?_) (fun i x hx j y hy =>?_)
  ·rw [List.getElem?_map] at hx;cases hci : c[i]? with
   | none => rw [hci] at hx; cases hx
   | some a => rw [hci] at hx; cases hx; rfl
  ·have hi' : i < c.length := by simpa using hi
   have hj0 : j = 0 := by omega
   subst hj0;have := hc i (.int .i64 c[i]) (by simp [hi']);have e : (⟨g, 0, none⟩ : Addr).add i = ⟨g, 0 + i * 1 + 0, none⟩ := by unfold Addr.add; split <;> simp_all
   rw [e] at this;rw [this];simp [hi']
  ·rw [List.getElem?_map] at hx;cases hci : c[i]? with
   | none => rw [hci] at hx; cases hx
   | some a =>
    rw [hci] at hx; cases hx
    match j, hy with
    | 0, hy =>simp [PV.cells] at hy;subst hy;simp [hci];exact Qd.int _ _
    | j + 1, hy => simp [PV.cells] at hy
theorem Qss {k : Int} {p q : Int × Int} : Qm Tryz.prog 61 [.int .i64 k, .agg [.bool false, .nilS, .nilS], .sl 2 ([p, q].map PV.pr)] (· = PV.fct (k, [p.1, p.2, q.1, q.2])) := by
 refine ⟨by unfold Qdi; kernel_rfl, fun w X vals hX hs hr =>?_⟩;obtain ⟨v0, v1, v2, rfl⟩ : ∃ v0 v1 v2, vals = #[v0, v1, v2] := by
  obtain ⟨l⟩ := vals
  match l, hs with
  | [a, b, c], _ => exact ⟨a, b, c, rfl⟩
 have h0 : Qd w X (.int .i64 k) v0 := hr 0 _ rfl;have h1 := hr 1 _ rfl;have h2 : Qd w X (.sl 2 ([p, q].map PV.pr)) v2 := hr 2 _ rfl;cases h0;obtain ⟨vs, e1, hvs, h1⟩ := h1;have hv1 : v1 = .agg #[.bool false, .slice none 0 0, .slice none 0 0] := by
  have g0 := h1 0 _ rfl;have g1 := h1 1 _ rfl;have g2 := h1 2 _ rfl;obtain ⟨l⟩ := vs
  match l, hvs with
  | [a, b, c], _ =>simp at g0 g1 g2;cases g0; cases g1; cases g2;exact e1
 subst hv1;generalize hY : [p, q].map PV.pr = Y at h2;cases h2 with
 | slE => cases hY
 | sl _ _ b off cap vs' hXb hb hl hc he hv hr2 =>
  subst hY;have c00 := hv 0 (by simp) 0 (by omega);have c01 := hv 0 (by simp) 1 (by omega);have c10 := hv 1 (by simp) 0 (by omega);have c11 := hv 1 (by simp) 1 (by omega);have r00 := hr2 0 _ rfl 0 _ rfl;have r01 := hr2 0 _ rfl 1 _ rfl;have r10 := hr2 1 _ rfl 0 _ rfl;have r11 := hr2 1 _ rfl 1 _ rfl;generalize vs' 0 0 = u00 at *
  generalize vs' 0 1 = u01 at *
  generalize vs' 1 0 = u10 at *
  generalize vs' 1 1 = u11 at *
  cases r00; cases r01; cases r10; cases r11;refine callsIn_wide.1 ((Qj5 k p.1 p.2 q.1 q.2 b off cap 0 w (by simpa using c00) (by simpa using c01) (by simpa using c10) (by simpa using c11) (by simpa using hl)).mono fun e w' h =>?_);obtain ⟨vo, rfl, h3, h4⟩ := h;refine ⟨_, _, rfl, h3, ?_, rfl⟩;refine ⟨_, rfl, rfl, fun i x hx =>?_⟩
  match i, hx with
  | 0, hx => simp at hx; subst hx; exact Qd.int _ _
  | 1, hx => simp at hx; subst hx; exact Qu5 (c := [p.1, p.2, q.1, q.2]) rfl h4 fun b hb h => by have := hX b h; omega
  | 2, hx => simp at hx; subst hx; exact Qd.bool _
  | 3, hx => simp at hx; subst hx; exact Qd.slE 1 none 0 (Nat.zero_le _)
  | 4, hx => simp at hx; subst hx; exact Qd.slE 1 none 0 (Nat.zero_le _)
  | i + 5, hx => simp at hx
def Qib (k : Int) : FuncId := if k = 5 then 37 else if k = 2 then 38 else if k = 3 ∨ k = 4 then 39 else 42
theorem Qst {k : Int} (h : kdN k) : Qm Tryz.prog 19 [.int .i64 k] (· = .agg [.fn (Qib k) [] []]) := by
 refine ⟨by unfold Qdi; kernel_rfl, fun w X vals hX hs hr =>?_⟩;obtain ⟨v0, rfl⟩ : ∃ v0, vals = #[v0] := by
  obtain ⟨l⟩ := vals
  match l, hs with
  | [a], _ => exact ⟨a, rfl⟩
 have h0 : Qd w X (.int .i64 k) v0 := hr 0 _ rfl;cases h0;refine callsIn_wide.1 ((Qj6 k (Qib k) (by unfold kdN at h; unfold Qib; rcases h with rfl | rfl | rfl | rfl | rfl | rfl | rfl <;> decide) 0 w).mono fun e w' h =>?_);obtain ⟨rfl, h2⟩ := h;refine ⟨_, .agg [.fn (Qib k) [] []], rfl, h2, ⟨_, rfl, rfl, fun i x hx =>?_⟩, rfl⟩
 match i, hx with
 | 0, hx => simp at hx; subst hx; exact Qd.fn _ [] [] #[] #[] rfl rfl (fun i x hx => by simp at hx) (fun i x hx => by simp at hx)
 | i + 1, hx => simp at hx
theorem Qme {k : Int} {l : List Int} (h : kdN k) (hl : l.length = arN k) (hl2 : ∀ j (h : j < l.length), 0 <= l[j] /\ l[j] < 40) : Qm Tryz.prog 18 [PV.fct (k, l)] (· = .bool true) := by have hr := Qu4 (n := 40) h hl hl2;refine Qo Q1 Tryz.func18 rfl Qxs (by simp [c18]) fun C hP =>?_; simp only [c18];refine Sz0 ?_;refine Qe hP hr rfl rfl rfl ?_;refine Sz0 ?_;exact Qk rfl rfl
theorem Qf4 {k a b c d : Int} (h1 : a <= b) (h2 : c <= d) (ho : ¬ Qhg (c, d) (a, b) < 0) : Qm Tryz.prog 39 [PV.fct (k, [a, b, c, d])] (· = PV.fct (k, [a, b, c, d])) := by
 have hs := Qdz (k := k) (a := a) (b := b) (c := c) (d := d);have e1 : min a b = a := by omega
 have e2 : max a b = b := by omega
 have e3 : min c d = c := by omega
 have e4 : max c d = d := by omega
 rw [e1, e2, e3, e4] at hs;have hc := Qp5 (p := (c, d)) (q := (a, b));have hj := Qss (k := k) (p := (a, b)) (q := (c, d));have q1 : decide (Qhg (c, d) (a, b) < 0) = false := decide_eq_false ho;generalize Qhg (c, d) (a, b) = x at *
 refine Qo Q1 Tryz.func39 rfl Qxw (by simp [c39]) fun C hP =>?_; simp only [c39];refine Sz0 ?_;refine Qe hP hs rfl rfl rfl ?_;refine Sz0 ?_;refine Qe hP hc rfl rfl rfl ?_;refine Sz1 q1 ?_;refine Qe hP hj rfl rfl rfl ?_;refine Sz0 ?_;refine Qgu ?_;refine Sz0 ?_;exact Qk rfl rfl
theorem Qzf {fr : Fr} {hp : HP} {K : Qa} {d : Nat} {k : IntKind} {x y : PV} : Qe6 2 1 false (.agg [x, y]) (.int k ((0 : Nat) : Int)) d fr hp K = K (upd fr d x) hp := by simp [Qe6, ldV, PV.cells]
theorem Qzg {fr : Fr} {hp : HP} {K : Qa} {d : Nat} {k : IntKind} {x y : PV} : Qe6 2 1 false (.agg [x, y]) (.int k ((1 : Nat) : Int)) d fr hp K = K (upd fr d y) hp := by simp [Qe6, ldV, PV.cells]
theorem Qi4 {k a b c d : Int} (h1 : a <= b) (h2 : c <= d) (ho : ¬ Qhg (c, d) (a, b) < 0) (n1 : a ≠ c) (n2 : a ≠ d) (n3 : b ≠ c) (n4 : b ≠ d) : Qm Tryz.prog 38 [PV.fct (k, [a, b, c, d])] (· = PV.fct (k, [a, b, c, d])) := by
 have hs := Qdz (k := k) (a := a) (b := b) (c := c) (d := d);have e1 : min a b = a := by omega
 have e2 : max a b = b := by omega
 have e3 : min c d = c := by omega
 have e4 : max c d = d := by omega
 rw [e1, e2, e3, e4] at hs;have ha := Qta (p := (c, d)) (x := a);have hb := Qta (p := (c, d)) (x := b);have q1 : (decide (c = a) || decide (d = a)) = false := by simp; omega
 have q2 : (decide (c = b) || decide (d = b)) = false := by simp; omega
 simp only at ha hb;rw [q1] at ha;rw [q2] at hb;have hp := Qf4 (k := k) h1 h2 ho;refine Qo Q1 Tryz.func38 rfl Qxx (by simp [c38]) fun C hP =>?_; simp only [c38];refine Sz0 ?_;refine Qe hP hs rfl rfl rfl ?_;refine Sz0 ?_;refine Qas (by repeat (first | exact Qam | exact Qac | exact Qad | exact Qae | exact Qaf | apply Qab | apply Qal | apply Qaw | apply Qa8 | apply Qa9 | apply Q7 | apply Qao)) [(5, 5), (11, 33)] [30] (fun m J hp => ∃ i : Nat, m = 2 - i /\ i <= 2 /\ J 11 = .int .i64 (i : Nat) /\ hp 1 = some ⟨5, 35, [PV.fct (k, [a, b, c, d])], false⟩ /\ hp 2 = some ⟨5, 35, [.agg [.int .i64 0, .nilS, .bool false, .nilS, .nilS]], false⟩) 2 ?_ ?_
 ·refine ⟨0, rfl, by omega, ?_⟩;refine Sz0 ?_
  first | rfl | exact ⟨rfl, rfl⟩ | exact ⟨rfl, rfl, rfl⟩
 rintro _ J h ⟨i, rfl, hi, j11, hbx, hby⟩
 match i, hi with
 | 0, _ =>
  refine Sz3 j11 hbx hby ?_;rw [Qzf];refine Sz3 j11 hbx hby ?_;refine Qe hP ha rfl rfl rfl ?_;refine Sz3 j11 hbx hby ?_;refine Q9 (2 - 1) (by omega) ⟨1, rfl, by omega, ?_⟩;refine Sz2 hbx hby ?_
  try trivial
 | 1, _ =>
  refine Sz3 j11 hbx hby ?_;rw [Qzg];refine Sz3 j11 hbx hby ?_;refine Qe hP hb rfl rfl rfl ?_;refine Sz3 j11 hbx hby ?_;refine Q9 (2 - 2) (by omega) ⟨2, rfl, by omega, ?_⟩;refine Sz2 hbx hby ?_
  try trivial
 | 2, _ =>refine Sz3 j11 hbx hby ?_;refine Qe hP hp rfl rfl rfl ?_;refine Sz3 j11 hbx hby ?_;refine Qgu ?_;refine Sz0 ?_;exact Qk rfl rfl
theorem Qi5 {k a b c : Int} (h1 : b <= c) : Qm Tryz.prog 37 [PV.fct (k, [a, b, c])] (· = PV.fct (k, [a, b, c])) := by
 have hs := Qgm (a := b) (b := c);have e1 : min b c = b := by omega
 have e2 : max b c = c := by omega
 rw [e1, e2] at hs;refine Qo Q1 Tryz.func37 rfl Qxv (by simp [c37]) fun C hP =>?_; simp only [c37];simp +decide (disch := first | omega | rfl | (simp +decide only [go_sem, ↓reduceIte, List.getElem_cons_zero, List.getElem_cons_succ] <;> rfl) | fail) only [go_sem, ↓reduceIte, List.getElem_cons_zero, List.getElem_cons_succ];rw [Qjj];simp +decide (disch := first | omega | rfl | (simp +decide only [go_sem, ↓reduceIte, List.getElem_cons_zero, List.getElem_cons_succ] <;> rfl) | fail) only [go_sem, ↓reduceIte, List.getElem_cons_zero, List.getElem_cons_succ];refine Qrk ?_ ?_
 all_goals
  simp +decide (disch := first | omega | rfl | (simp +decide only [go_sem, ↓reduceIte, List.getElem_cons_zero, List.getElem_cons_succ] <;> rfl) | fail) only [go_sem, ↓reduceIte, List.getElem_cons_zero, List.getElem_cons_succ];refine Qe hP hs rfl rfl rfl ?_;simp +decide (disch := first | omega | rfl | (simp +decide only [go_sem, ↓reduceIte, List.getElem_cons_zero, List.getElem_cons_succ] <;> rfl) | fail) only [go_sem, ↓reduceIte, List.getElem_cons_zero, List.getElem_cons_succ];rw [Qef (by omega)];refine Sz0 ?_;rw [Qeg (by omega)];refine Sz0 ?_;rw [Qgt (by rfl) (by simp [PV.cells]) (by omega)];refine Vz0 ?_;rw [Qnr (m := 3) (e := 1) (ty := 3) (xs := [.int .i64 a, .int .i64 b, .int .i64 c]) (fz := false) rfl Tz0 rfl];refine ⟨⟨rfl, by decide⟩, ⟨rfl, by decide⟩, ?_⟩;refine Vz0 ?_;refine Qgu ?_;refine Vz0 ?_;exact Ql6 ⟨Qbq _, Qbq _, Qbq _, trivial, trivial, trivial⟩ rfl
theorem Qu6 {l : List Int} (h0 : 0 < l.length) (hl : l.length <= 100) : Ql8 Tryz.prog 63 [PV.mono l] 3 (fun ys => ys = Qce l) := by
 refine ⟨by unfold Qdi; kernel_rfl, fun w X vals hX hs hr =>?_⟩;obtain ⟨v0, rfl⟩ : ∃ v0, vals = #[v0] := by
  obtain ⟨l⟩ := vals
  match l, hs with
  | [a], _ => exact ⟨a, rfl⟩
 have h1 : Qd w X (.sl 1 (l.map (PV.int .i64))) v0 := hr 0 _ rfl;generalize hY : l.map (PV.int .i64) = Y at h1;cases h1 with
 | slE => rw [List.map_eq_nil_iff] at hY; subst hY; cases h0
 | sl _ _ b off cap vs hXb hb hlc hc he hv hr2 =>
  subst hY;have hll : (l.map (PV.int .i64)).length = l.length := by simp
  rw [hll];refine callsIn_wide.1 ((Qlg b off l.length cap 0 w l rfl h0 hl fun j hj =>?_).mono fun e w' h =>?_)
  ·have h3 := hv j (by omega) 0 (by omega);have h4 := hr2 j (.int .i64 l[j]) (by simp [hj]) 0 _ rfl;generalize vs j 0 = u at h3 h4;cases h4;simpa using h3
  ·obtain ⟨v, rfl, h3, h4⟩ := h;obtain ⟨g, cap', rfl⟩ := ownsRow_succ (k := l.length - 1) (show w'.ownsRow w.heap.size eI 1 v (l.length - 1 + 1) _ by rw [show l.length - 1 + 1 = l.length by omega]; exact h4);have e1 : l.length - 1 + 1 = l.length := by omega
   rw [e1] at ⊢ h4;have hlt := h4.lt g rfl;rcases h4.2 with ⟨h5, _⟩ | ⟨g2, cap2, cur, h5, _, hg, h6, h7, h8, h9⟩
   ·cases h5
   ·cases h5;refine ⟨_, g, cap', Qce l, rfl, by simp, hlt.1, h3, ⟨Qc4 _, cur, cap', hg, h8, by simpa using h6, h7, fun i k n hi =>?_⟩, ?_, h7, rfl⟩
    ·rw [List.getElem?_map] at hi;cases hli : l[i]? with
     | none => rw [hli] at hi; cases hi
     | some x =>rw [hli] at hi;cases hi;obtain ⟨hil, hx⟩ := List.getElem?_eq_some_iff.1 hli;have h10 := congrArg (fun L : List Value => L[i]?) h9;simp only [List.getElem?_map, hli, Option.map_some] at h10;rw [List.getElem?_take_of_lt (by omega)] at h10;simp at h10;simp [h10]
    ·exact ⟨cur, _, hg, h8⟩
theorem Qhh {k : Int} {l : List Int} (h0 : 0 < l.length) (hl : l.length <= 12) (hs : Srt l) : Qm Tryz.prog 42 [PV.fct (k, l)] (· = PV.fct (k, l)) := by refine Qo Q1 Tryz.func42 rfl Qxu (by simp [c42]) fun C hP =>?_; simp only [c42];simp +decide (disch := first | omega | rfl | (simp +decide only [go_sem, ↓reduceIte] <;> rfl) | fail) only [go_sem, ↓reduceIte];refine Qv2 hP (Qu6 h0 (by omega)) rfl rfl rfl (by decide) ?_;rintro _ hi rfl;simp +decide (disch := first | omega | rfl | (simp +decide only [go_sem, ↓reduceIte] <;> rfl) | fail) only [go_sem, ↓reduceIte];refine Qk3 hP (Qp2 h0 hl) (β := 6) (by simp +decide (disch := first | omega | rfl | (simp +decide only [go_sem, ↓reduceIte] <;> rfl) | fail) only [go_sem, ↓reduceIte]) (Qc4 _) (by simp; omega) (by simp [toB, B0]) rfl ?_;rintro r xs' _ _ ⟨rfl, ys, rfl, hp2, hs2⟩;obtain rfl : ys = l := List.Perm.eq_of_pairwise (le := (· <= ·)) (fun a b _ _ h1 h2 => Int.le_antisymm h1 h2) hs2 hs hp2;simp +decide (disch := first | omega | rfl | (simp +decide only [go_sem, ↓reduceIte, Qed] <;> rfl) | fail) only [go_sem, ↓reduceIte, Qed];rw [Qnr (m := ys.length) (e := 1) (ty := 3) (xs := Qce ys) (fz := false) rfl (by simp +decide (disch := first | omega | rfl | (simp +decide only [go_sem, ↓reduceIte] <;> rfl) | fail) only [go_sem, ↓reduceIte]) (by simp)];refine ⟨⟨rfl, by decide⟩, ⟨rfl, by decide⟩, ?_⟩;simp +decide (disch := first | omega | rfl | (simp +decide only [go_sem, ↓reduceIte, Qbk, List.contains_cons, List.contains_nil, List.flatMap_cons, List.flatMap_nil, List.append_nil] <;> rfl) | fail) only [go_sem, ↓reduceIte, Qbk, List.contains_cons, List.contains_nil, List.flatMap_cons, List.flatMap_nil, List.append_nil];refine Qgu ?_;simp +decide (disch := first | omega | rfl | (simp +decide only [go_sem, ↓reduceIte, Qbk, List.contains_cons, List.contains_nil, List.flatMap_cons, List.flatMap_nil, List.append_nil] <;> rfl) | fail) only [go_sem, ↓reduceIte, Qbk, List.contains_cons, List.contains_nil, List.flatMap_cons, List.flatMap_nil, List.append_nil];exact Ql6 ⟨Qbq _, Qbq _, Qbq _, trivial, trivial, trivial⟩ rfl
theorem Qny {l : List Int} (hl : l.length <= 100) (hn : l.Nodup) : Qm Tryz.prog 20 [PV.mono l] (· = .bool false) := by
 refine Qo Q1 Tryz.func20 rfl Qxt (by simp [c20]) fun C hP =>?_; simp only [c20];refine Sz0 ?_;refine Qas (by repeat (first | exact Qam | exact Qac | exact Qad | exact Qae | exact Qaf | apply Qab | apply Qal | apply Qaw | apply Qa8 | apply Qa9 | apply Q7 | apply Qao)) [(2, 3), (6, 17)] [] (fun m J hp => ∃ i, m = l.length - i /\ i <= l.length /\ J 6 = .int .i64 (i : Nat)) l.length ?_ ?_
 ·refine ⟨0, rfl, by omega, ?_⟩;refine Sz0 ?_;rfl
 rintro _ J h ⟨i, rfl, hi, j6⟩;refine Sz1 j6 ?_;refine Q3 (fun hg =>?_) (fun hg =>?_)
 ·have hi' : i < l.length := by omega
  have hni : l[i] ∉ l.take i := fun hm => by rw [List.mem_take_iff_getElem] at hm;obtain ⟨j, hj, e⟩ := hm;have := (List.getElem_inj hn).1 e;omega
  have hc := Qju (l := l.take i) (x := l[i]) (by rw [List.length_take]; omega);rw [decide_eq_false hni] at hc;generalize hx : l[i] = x at *
  refine Sz2 j6 hx ?_;refine Qe hP hc rfl rfl rfl ?_;refine Sz2 j6 hx ?_;refine Q9 (l.length - (i + 1)) (by omega) ⟨i + 1, rfl, by omega, ?_⟩;exact Tz0
 ·refine Sz0 ?_;exact Qk rfl rfl
def Qe2 (f : Int × List Int) : Bool := decide (f.2.length = arN f.1) && (f.2.all fun x => decide (0 <= x) && decide (x < 40)) &&
  (match f.2 with
   | [a, b, c, d] => if f.1 = 6 then decide (a < b) && decide (b < c) && decide (c < d) else decide (a < b) && decide (c < d) && decide (0 <= Qhg (c, d) (a, b)) && (decide (f.1 ≠ 2) || decide (a ≠ c) && decide (a ≠ d) && decide (b ≠ c) && decide (b ≠ d)) && (decide (a ≠ c) || decide (b ≠ d))
   | [a, b, c] => if f.1 = 5 then decide (b < c) else decide (a < b) && decide (b < c)
   | [a, b] => decide (a < b)
   | _ => false)
theorem Qx2 {f : Int × List Int} (hk : kdN f.1) (hn : Qe2 f = true) : Qm Tryz.prog 6 [PV.fct f] (· = PV.fct f) := by
 obtain ⟨k, l⟩ := f;simp only at hk;unfold Qe2 at hn;simp only [Bool.and_eq_true, decide_eq_true_eq, List.all_eq_true] at hn;obtain ⟨⟨hl, hr⟩, hm⟩ := hn;have hri := Qme hk hl (fun j hj => hr _ (List.getElem_mem hj));have hfo := Qst hk;have hgo : Qm Tryz.prog (Qib k) [PV.fct (k, l)] (· = PV.fct (k, l)) := by
  have hA : l.length = arN k := hl;rcases hk with rfl | rfl | rfl | rfl | rfl | rfl | rfl
  ·obtain ⟨a, b, c, rfl⟩ : ∃ a b c, l = [a, b, c] := by match l, hA with | [a, b, c], _ => exact ⟨a, b, c, rfl⟩
   simp at hm;exact Qhh (by simp) (by simp) (by simp [Srt]; omega)
  ·obtain ⟨a, b, c, d, rfl⟩ : ∃ a b c d, l = [a, b, c, d] := by match l, hA with | [a, b, c, d], _ => exact ⟨a, b, c, d, rfl⟩
   simp at hm;exact Qi4 (by omega) (by omega) (by omega) (by omega) (by omega) (by omega) (by omega)
  ·obtain ⟨a, b, c, d, rfl⟩ : ∃ a b c d, l = [a, b, c, d] := by match l, hA with | [a, b, c, d], _ => exact ⟨a, b, c, d, rfl⟩
   simp at hm;exact Qf4 (by omega) (by omega) (by omega)
  ·obtain ⟨a, b, c, d, rfl⟩ : ∃ a b c d, l = [a, b, c, d] := by match l, hA with | [a, b, c, d], _ => exact ⟨a, b, c, d, rfl⟩
   simp at hm;exact Qf4 (by omega) (by omega) (by omega)
  ·obtain ⟨a, b, c, rfl⟩ : ∃ a b c, l = [a, b, c] := by match l, hA with | [a, b, c], _ => exact ⟨a, b, c, rfl⟩
   simp at hm;exact Qi5 (by omega)
  ·obtain ⟨a, b, c, d, rfl⟩ : ∃ a b c d, l = [a, b, c, d] := by match l, hA with | [a, b, c, d], _ => exact ⟨a, b, c, d, rfl⟩
   simp at hm;exact Qhh (by simp) (by simp) (by simp [Srt]; omega)
  ·obtain ⟨a, b, rfl⟩ : ∃ a b, l = [a, b] := by match l, hA with | [a, b], _ => exact ⟨a, b, rfl⟩
   simp at hm;exact Qhh (by simp) (by simp) (by simp [Srt]; omega)
 refine Qo Q1 Tryz.func6 rfl Qzc (by simp [c6]) fun C hP =>?_; simp only [c6];refine Sz0 ?_;refine Qe hP hri rfl rfl rfl ?_;refine Sz0 ?_;refine Qe hP hfo rfl rfl rfl ?_;refine Sz0 ?_;refine Qe hP hgo rfl rfl rfl ?_;refine Sz0 ?_;refine Qgu ?_;refine Sz0 ?_;exact Qk rfl rfl
theorem Qsu {w : World} {X : Nat -> Prop} {p q : Int × Int} {v : Value} (h : Qd w X (.sl 2 ([p, q].map PV.pr)) v) : ∃ b off cap, v = .slice (some ⟨b, off, none⟩) 2 cap /\ 2 <= cap /\
  w.cell? ⟨b, off, none⟩ = some (.int .i64 p.1) /\ w.cell? ⟨b, off + 1, none⟩ = some (.int .i64 p.2) /\ w.cell? ⟨b, off + 2, none⟩ = some (.int .i64 q.1) /\ w.cell? ⟨b, off + 3, none⟩ = some (.int .i64 q.2) := by
 generalize hY : [p, q].map PV.pr = Y at h;cases h with
 | slE => cases hY
 | sl _ _ b off cap vs' hXb hb hl hc he hv hr2 =>
  subst hY;have c00 := hv 0 (by simp) 0 (by omega);have c01 := hv 0 (by simp) 1 (by omega);have c10 := hv 1 (by simp) 0 (by omega);have c11 := hv 1 (by simp) 1 (by omega);have r00 := hr2 0 _ rfl 0 _ rfl;have r01 := hr2 0 _ rfl 1 _ rfl;have r10 := hr2 1 _ rfl 0 _ rfl;have r11 := hr2 1 _ rfl 1 _ rfl;generalize vs' 0 0 = u00 at *
  generalize vs' 0 1 = u01 at *
  generalize vs' 1 0 = u10 at *
  generalize vs' 1 1 = u11 at *
  cases r00; cases r01; cases r10; cases r11;exact ⟨b, off, cap, rfl, by simpa using hl, by simpa using c00, by simpa using c01, by simpa using c10, by simpa using c11⟩
theorem Qu7 {w : World} {X : Nat -> Prop} {k : Int} {l : List Int} {v : Value} (h : Qn w X (PV.fct (k, l)) v) : ∃ a n c a3 c3 a4 c4, v = .agg #[.int .i64 k, .slice a n c, .bool false, .slice a3 0 c3, .slice a4 0 c4] := by
 obtain ⟨vs, rfl, hvs, h1⟩ := h;have g0 := h1 0 _ rfl;have g1 := h1 1 _ rfl;have g2 := h1 2 _ rfl;have g3 := h1 3 _ rfl;have g4 := h1 4 _ rfl;obtain ⟨L⟩ := vs
 match L, hvs with
 | [x0, x1, x2, x3, x4], _ =>
  simp at g0 g1 g2 g3 g4;have f1 : ∃ a n c, x1 = .slice a n c := by
   have g1' : Qd w X (.sl 1 (l.map (PV.int .i64))) x1 := g1;generalize l.map (PV.int .i64) = Y at g1';cases g1' with
   | slE _ a cap => exact ⟨_, _, _, rfl⟩
   | sl _ _ b off cap => exact ⟨_, _, _, rfl⟩
  obtain ⟨a, n, c, rfl⟩ := f1;have f3 : ∃ a c, x3 = .slice a 0 c := by
   generalize hY : ([] : List PV) = Y at g3;cases g3 with
   | slE _ a cap => exact ⟨_, _, rfl⟩
   | sl _ _ b off cap vs hX hb hl hc he hv hr => subst hY; exact ⟨_, _, rfl⟩
  have f4 : ∃ a c, x4 = .slice a 0 c := by
   generalize hY : ([] : List PV) = Y at g4;cases g4 with
   | slE _ a cap => exact ⟨_, _, rfl⟩
   | sl _ _ b off cap vs hX hb hl hc he hv hr => subst hY; exact ⟨_, _, rfl⟩
  obtain ⟨a3, c3, rfl⟩ := f3;obtain ⟨a4, c4, rfl⟩ := f4;cases g0; cases g2;exact ⟨_, _, _, _, _, _, _, rfl⟩
theorem Qmf {k a b c d : Int} (hk : k = 2 ∨ k = 4) (hr : Qm Tryz.prog 18 [PV.fct (k, [a, b, c, d])] (· = .bool true)) (h1 : a < b) (h2 : c < d) (h3 : ¬ (a = c /\ b = d)) : Qm Tryz.prog 7 [PV.fct (k, [a, b, c, d])] (· = .bool false) := by
 have hs := Qdz (k := k) (a := a) (b := b) (c := c) (d := d);have e1 : min a b = a := by omega
 have e2 : max a b = b := by omega
 have e3 : min c d = c := by omega
 have e4 : max c d = d := by omega
 rw [e1, e2, e3, e4] at hs;refine ⟨by unfold Qdi; kernel_rfl, fun w X vals hX hsz hrep =>?_⟩;obtain ⟨v0, rfl⟩ : ∃ v0, vals = #[v0] := by
  obtain ⟨l⟩ := vals
  match l, hsz with
  | [a], _ => exact ⟨a, rfl⟩
 have h0 : Qn w X (PV.fct (k, [a, b, c, d])) v0 := hrep 0 _ rfl;obtain ⟨vs, ns, cs, v3, c3, v4, c4, rfl⟩ := Qu7 h0;have hrw : ∀ w', Ext Qi w w' -> ∀ (i : Nat) (x : PV), [PV.fct (k, [a, b, c, d])][i]? = some x -> Qn w' Qi x (#[Value.agg #[.int .i64 k, .slice vs ns cs, .bool false, .slice v3 0 c3, .slice v4 0 c4]].getD i undef) := fun w' he i x hx => by
  match i, hx with
  | 0, hx =>simp at hx;subst hx;exact Qn.mono h0 (fun b hb _ => he.block b hb id) (fun _ _ _ h => h) he.size
  | i + 1, hx => simp at hx
 refine callsIn_wide.1 ((Qml k hk a b c d (by omega) (by omega) (by simp; omega) vs ns cs v3 v4 c3 c4 w (fun m w' he =>?_) (fun m w' he =>?_) (fun m x y w' =>?_) 0).mono fun e w' h =>?_)
 ·refine (Qet hr rfl Qi (fun _ h => h.elim) (hrw w' he) m).mono fun e w2 h =>?_;obtain ⟨v, r, rfl, h4, h5, rfl⟩ := h;cases h5;exact ⟨rfl, h4⟩
 ·refine (Qet hs rfl Qi (fun _ h => h.elim) (hrw w' he) m).mono fun e w2 h =>?_;obtain ⟨v, r, rfl, h4, h5, rfl⟩ := h;obtain ⟨sb, so, sc, rfl, h6, h7, h8, h9, h10⟩ := Qsu (show Qd w2 Qi (.sl 2 ([(a, b), (c, d)].map PV.pr)) v from h5);exact ⟨sb, so, sc, rfl, h4, h6, h7, h8, h9, h10⟩
 ·refine (Qet (Qhf (p := (x, y))) rfl Qi (fun _ h => h.elim) (fun i x' hx =>?_) m).mono fun e w2 h =>?_
  ·match i, hx with
   | 0, hx => simp at hx; subst hx; exact Qle w' (x, y)
   | i + 1, hx => simp at hx
  ·obtain ⟨v, r, rfl, h4, h5, rfl⟩ := h;cases h5;exact ⟨rfl, h4⟩
 ·obtain ⟨rfl, h4⟩ := h;exact ⟨_, .bool false, rfl, h4, Qd.bool false, rfl⟩
theorem Qp6 {f : Int × List Int} (hk : kdN f.1) (hn : Qe2 f = true) : Qm Tryz.prog 7 [PV.fct f] (· = .bool false) := by
 obtain ⟨k, l⟩ := f;simp only at hk;unfold Qe2 at hn;simp only [Bool.and_eq_true, decide_eq_true_eq, List.all_eq_true] at hn;obtain ⟨⟨hl, hr⟩, hm⟩ := hn;have hri := Qme hk hl (fun j hj => hr _ (List.getElem_mem hj));have hA : l.length = arN k := hl;have hrep : l.Nodup -> Qm Tryz.prog 20 [PV.mono l] (· = .bool false) := fun h => Qny (by have : arN k <= 4 := (by unfold arN; split <;> (try split) <;> omega); omega) h;rcases hk with rfl | rfl | rfl | rfl | rfl | rfl | rfl
 ·have hp := hrep (by
   obtain ⟨a, b, c, rfl⟩ : ∃ a b c, l = [a, b, c] := by match l, hA with | [a, b, c], _ => exact ⟨a, b, c, rfl⟩
   simp at hm ⊢; omega)
  refine Qo Q1 Tryz.func7 rfl Qgw (by simp [c7]) fun C hP =>?_; simp only [c7];refine Sz0 ?_;refine Qe hP hri rfl rfl rfl ?_;refine Sz0 ?_;refine Qe hP hp rfl rfl rfl ?_;refine Sz0 ?_;exact Qk rfl rfl
 ·obtain ⟨a, b, c, d, rfl⟩ : ∃ a b c d, l = [a, b, c, d] := by match l, hA with | [a, b, c, d], _ => exact ⟨a, b, c, d, rfl⟩
  simp at hm;exact Qmf (.inl rfl) hri (by omega) (by omega) (by omega)
 ·obtain ⟨a, b, c, d, rfl⟩ : ∃ a b c d, l = [a, b, c, d] := by match l, hA with | [a, b, c, d], _ => exact ⟨a, b, c, d, rfl⟩
  simp at hm;have hs := Qdz (k := 3) (a := a) (b := b) (c := c) (d := d);have e1 : min a b = a := by omega
  have e2 : max a b = b := by omega
  have e3 : min c d = c := by omega
  have e4 : max c d = d := by omega
  rw [e1, e2, e3, e4] at hs;have s1 := Qhf (p := (a, b));have s2 := Qhf (p := (c, d));have q1 : decide (a = b) = false := decide_eq_false (by omega);have q2 : decide (c = d) = false := decide_eq_false (by omega);have q3 : (decide (a = c) && decide (b = d)) = false := by simp; omega
  simp only at s1 s2;rw [q1] at s1;rw [q2] at s2;refine Qo Q1 Tryz.func7 rfl Qgw (by simp [c7]) fun C hP =>?_; simp only [c7];refine Sz0 ?_;refine Qe hP hri rfl rfl rfl ?_;refine Sz0 ?_;refine Qe hP hs rfl rfl rfl ?_;refine Sz0 ?_;refine Qe hP s1 rfl rfl rfl ?_;refine Sz0 ?_;refine Qe hP s2 rfl rfl rfl ?_;refine Sz0 ?_;exact Qk rfl rfl
 ·obtain ⟨a, b, c, d, rfl⟩ : ∃ a b c d, l = [a, b, c, d] := by match l, hA with | [a, b, c, d], _ => exact ⟨a, b, c, d, rfl⟩
  simp at hm;exact Qmf (.inr rfl) hri (by omega) (by omega) (by omega)
 ·obtain ⟨a, b, c, rfl⟩ : ∃ a b c, l = [a, b, c] := by match l, hA with | [a, b, c], _ => exact ⟨a, b, c, rfl⟩
  simp at hm;have q2 : decide (b = c) = false := decide_eq_false (by omega);by_cases h1 : a = b
  ·have q1 : decide (a = b) = true := decide_eq_true h1;refine Qo Q1 Tryz.func7 rfl Qgw (by simp [c7]) fun C hP =>?_; simp only [c7];refine Sz0 ?_;refine Qe hP hri rfl rfl rfl ?_;simp +decide (disch := first | omega | rfl | (simp +decide only [go_sem, ↓reduceIte, q1, q2, List.getElem_cons_zero, List.getElem_cons_succ] <;> rfl) | fail) only [go_sem, ↓reduceIte, q1, q2, List.getElem_cons_zero, List.getElem_cons_succ]
   try (rw [Qjj])
   simp +decide (disch := first | omega | rfl | (simp +decide only [go_sem, ↓reduceIte, q1, q2, List.getElem_cons_zero, List.getElem_cons_succ] <;> rfl) | fail) only [go_sem, ↓reduceIte, q1, q2, List.getElem_cons_zero, List.getElem_cons_succ];exact Qk rfl rfl
  ·have q1 : decide (a = b) = false := decide_eq_false h1;refine Qo Q1 Tryz.func7 rfl Qgw (by simp [c7]) fun C hP =>?_; simp only [c7];refine Sz0 ?_;refine Qe hP hri rfl rfl rfl ?_;simp +decide (disch := first | omega | rfl | (simp +decide only [go_sem, ↓reduceIte, q1, q2, List.getElem_cons_zero, List.getElem_cons_succ] <;> rfl) | fail) only [go_sem, ↓reduceIte, q1, q2, List.getElem_cons_zero, List.getElem_cons_succ];exact Qk rfl rfl
 ·have hp := hrep (by
   obtain ⟨a, b, c, d, rfl⟩ : ∃ a b c d, l = [a, b, c, d] := by match l, hA with | [a, b, c, d], _ => exact ⟨a, b, c, d, rfl⟩
   simp at hm ⊢; omega)
  refine Qo Q1 Tryz.func7 rfl Qgw (by simp [c7]) fun C hP =>?_; simp only [c7];refine Sz0 ?_;refine Qe hP hri rfl rfl rfl ?_;refine Sz0 ?_;refine Qe hP hp rfl rfl rfl ?_;refine Sz0 ?_;exact Qk rfl rfl
 ·have hp := hrep (by
   obtain ⟨a, b, rfl⟩ : ∃ a b, l = [a, b] := by match l, hA with | [a, b], _ => exact ⟨a, b, rfl⟩
   simp at hm ⊢; omega)
  refine Qo Q1 Tryz.func7 rfl Qgw (by simp [c7]) fun C hP =>?_; simp only [c7];refine Sz0 ?_;refine Qe hP hri rfl rfl rfl ?_;refine Sz0 ?_;refine Qe hP hp rfl rfl rfl ?_;refine Sz0 ?_;exact Qk rfl rfl
instance : DecidablePred kdN := fun k => by unfold kdN; infer_instance
theorem Qjk (a : Int) : Qaz a a = 0 := by simp [Qaz]
theorem Qjl : ∀ l : List Int, Qcu l l = 0
 | [] => rfl
 | a :: l => by rw [Qcu, Qjk, if_pos rfl]; exact Qjl l
theorem Qp7 (f : Int × List Int) : Qfb f f = 0 := by unfold Qfb; rw [Qjk, Qjl]; rfl
def okB (L : List (Int × List Int)) : Bool := L.all fun f => decide (kdN f.1) && Qe2 f
def upB : List (Int × List Int) -> Bool
 | x :: y :: l => decide (x.1 <= y.1) && (decide (x.1 ≠ y.1) || decide (Qfb x y < 0)) && upB (y :: l)
 | _ => true
theorem Qp8 : ∀ (L : List (Int × List Int)) (j : Nat) (h : j + 1 < L.length), upB L = true -> L[j].1 <= L[j + 1].1 /\ (L[j].1 ≠ L[j + 1].1 ∨ Qfb L[j] L[j + 1] < 0)
 | [], j, h, _ => by simp at h
 | [_], j, h, _ => by simp at h
 | x :: y :: l, 0, h, hu => by simp only [upB, Bool.and_eq_true, Bool.or_eq_true, decide_eq_true_eq] at hu;exact hu.1
 | x :: y :: l, j + 1, h, hu => by simp only [upB, Bool.and_eq_true] at hu;exact Qp8 (y :: l) j (by simpa using h) hu.2
def Qfc : List (Int × List Int) -> List (Int × List Int) -> Bool
 | _, [] => true
 | [], _ :: _ => false
 | x :: L, y :: M => if Qfb x y = 0 then Qfc L M else Qfc L (y :: M)
theorem Qlf : ∀ n, n < 8 -> okB (Qbm n) = true /\ upB (Qbm n) = true /\ Qfc (Qbm n) (Qbm (n - 1)) = true /\ (Qbm (n - 1)).length <= (Qbm n).length /\ (Qbm n).length <= 2000 := by decide +kernel
theorem Qp9 {L M : List (Int × List Int)} {i k : Nat} (h1 : i < L.length) (h2 : k < M.length) (h : Qfc (L.drop i) (M.drop k) = true) : if Qfb L[i] M[k] = 0 then Qfc (L.drop (i + 1)) (M.drop (k + 1)) = true else Qfc (L.drop (i + 1)) (M.drop k) = true := by
 rw [List.drop_eq_getElem_cons h1, List.drop_eq_getElem_cons h2, Qfc] at h;split
 ·rename_i h3; rw [if_pos h3] at h; exact h
 ·rename_i h3; rw [if_neg h3] at h; rw [List.drop_eq_getElem_cons h2]; exact h
theorem Qsv {L M : List (Int × List Int)} {i k : Nat} (h1 : L.length <= i) (hk : k <= M.length) (h : Qfc (L.drop i) (M.drop k) = true) : k = M.length := by
 rcases Nat.lt_or_ge k M.length with h2 | h2
 ·rw [List.drop_eq_nil_of_le h1, List.drop_eq_getElem_cons h2] at h;simp [Qfc] at h
 ·omega
theorem Qic {L : List (Int × List Int)} (h : okB L = true) {i : Nat} (hi : i < L.length) : kdN L[i].1 /\ Qe2 L[i] = true := by have := List.all_eq_true.1 h _ (List.getElem_mem hi);simpa using this
theorem Qid {f : Int × List Int} (hk : kdN f.1) (h : Qe2 f = true) : f.1 ≠ 9 /\ f.2.length <= 100 := by
 have h2 : arN f.1 <= 4 := by unfold arN; split <;> (try split) <;> omega
 unfold Qe2 at h;simp only [Bool.and_eq_true, decide_eq_true_eq] at h;have := h.1.1;unfold kdN at hk;omega
theorem Q0a {fr : Fr} {hp : HP} {K : Qa} {d : Nat} {a : Int} : Qap .rem false (.int .i64 a) (.int .i64 8) d fr hp K = K (upd fr d (.int .i64 (a.tmod 8))) hp := by simp [Qap]
theorem Qfk {x : Nat} (hx : x < 256) : Qm Tryz.prog 3 [.int .u8 x] (· = .bool true) := by
 obtain ⟨n, hn⟩ : ∃ n, n = x % 8 := ⟨_, rfl⟩
 have hn8 : n < 8 := by omega
 have ha := Qp0 Qnu;have hc1 := Qnu.ok n hn8;have hc2 := Qnu.ok (n - 1) (by omega);obtain ⟨p1, p2, p3, p4, p5⟩ := Qlf n hn8;have q1 : ((x : Int).tmod 8) = (n : Int) := by rw [Int.tmod_eq_emod_of_nonneg (by omega)]; omega
 have q2 : max ((n : Int) - 1) 0 = ((n - 1 : Nat) : Int) := by omega
 have p6 := (Qlf (n - 1) (by omega)).1;have p7 : (Qbm (n - 1)).length <= 2000 := by omega
 generalize Qbm n = L at *
 generalize Qbm (n - 1) = M at *
 refine Qo Q1 Tryz.func3 rfl Qze (by simp [c3]) fun C hP =>?_; simp only [c3];refine Sz0 ?_;rw [Q0a, q1];refine Sz0 ?_;refine Qe hP hc1 rfl rfl rfl ?_;refine Sz0 ?_;refine Qas (by repeat (first | exact Qam | exact Qac | exact Qad | exact Qae | exact Qaf | apply Qab | apply Qal | apply Qaw | apply Qa8 | apply Qa9 | apply Q7 | apply Qao)) [(2, 2), (6, 6), (21, 93)] [] (fun m J hp => ∃ i, m = L.length - i /\ i <= L.length /\ J 6 = .int .i64 (i : Nat)) L.length ?_ ?_
 ·refine ⟨0, rfl, by omega, ?_⟩;refine Sz0 ?_;rfl
 rintro _ J h ⟨i, rfl, hi, j6⟩;refine Sz1 j6 ?_;refine Q3 (fun hg =>?_) (fun hg =>?_)
 ·have hi' : i < L.length := by omega
  obtain ⟨k1, k2⟩ := Qic p1 hi';obtain ⟨k3, k4⟩ := Qid k1 k2;have hno := Qx2 k1 k2;have htr := Qp6 k1 k2;have hcm := Qnx (g := L[i]) k3 k4 k4;rw [Qp7] at hcm;cases i with
  | zero =>
   generalize hx : L[0] = y at *
   refine Sz2 j6 hx ?_;refine Qe hP hno rfl rfl rfl ?_;refine Sz2 j6 hx ?_;refine Qe hP hcm rfl rfl rfl ?_;refine Sz2 j6 hx ?_;refine Qe hP htr rfl rfl rfl ?_;refine Sz2 j6 hx ?_;refine Q9 (L.length - 1) (by omega) ⟨1, rfl, by omega, ?_⟩;refine Sz0 ?_
   try (first | rfl | trivial)
  | succ j =>
   obtain ⟨k5, k6⟩ := Qic p1 (i := j) (by omega);obtain ⟨k7, k8⟩ := Qid k5 k6;obtain ⟨u1, u2⟩ := Qp8 L j hi' p2;have hcp := Qnx (g := L[j + 1]) k7 k8 k4;have e1 : ((j + 1 : Nat) : Int) - 1 = (j : Nat) := by omega
   generalize hx : L[j + 1] = y at *
   generalize hz : L[j] = z at *
   have r1 : decide (z.1 > y.1) = false := decide_eq_false (by omega);have r2 : decide (y.1 < z.1) = false := decide_eq_false (by omega);have r3 : decide (((j + 1 : Nat) : Int) > 0) = true := decide_eq_true (by omega);have r4 : decide (0 < ((j + 1 : Nat) : Int)) = true := decide_eq_true (by omega);refine Sz2 j6 hx ?_;refine Qe hP hno rfl rfl rfl ?_;refine Sz2 j6 hx ?_;refine Qe hP hcm rfl rfl rfl ?_;refine Sz2 j6 hx ?_;refine Qe hP htr rfl rfl rfl ?_;by_cases hk : z.1 = y.1
   ·have r5 : decide (z.1 = y.1) = true := decide_eq_true hk;have hlt := u2.resolve_left (fun h => h hk);generalize Qfb z y = cv at *
    have r6 : decide (cv ≥ 0) = false := decide_eq_false (by omega);have r7 : decide (0 <= cv) = false := decide_eq_false (by omega);refine Sz9 j6 hx hz e1 r1 r2 r3 r4 r5 ?_;refine Qe hP hcp rfl rfl rfl ?_;refine Qz0 j6 hx hz e1 r1 r2 r3 r4 r5 r6 r7 ?_;refine Q9 (L.length - (j + 1 + 1)) (by omega) ⟨j + 1 + 1, rfl, by omega, ?_⟩;refine Sz0 ?_
    try (first | rfl | trivial)
   ·have r5 : decide (z.1 = y.1) = false := decide_eq_false hk;refine Sz9 j6 hx hz e1 r1 r2 r3 r4 r5 ?_;refine Q9 (L.length - (j + 1 + 1)) (by omega) ⟨j + 1 + 1, rfl, by omega, ?_⟩;refine Sz0 ?_
    try (first | rfl | trivial)
 have p8 : decide (M.length > L.length) = false := decide_eq_false (by omega);have p9 : decide ((L.length : Int) < (M.length : Int)) = false := decide_eq_false (by omega);refine Sz1 q2 ?_;refine Qe hP hc2 rfl rfl rfl ?_;refine Sz2 p8 p9 ?_;refine Qas (by repeat (first | exact Qam | exact Qac | exact Qad | exact Qae | exact Qaf | apply Qab | apply Qal | apply Qaw | apply Qa8 | apply Qa9 | apply Q7 | apply Qao)) [(9, 10), (110, 133)] [] (fun m J hp => ∃ i k, m = L.length - i /\ i <= L.length /\ k <= M.length /\ Qfc (L.drop i) (M.drop k) = true /\ J 9 = .int .i64 (k : Nat) /\ J 10 = .int .i64 (i : Nat)) L.length ?_ ?_
 ·refine ⟨0, 0, rfl, by omega, by omega, by simpa using p3, ?_⟩;refine Sz0 ?_
  first | rfl | exact ⟨rfl, rfl⟩
 rintro _ J1 h1 ⟨i, k, rfl, hi1, hk1, hsb, j9, j10⟩;by_cases c1 : i < L.length
 ·have d1 : decide ((i : Int) < (L.length : Int)) = true := decide_eq_true (by omega);by_cases c2 : k < M.length
  ·have d2 : decide ((k : Int) < (M.length : Int)) = true := decide_eq_true (by omega);obtain ⟨k1, k2⟩ := Qic p1 c1;obtain ⟨k3, k4⟩ := Qid k1 k2;obtain ⟨k5, k6⟩ := Qic p6 c2;obtain ⟨k7, k8⟩ := Qid k5 k6;have hst := Qp9 c1 c2 hsb;have hcm := Qnx (g := M[k]) k3 k4 k8;generalize hx : L[i] = y at *
   generalize hz : M[k] = z at *
   generalize Qfb y z = cv at *
   refine Sz6 j9 j10 d1 d2 hx hz ?_;refine Qe hP hcm rfl rfl rfl ?_;by_cases hv : cv = 0
   ·have r1 : decide (cv = 0) = true := decide_eq_true hv;rw [if_pos hv] at hst;refine Sz7 j9 j10 d1 d2 hx hz r1 ?_;refine Q9 (L.length - (i + 1)) (by omega) ⟨i + 1, k + 1, rfl, by omega, by omega, hst, ?_⟩;refine Sz1 j9 ?_
    try (first | rfl | trivial | exact ⟨rfl, rfl⟩)
   ·have r1 : decide (cv = 0) = false := decide_eq_false hv;rw [if_neg hv] at hst;refine Sz7 j9 j10 d1 d2 hx hz r1 ?_;refine Q9 (L.length - (i + 1)) (by omega) ⟨i + 1, k, rfl, by omega, by omega, hst, ?_⟩;refine Sz1 j9 ?_
    try (first | rfl | trivial | exact ⟨rfl, rfl⟩)
  ·have d2 : decide ((k : Int) < (M.length : Int)) = false := decide_eq_false (by omega);have hkM : k = M.length := by omega
   have d3 : decide ((k : Int) = (M.length : Int)) = true := decide_eq_true (by omega);refine Sz5 j9 j10 d1 d2 d3 ?_;refine Qe hP ha rfl rfl rfl ?_;refine Sz0 ?_;exact Qk rfl rfl
 ·have d1 : decide ((i : Int) < (L.length : Int)) = false := decide_eq_false (by omega);have hkM := Qsv (by omega) hk1 hsb;have d3 : decide ((k : Int) = (M.length : Int)) = true := decide_eq_true (by omega);refine Sz4 j9 j10 d1 d3 ?_;refine Qe hP ha rfl rfl rfl ?_;refine Sz0 ?_;exact Qk rfl rfl
end Go.Proofs.YtnhofjeojfgfoaaGreat
namespace Go.FW
open Go Go.ChangeShapes Go.WideShapes
section
variable {H : Type} {enc : TypeId × Value -> H} {P : Program} {Qcm : DataW H -> Nat} {N : Nat} {w : World} {base : Nat} {spare : Nat -> Bool} {held : Bool}
end
end Go.FW
