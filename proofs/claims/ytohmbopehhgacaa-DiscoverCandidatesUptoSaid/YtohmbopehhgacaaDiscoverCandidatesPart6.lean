/- Part 6 of the proof of DiscoverCandidates: X3, X4, X5, X6, X7, X8, X9, X14, FwTB. Own lemmas; no conditions. -/
import Derived.Test.YtohmbopehhgacaaDiscoverCandidatesPart5
set_option maxHeartbeats 1000000
set_option linter.unusedSimpArgs false
set_option linter.unusedVariables false
set_option linter.unnecessarySimpa false
set_option maxRecDepth 100000
namespace Go.Proofs.Ytohmbopehhgacaa
open Go Go.FW
def Qcg (l : List (Int × Int)) : List Int := l.flatMap fun p => [p.1, p.2]
theorem Qi7 : ∀ (l : List (Int × Int)), (Qcg l).length = 2 * l.length
 | [] => rfl
 | p :: l => by have := Qi7 l;simp only [Qcg, List.flatMap_cons, List.length_append, List.length_cons, List.length_nil] at this ⊢;omega
theorem Qnd {l : List (Int × Int)} {i : Nat} (h : i < l.length) : Qcg (l.take (i + 1)) = Qcg (l.take i) ++ [l[i].1, l[i].2] := by rw [List.take_succ_eq_append_getElem h];simp only [Qcg, List.flatMap_append, List.flatMap_cons, List.flatMap_nil, List.append_nil]
theorem Qkw {l : List (Int × Int)} (hl : l.length <= 100) : Qo Try.prog 36 [.sl 2 (l.map PV.pr)] (· = PV.mono (Qcg l)) := by
 refine Qz Qat Try.func36 rfl Qwk (by simp [c36]) fun C hP =>?_; simp only [c36];refine Sz0 ?_;refine Qfi 3 900 1 3 (by omega) Tz0 ?_;refine Qaj (by repeat (first | exact Qaf | exact Q9 | exact Qaa | exact Qab | exact Qac | apply Q8 | apply Qae | apply Qaq | apply Qa1 | apply Qa2 | apply Q2 | apply Q3)) [(3, 23)] [22, 23, 900] (fun n J hp => ∃ i, n = l.length - i /\ i <= l.length /\ J 3 = .ms 900 (Qcg (l.take i)).length /\ J 4 = .int .i64 (i : Nat) /\ hp 900 = some ⟨1, 3, Qcq (Qcg (l.take i)), false⟩) l.length ?_ ?_
 ·refine ⟨0, rfl, by omega, ?_⟩;refine Sz0 ?_;exact ⟨rfl, rfl, rfl⟩
 rintro _ J h ⟨i, rfl, hi, j3, j4, hh⟩;refine Sz2 j3 j4 ?_;refine Qr (fun hg =>?_) (fun hg =>?_)
 ·have hi' : i < l.length := by omega
  have ht := Qnd hi';have hln := Qi7 (l.take i);rw [List.length_take] at hln;generalize hx : l[i] = x at *
  obtain ⟨a, b⟩ := x;generalize hA : Qcg (l.take i) = A at *
  have hx1 : (l.map PV.pr)[i]? = some (PV.pr (a, b)) := by rw [List.getElem?_map, List.getElem?_eq_getElem hi', hx]; rfl
  refine Sz3 j3 j4 hx ?_;rw [Qef (ys := Qcq [a, b]) (xs := Qcq A) (n := A.length) (β := 900) (by simp [Qb3]; simp +decide (disch := first | omega | rfl | (simp +decide only [go_sem, ↓reduceIte] <;> rfl) | fail) only [go_sem, ↓reduceIte]) (Tz1 hh) (by omega) (by simp) (by simp; omega) (by simp; omega)];refine Sz3 j3 j4 hx ?_;refine Qao (l.length - (i + 1)) (by omega) ⟨i + 1, rfl, by omega, ?_⟩;rw [ht];simp +decide (disch := first | omega | rfl | (simp +decide only [go_sem, ↓reduceIte, j3, j4, hx, List.length_append] <;> rfl) | fail) only [go_sem, ↓reduceIte, j3, j4, hx, List.length_append];simp only [List.take_of_length_le (Nat.le_of_eq (List.length_map _)), List.map_append, List.map_cons, List.map_nil]
 ·obtain rfl : i = l.length := by omega
  rw [List.take_length] at j3 hh;refine Vz2 j3 hh ?_;refine Q6 ?_ rfl;rw [List.take_of_length_le (by simp)]
theorem Qne {l : List Int} (hl : l.length <= 100) : Qo Try.prog 26 [PV.mono l] (fun r => ∃ L, r = PV.mono L) := by
 refine Qz Qat Try.func26 rfl Qwn (by simp [c26]) fun C hP =>?_; simp only [c26];refine Sz0 ?_;refine Qtg 3 1 Tz0 ?_;refine Qrd (by repeat (first | exact Qaf | exact Q9 | exact Qaa | exact Qab | exact Qac | apply Q8 | apply Qae | apply Qaq | apply Qa1 | apply Qa2 | apply Q2 | apply Q3)) [(3, 44)] [30, 34, 39, 40, 44] (fun n J hp => ∃ (i : Nat) (L : List Int), n = l.length - i /\ i <= l.length /\ L.length = i /\ J 3 = PV.mono L /\ J 4 = .int .i64 (i : Nat)) l.length ?_ ?_
 ·refine ⟨0, [], rfl, by omega, rfl, ?_⟩;refine Sz0 ?_;exact ⟨rfl, rfl⟩
 rintro _ J h ⟨i, L, rfl, hi, hL, j3, j4⟩;refine Sz2 j3 j4 ?_;refine Qr (fun hg =>?_) (fun hg =>?_)
 ·have hi' : i < l.length := by omega
  generalize hx : l[i] = x at *
  refine Sz3 j3 j4 hx ?_;refine Qaj (by repeat (first | exact Qaf | exact Q9 | exact Qaa | exact Qab | exact Qac | apply Q8 | apply Qae | apply Qaq | apply Qa1 | apply Qa2 | apply Q2 | apply Q3)) [(5, 5), (14, 29)] [] (fun n J hp => n <= i /\ J 5 = .int .i64 (n : Nat)) i ?_ ?_
  ·refine ⟨by omega, ?_⟩;exact Tz1 @hL
  rintro k J1 h1 ⟨hk, j5⟩;have hkL : k <= L.length := by omega
  have hfin : ∀ (K0 : Prop), True := fun _ => trivial;by_cases hc : 0 < k /\ ∃ h : k - 1 < L.length, L[k - 1] > x
  ·obtain ⟨h0, hk1, hc⟩ := hc;obtain ⟨k, rfl⟩ : ∃ k', k = k' + 1 := ⟨k - 1, by omega⟩
   have e : ((k + 1 : Nat) : Int) - 1 = (k : Nat) := by omega
   have e2 : k + 1 - 1 = k := by omega
   simp only [e2] at hc hk1;have d1 : decide ((0 : Int) < ((k + 1 : Nat) : Int)) = true := decide_eq_true (by omega);generalize hy : L[k] = y at *
   have d2 : decide (x < y) = true := decide_eq_true (by omega);refine Sz8 j3 j4 j5 e hx hy d1 d2 ?_;refine Qao k (by omega) ⟨by omega, ?_⟩;exact Tz0
  ·rcases Nat.eq_zero_or_pos k with h0 | h0
   ·subst h0;refine Sz4 j3 j4 j5 hx ?_
    repeat' first
     | refine Qfx ?_ ?_
     | rw [bs0 (by omega)]
     | rw [Qfk (xs := []) (ys := ([] : List PV)) Tz0 (by simp <;> omega) (by omega) (by simp <;> omega) (by simp <;> omega)]
     | rw [Qg6 (xs := [] ++ ([] : List PV)) (y :=.int .i64 x) (ty' := 3) (fz := false) Tz0 Qm0 (by omega) (by simp <;> omega) (by simp <;> omega) (by simp <;> omega)]
     | rw [Qfk (xs := ([] ++ ([] : List PV)) ++ [.int .i64 x]) (ys := (Qcq L)) Tz0 (by simp <;> omega) (by omega) (by simp <;> omega) (by simp <;> omega)]
     | simp +decide (disch := first | omega | rfl | (simp +decide only [go_sem, ↓reduceIte, j3, j4, hx] <;> rfl) | fail) only [go_sem, ↓reduceIte, j3, j4, hx]
    all_goals
     simp (disch := decide) only [Qbw, Qei, Qcj];refine Qhy 3 (l.length - (i + 1)) (by decide) ?_ (by omega) ⟨i + 1, x :: L, rfl, by omega, by simp; omega, ?_⟩
     ·exact Uz0
     ·refine Vz0 ?_;simp [Nat.add_comm 1, List.take_of_length_le]
   ·obtain ⟨k, rfl⟩ : ∃ k', k = k' + 1 := ⟨k - 1, by omega⟩
    have e : ((k + 1 : Nat) : Int) - 1 = (k : Nat) := by omega
    have d1 : decide ((0 : Int) < ((k + 1 : Nat) : Int)) = true := decide_eq_true (by omega);have hk2 : k < L.length := by omega
    generalize hy : L[k] = y at *
    have hyx : ¬ x < y := fun h => hc ⟨h0, hk2, by simp only [Nat.add_sub_cancel]; omega⟩;have d2 : decide (x < y) = false := decide_eq_false hyx;refine Sz8 j3 j4 j5 e hx hy d1 d2 ?_
    repeat' first
     | refine Qfx ?_ ?_
     | rw [bs0 (by omega)]
     | rw [Qfk (xs := []) (ys := (Qcq (List.take (k + 1) L))) Tz0 (by simp <;> omega) (by omega) (by simp <;> omega) (by simp <;> omega)]
     | rw [Qg6 (xs := [] ++ (Qcq (List.take (k + 1) L))) (y :=.int .i64 x) (ty' := 3) (fz := false) Tz0 Qm0 (by omega) (by simp <;> omega) (by simp <;> omega) (by simp <;> omega)]
     | rw [Qfk (xs := ([] ++ (Qcq (List.take (k + 1) L))) ++ [.int .i64 x]) (ys := (Qcq (List.drop (k + 1) L))) Tz0 (by simp <;> omega) (by omega) (by simp <;> omega) (by simp <;> omega)]
     | simp +decide (disch := first | omega | rfl | (simp +decide only [go_sem, ↓reduceIte, j3, j4, hx] <;> rfl) | fail) only [go_sem, ↓reduceIte, j3, j4, hx]
    all_goals
     simp (disch := decide) only [Qbw, Qei, Qcj];refine Qhy 3 (l.length - (i + 1)) (by decide) ?_ (by omega) ⟨i + 1, L.take (k + 1) ++ x :: L.drop (k + 1), rfl, by omega, by simp; omega, ?_⟩
     ·exact Uz0
     ·refine Vz0 ?_;simp [Nat.add_comm 1, List.take_of_length_le];exact List.take_of_length_le (by simp; omega)
 ·refine Sz1 j3 ?_;exact ⟨rfl, _, Qag _, _, rfl⟩
def Qkx (k : Int) (p q : Int × Int) (f : Int × List Int) : Prop := if k = 2 /\ (Qdl p q).2 = true then f.1 = 1 else f = (k, if Qfj q p = true then Qcg [q, p] else Qcg [p, q])
theorem Qpn {k : Int} {l : List Int} {p q : Int × Int} (h : k = 2 ∨ k = 3 ∨ k = 4) (hp1 : 0 <= p.1 /\ p.1 < 100) (hp2 : 0 <= p.2 /\ p.2 < 100) (hq1 : 0 <= q.1 /\ q.1 < 100) (hq2 : 0 <= q.2 /\ q.2 < 100) :
  Qo Try.prog 29 [PV.fct (k, l), PV.pr p, PV.pr q] (fun r => ∃ f, r = PV.fct f /\ Qkx k p q f) := by
 have hb := Qpj (p := q) (q := p);have hc := Qm9 (p := p) (q := q);have ha1 := Qkw (l := [q, p]) (by simp);have ha2 := Qkw (l := [p, q]) (by simp);have hcv : (Qdl p q).2 = true -> (Qdl p q).1 = p.1 ∨ (Qdl p q).1 = p.2 := by
  intro hh;unfold Qdl at hh ⊢;split at hh
  ·rw [if_pos (by assumption)]; exact .inl rfl
  ·rw [if_neg (by assumption)];split at hh
   ·rw [if_pos (by assumption)]; exact .inr rfl
   ·cases hh
 have h9 : decide (k = 9) = false := decide_eq_false (by omega);have hsrt := Qne (l := [(Qdl p q).1, p.1 + p.2 - (Qdl p q).1, q.1 + q.2 - (Qdl p q).1]) (by simp);obtain ⟨a, b⟩ := p;obtain ⟨c, d⟩ := q;have hnf : Qkx k (a, b) (c, d) = fun f => if k = 2 /\ (Qdl (a, b) (c, d)).2 = true then f.1 = 1 else f = (k, if Qfj (c, d) (a, b) = true then Qcg [(c, d), (a, b)] else Qcg [(a, b), (c, d)]) := rfl
 rw [hnf];generalize Qdl (a, b) (c, d) = v at *
 generalize Qfj (c, d) (a, b) = w at *
 obtain ⟨x, y⟩ := v;simp only at hcv hp1 hp2 hq1 hq2 hsrt ⊢;have hle : ∀ (k : Int) (M : List Int), PV.le (.agg [.int .i64 k, PV.mono M, .bool false, .nilS, .nilS]) (PV.fct (k, M)) := fun k M => ⟨Qbp _, Qbp _, Qbp _, trivial, trivial, trivial⟩
 refine Qz Qat Try.func29 rfl Qwm (by simp [c29]) fun C hP =>?_; simp only [c29];cases h2 : decide (k = 2)
 ·have e2 := of_decide_eq_false h2;refine Sz2 h2 h9 ?_;refine Qp hP hb rfl rfl rfl ?_;cases w
  ·refine Sz0 ?_;refine Qch hP ha2 Uz0 rfl ?_;refine Vz0 ?_;refine Qe2 ?_;refine Vz0 ?_;exact ⟨rfl, _, hle _ _, _, rfl, by simp [e2]⟩
  ·refine Sz0 ?_;refine Qch hP ha1 Uz0 rfl ?_;refine Vz0 ?_;refine Qe2 ?_;refine Vz0 ?_;exact ⟨rfl, _, hle _ _, _, rfl, by simp [e2]⟩
 ·have e2 := of_decide_eq_true h2;refine Sz1 h2 ?_;refine Qp hP hc rfl rfl rfl ?_;cases y
  ·refine Sz1 h2 ?_;refine Qp hP hb rfl rfl rfl ?_;cases w
   ·refine Sz0 ?_;refine Qch hP ha2 Uz0 rfl ?_;refine Vz0 ?_;refine Qe2 ?_;refine Vz0 ?_;exact ⟨rfl, _, hle _ _, _, rfl, by simp [e2]⟩
   ·refine Sz0 ?_;refine Qch hP ha1 Uz0 rfl ?_;refine Vz0 ?_;refine Qe2 ?_;refine Vz0 ?_;exact ⟨rfl, _, hle _ _, _, rfl, by simp [e2]⟩
  ·have hx : 0 <= x /\ x < 100 := by have := hcv rfl;omega
   refine Sz0 ?_;rw [Qci (by rfl) (by simp [PV.cells]) (by omega)];refine Sz0 ?_;refine Qge hP hsrt (by simp +decide (disch := first | omega | rfl | (simp +decide only [go_sem, ↓reduceIte, Qt, List.contains_cons, List.contains_nil, List.flatMap_cons, List.flatMap_nil, List.append_nil] <;> rfl) | fail) only [go_sem, ↓reduceIte, Qt, List.contains_cons, List.contains_nil, List.flatMap_cons, List.flatMap_nil, List.append_nil]; rfl) rfl ?_;rintro _ ⟨M, rfl⟩;refine Vz0 ?_;refine Qe2 ?_;refine Vz0 ?_;exact ⟨rfl, _, hle _ _, _, rfl, by simp [e2]⟩
theorem Qpo {k a b c d : Int} (h : k = 2 ∨ k = 3 ∨ k = 4) (ha : 0 <= a /\ a < 40) (hb : 0 <= b /\ b < 40) (hc : 0 <= c /\ c < 40) (hd : 0 <= d /\ d < 40) :
  Qo Try.prog 22 [PV.fct (k, [a, b, c, d])] (fun r => ∃ f, r = PV.fct f /\ Qkx k (min a b, max a b) (min c d, max c d) f) := by
 have hr := Qnc (k := k) (l := [a, b, c, d]) h rfl (by
  intro j hj
  match j, hj with
  | 0, _ => exact ha
  | 1, _ => exact hb
  | 2, _ => exact hc
  | 3, _ => exact hd)
 have hq := Qpn (k := k) (l := [a, b, c, d]) (p := (min a b, max a b)) (q := (min c d, max c d)) h (by simp only; omega) (by simp only; omega) (by simp only; omega) (by simp only; omega);have t1 := Qlt (a := a) (b := b);have t2 := Qlt (a := c) (b := d);have d1 : decide (k = 1) = false := decide_eq_false (by omega);have d5 : decide (k = 5) = false := decide_eq_false (by omega);have d6 : decide (k = 6) = false := decide_eq_false (by omega);have d7 : decide (k = 7) = false := decide_eq_false (by omega);have d8 : decide (k = 8) = false := decide_eq_false (by omega);refine Qz Qat Try.func22 rfl Qwp (by simp [c22]) fun C hP =>?_; simp only [c22];simp +decide (disch := first | omega | rfl | (simp +decide only [go_sem, ↓reduceIte] <;> rfl) | fail) only [go_sem, ↓reduceIte];refine Qp hP hr rfl rfl rfl ?_;simp +decide (disch := first | omega | rfl | (simp +decide only [go_sem, ↓reduceIte, d1, d6, d8, d5, d7] <;> rfl) | fail) only [go_sem, ↓reduceIte, d1, d6, d8, d5, d7]
 repeat' first
  | refine Qfx ?_ ?_
  | refine Qp hP t1 rfl rfl rfl ?_
  | refine Qp hP t2 rfl rfl rfl ?_
  | rw [Qpl]
  | rw [Qpm]
  | simp +decide (disch := first | omega | rfl | (simp +decide only [go_sem, ↓reduceIte, d1, d6, d8, d5, d7] <;> rfl) | fail) only [go_sem, ↓reduceIte, d1, d6, d8, d5, d7]
 all_goals
  refine Qfu hP hq rfl rfl rfl ?_;rintro _ ⟨f, rfl, hf⟩;simp +decide (disch := first | omega | rfl | (simp +decide only [go_sem, ↓reduceIte] <;> rfl) | fail) only [go_sem, ↓reduceIte];refine Qe2 ?_;simp +decide (disch := first | omega | rfl | (simp +decide only [go_sem, ↓reduceIte] <;> rfl) | fail) only [go_sem, ↓reduceIte];exact ⟨rfl, _, Qag _, _, rfl, hf⟩
theorem Qet {k : Int} {l : List Int} (hl : l.length <= 100) : Qo Try.prog 14 [.int .i64 k, PV.mono l] (· = PV.fct (k, l)) := by refine Qz Qat Try.func14 rfl Qwf (by simp [c14]) fun C hP =>?_; simp only [c14];refine Sz0 ?_;rw [bs0 (by omega)];refine Sz0 ?_;rw [Qfk (xs := []) (ys := Qcq l) Tz0 (by simp <;> omega) (by omega) (by simp <;> omega) (by simp <;> omega)];refine Sz0 ?_;rw [Qsh (m := l.length) (e := 1) (ty := 3) (xs := Qcq l) (fz := false) rfl Tz0 (by simp)];refine ⟨⟨rfl, by decide⟩, ⟨rfl, by decide⟩, ?_⟩;refine Vz0 ?_;refine Qe2 ?_;refine Vz0 ?_;exact Qst ⟨Qbp _, Qbp _, Qbp _, trivial, trivial, trivial⟩ rfl
def Qa4 (n a : Nat) : List (Int × Int) := (List.range' (a + 1) (n - (a + 1))).map fun (b : Nat) => ((a : Int), (b : Int))
def Qar (n : Nat) : List (Int × Int) := (List.range n).flatMap (Qa4 n)
theorem Qeu (n a : Nat) : (Qa4 n a).length = n - (a + 1) := by simp [Qa4]
theorem Qev {n : Nat} : ∀ i, ((List.range i).flatMap (Qa4 n)).length <= i * n
 | 0 => by simp
 | i + 1 => by have := Qev (n := n) i;have h2 := Qeu n i;rw [List.range_succ, List.flatMap_append, List.length_append];simp only [List.flatMap_cons, List.flatMap_nil, List.append_nil, Nat.succ_mul];omega
theorem Qi8 {n i j : Nat} (h : i + 1 + j < n) : (Qa4 n i).take (j + 1) = (Qa4 n i).take j ++ [((i : Int), ((i + 1 + j : Nat) : Int))] := by
 have hl : j < (Qa4 n i).length := by rw [Qeu]; omega
 rw [List.take_succ_eq_append_getElem hl];simp [Qa4]
theorem Qky {n i j : Nat} (h : ¬ i + 1 + j < n) : (Qa4 n i).take j = Qa4 n i := List.take_of_length_le (by rw [Qeu]; omega)
theorem Qgi {n : Nat} (hn : n <= 100) : Qo Try.prog 16 [.int .i64 n] (· = .sl 2 ((Qar n).map PV.pr)) := by
 refine Qz Qat Try.func16 rfl Qwg (by simp [c16]) fun C hP =>?_; simp only [c16];refine Sz0 ?_;refine Qfi 3 900 2 54 (by omega) Tz0 ?_;refine Qaj (by repeat (first | exact Qaf | exact Q9 | exact Qaa | exact Qab | exact Qac | apply Q8 | apply Qae | apply Qaq | apply Qa1 | apply Qa2 | apply Q2 | apply Q3)) [(3, 23)] [22, 23, 900] (fun m J hp => ∃ i, m = n - i /\ i <= n /\ J 3 = .ms 900 ((List.range i).flatMap (Qa4 n)).length /\ J 4 = .int .i64 (i : Nat) /\ hp 900 = some ⟨2, 54, ((List.range i).flatMap (Qa4 n)).map PV.pr, false⟩) n ?_ ?_
 ·refine ⟨0, rfl, by omega, ?_⟩;refine Sz0 ?_;exact ⟨rfl, rfl, rfl⟩
 rintro _ J h ⟨i, rfl, hi, j3, ji, hh⟩;refine Sz2 j3 ji ?_;refine Qr (fun hg =>?_) (fun hg =>?_)
 ·have hi' : i < n := by omega
  have hs1 := Qev (n := n) i;have hs2 : i * n <= 100 * 100 := Nat.mul_le_mul (by omega) hn;have hstep : (List.range (i + 1)).flatMap (Qa4 n) = (List.range i).flatMap (Qa4 n) ++ Qa4 n i := by rw [List.range_succ]; simp
  generalize (List.range i).flatMap (Qa4 n) = A at *
  refine Sz2 j3 ji ?_;refine Qaj (by repeat (first | exact Qaf | exact Q9 | exact Qaa | exact Qab | exact Qac | apply Q8 | apply Qae | apply Qaq | apply Qa1 | apply Qa2 | apply Q2 | apply Q3)) [(3, 3), (5, 5), (13, 23)] [22, 23, 900] (fun m J hp => ∃ j, m = n - j /\ j <= n /\ (j = 0 ∨ i + 1 + j <= n) /\ J 3 = .ms 900 (A ++ (Qa4 n i).take j).length /\ J 5 = .int .i64 ((i + 1 + j : Nat) : Int) /\ hp 900 = some ⟨2, 54, (A ++ (Qa4 n i).take j).map PV.pr, false⟩) n ?_ ?_
  ·refine ⟨0, rfl, by omega, by omega, ?_⟩;refine Sz2 j3 hh ?_;simp
  rintro _ J1 h1 ⟨j, rfl, hj, hj2, j3b, j5, hh1⟩;have hsl := Qeu n i;have htl : ((Qa4 n i).take j).length <= n := by rw [List.length_take]; omega
  refine Sz4 j3 ji @j3b j5 ?_;refine Qr (fun hg1 =>?_) (fun hg1 =>?_)
  ·have ht := Qi8 (n := n) (i := i) (j := j) (by omega);have e5 : ((i + 1 + j : Nat) : Int) + 1 = ((i + 1 + (j + 1) : Nat) : Int) := by omega
   refine Sz4 j3 ji @j3b j5 ?_;rw [Qbq (f := PV.pr) (y := ((i : Int), ((i + 1 + j : Nat) : Int))) (xs := A ++ (Qa4 n i).take j) (ty' := 54) (fz := false) (Tz1 hh1) Qm0 (by omega) rfl (by simp; omega) (by simp; omega)];refine Sz5 j3 ji @j3b j5 e5 ?_;refine Qao (n - (j + 1)) (by omega) ⟨j + 1, rfl, by omega, by omega, ?_⟩;rw [ht];simp +decide (disch := first | omega | rfl | (simp +decide only [go_sem, ↓reduceIte, List.append_assoc, List.length_append, Nat.add_assoc] <;> rfl) | fail) only [go_sem, ↓reduceIte, List.append_assoc, List.length_append, Nat.add_assoc]
  ·have ht := Qky (n := n) (i := i) (j := j) (by omega);rw [ht] at j3b hh1;refine Sz4 j3 ji @j3b j5 ?_;simp (disch := decide) only [Qbw, Qei, Qcj];refine Qao (n - (i + 1)) (by omega) ⟨i + 1, rfl, by omega, ?_⟩;rw [hstep];exact Tz2 @j3b hh1
 ·obtain rfl : i = n := by omega
  refine Vz2 j3 hh ?_;exact Q6 (by rw [List.take_of_length_le (by simp)]; rfl) rfl
theorem Qnf {n : Nat} (hn : n <= 100) : Qo Try.prog 20 [.int .i64 n] (· = .sl 2 ((Qar n).map PV.pr)) := by
 refine Qz Qat Try.func20 rfl Qwc (by simp [c20]) fun C hP =>?_; simp only [c20];refine Sz0 ?_;refine Qfi 3 900 2 47 (by omega) Tz0 ?_;refine Qaj (by repeat (first | exact Qaf | exact Q9 | exact Qaa | exact Qab | exact Qac | apply Q8 | apply Qae | apply Qaq | apply Qa1 | apply Qa2 | apply Q2 | apply Q3)) [(3, 5), (7, 23)] [21, 22, 900] (fun m J hp => ∃ i, m = n - i /\ i <= n /\ J 3 = .ms 900 ((List.range i).flatMap (Qa4 n)).length /\ J 7 = .int .i64 (i : Nat) /\ hp 900 = some ⟨2, 47, ((List.range i).flatMap (Qa4 n)).map PV.pr, false⟩) n ?_ ?_
 ·refine ⟨0, rfl, by omega, ?_⟩;refine Sz0 ?_;exact ⟨rfl, rfl, rfl⟩
 rintro _ J h ⟨i, rfl, hi, j3, ji, hh⟩;refine Sz2 j3 ji ?_;refine Qr (fun hg =>?_) (fun hg =>?_)
 ·have hi' : i < n := by omega
  have hs1 := Qev (n := n) i;have hs2 : i * n <= 100 * 100 := Nat.mul_le_mul (by omega) hn;have hstep : (List.range (i + 1)).flatMap (Qa4 n) = (List.range i).flatMap (Qa4 n) ++ Qa4 n i := by rw [List.range_succ]; simp
  generalize (List.range i).flatMap (Qa4 n) = A at *
  refine Sz2 j3 ji ?_;refine Qaj (by repeat (first | exact Qaf | exact Q9 | exact Qaa | exact Qab | exact Qac | apply Q8 | apply Qae | apply Qaq | apply Qa1 | apply Qa2 | apply Q2 | apply Q3)) [(3, 3), (5, 5), (12, 22)] [21, 22, 900] (fun m J hp => ∃ j, m = n - j /\ j <= n /\ (j = 0 ∨ i + 1 + j <= n) /\ J 3 = .ms 900 (A ++ (Qa4 n i).take j).length /\ J 5 = .int .i64 ((i + 1 + j : Nat) : Int) /\ hp 900 = some ⟨2, 47, (A ++ (Qa4 n i).take j).map PV.pr, false⟩) n ?_ ?_
  ·refine ⟨0, rfl, by omega, by omega, ?_⟩;refine Sz2 j3 hh ?_;simp
  rintro _ J1 h1 ⟨j, rfl, hj, hj2, j3b, j5, hh1⟩;have hsl := Qeu n i;have htl : ((Qa4 n i).take j).length <= n := by rw [List.length_take]; omega
  refine Sz4 j3 ji @j3b j5 ?_;refine Qr (fun hg1 =>?_) (fun hg1 =>?_)
  ·have ht := Qi8 (n := n) (i := i) (j := j) (by omega);have e5 : ((i + 1 + j : Nat) : Int) + 1 = ((i + 1 + (j + 1) : Nat) : Int) := by omega
   refine Sz4 j3 ji @j3b j5 ?_;rw [Qbq (f := PV.pr) (y := ((i : Int), ((i + 1 + j : Nat) : Int))) (xs := A ++ (Qa4 n i).take j) (ty' := 47) (fz := false) (Tz1 hh1) Qm0 (by omega) rfl (by simp; omega) (by simp; omega)];refine Sz5 j3 ji @j3b j5 e5 ?_;refine Qao (n - (j + 1)) (by omega) ⟨j + 1, rfl, by omega, by omega, ?_⟩;rw [ht];simp +decide (disch := first | omega | rfl | (simp +decide only [go_sem, ↓reduceIte, List.append_assoc, List.length_append, Nat.add_assoc] <;> rfl) | fail) only [go_sem, ↓reduceIte, List.append_assoc, List.length_append, Nat.add_assoc]
  ·have ht := Qky (n := n) (i := i) (j := j) (by omega);rw [ht] at j3b hh1;refine Sz4 j3 ji @j3b j5 ?_;simp (disch := decide) only [Qbw, Qei, Qcj];refine Qao (n - (i + 1)) (by omega) ⟨i + 1, rfl, by omega, ?_⟩;rw [hstep];exact Tz2 @j3b hh1
 ·obtain rfl : i = n := by omega
  refine Vz2 j3 hh ?_;exact Q6 (by rw [List.take_of_length_le (by simp)]; rfl) rfl
def Qgs (k : Int) (p q : Int × Int) : Option (Int × List Int) := if k = 2 /\ (Qdl p q).2 = true then none else some (k, if Qfj q p = true then Qcg [q, p] else Qcg [p, q])
def Q5 (k : Int) : List (Int × Int) -> List (Int × List Int)
 | [] => []
 | s :: S => S.filterMap (Qgs k s) ++ Q5 k S
theorem Qr0 {k : Int} {p q : Int × Int} {f : Int × List Int} (h : Qkx k p q f) (hk : k = 2 ∨ k = 3 ∨ k = 4) : (f.1 = k /\ Qgs k p q = some f) ∨ (f.1 ≠ k /\ Qgs k p q = none) := by
 unfold Qkx at h;unfold Qgs;split at h
 ·rename_i h1;rw [if_pos h1];exact .inr ⟨by omega, rfl⟩
 ·rename_i h1;rw [if_neg h1];subst h;exact .inl ⟨rfl, rfl⟩
theorem Qh0 {k : Int} : ∀ S : List (Int × Int), (Q5 k S).length <= S.length * S.length
 | [] => by simp [Q5]
 | s :: S => by have h1 := Qh0 (k := k) S;have h2 := List.length_filterMap_le (Qgs k s) S;simp only [Q5, List.length_append, List.length_cons, Nat.succ_mul, Nat.mul_succ];omega
theorem Qkz {n : Nat} {p : Int × Int} (h : p ∈ Qar n) : 0 <= p.1 /\ p.1 < p.2 /\ p.2 < n := by simp only [Qar, Qa4, List.mem_flatMap, List.mem_range, List.mem_map, List.mem_range'_1] at h;obtain ⟨a, ha, b, hb, rfl⟩ := h;simp only;omega
theorem Qgj {k : Int} {n : Nat} (hk : k = 2 ∨ k = 3 ∨ k = 4) (hn : n <= 40) : Qo Try.prog 15 [.int .i64 k, .int .i64 n] (· = .sl 5 ((Q5 k (Qar n)).map PV.fct)) := by
 have hseg := Qgi (n := n) (by omega);have hmem : ∀ p ∈ Qar n, 0 <= p.1 /\ p.1 < p.2 /\ p.2 < n := fun p hp => Qkz hp;have hSl := Qev (n := n) n;have hnn : n * n <= 40 * 40 := Nat.mul_le_mul hn hn;change (Qar n).length <= _ at hSl;generalize Qar n = S at *
 have hPl := Qh0 (k := k) S;have hSS : S.length * S.length <= 1600 * 1600 := Nat.mul_le_mul (by omega) (by omega);refine Qz Qat Try.func15 rfl Qwh (by simp [c15]) fun C hP =>?_; simp only [c15];simp +decide (disch := first | omega | rfl | (simp +decide only [go_sem, ↓reduceIte] <;> rfl) | fail) only [go_sem, ↓reduceIte];refine Qp hP hseg rfl rfl rfl ?_;simp +decide (disch := first | omega | rfl | (simp +decide only [go_sem, ↓reduceIte] <;> rfl) | fail) only [go_sem, ↓reduceIte];refine Qfi 5 900 5 38 (by omega) (by simp +decide (disch := first | omega | rfl | (simp +decide only [go_sem, ↓reduceIte] <;> rfl) | fail) only [go_sem, ↓reduceIte]) ?_;refine Qaj (by repeat (first | exact Qaf | exact Q9 | exact Qaa | exact Qab | exact Qac | apply Q8 | apply Qae | apply Qaq | apply Qa1 | apply Qa2 | apply Q2 | apply Q3)) [(5, 5), (7, 9), (12, 57)] [9, 47, 56, 57, 900] (fun m J hp => ∃ (i : Nat) (X : List (Int × List Int)), m = S.length - i /\ i <= S.length /\ X ++ Q5 k (S.drop i) = Q5 k S /\ J 5 = .ms 900 X.length /\ J 7 = .int .i64 (i : Nat) /\ hp 900 = some ⟨5, 38, X.map PV.fct, false⟩) S.length ?_ ?_
 ·refine ⟨0, [], rfl, by omega, by simp, ?_⟩;simp +decide (disch := first | omega | rfl | (simp +decide only [go_sem, ↓reduceIte] <;> rfl) | fail) only [go_sem, ↓reduceIte];rfl
 rintro _ J h ⟨i, X, rfl, hi, hX, j5, j7, hh⟩;simp +decide (disch := first | omega | rfl | (simp +decide only [go_sem, ↓reduceIte, j5, j7] <;> rfl) | fail) only [go_sem, ↓reduceIte, j5, j7];refine Qr (fun hg =>?_) (fun hg =>?_)
 ·have hi' : i < S.length := by omega
  have hd : S.drop i = S[i] :: S.drop (i + 1) := List.drop_eq_getElem_cons hi';have hsm := hmem _ (List.getElem_mem hi');generalize hs : S[i] = s at *
  obtain ⟨a, b⟩ := s;rw [hd, Q5] at hX;have e7 : (i : Int) + 1 = ((i + 1 + 0 : Nat) : Int) := by omega
  simp +decide (disch := first | omega | rfl | (simp +decide only [go_sem, ↓reduceIte, j5, j7, e7] <;> rfl) | fail) only [go_sem, ↓reduceIte, j5, j7, e7];refine Qaj (by repeat (first | exact Qaf | exact Q9 | exact Qaa | exact Qab | exact Qac | apply Q8 | apply Qae | apply Qaq | apply Qa1 | apply Qa2 | apply Q2 | apply Q3)) [(5, 5), (8, 9), (20, 57)] [9, 47, 56, 57, 900] (fun m J hp => ∃ (j : Nat) (X : List (Int × List Int)), m = S.length - (i + 1) - j /\ i + 1 + j <= S.length /\ X ++ ((S.drop (i + 1 + j)).filterMap (Qgs k (a, b)) ++ Q5 k (S.drop (i + 1))) = Q5 k S /\ J 5 = .ms 900 X.length /\ J 8 = .int .i64 ((i + 1 + j : Nat) : Int) /\ hp 900 = some ⟨5, 38, X.map PV.fct, false⟩) (S.length - (i + 1)) ?_ ?_
  ·refine ⟨0, X, rfl, by omega, hX, ?_⟩;simp +decide (disch := first | omega | rfl | (simp +decide only [go_sem, ↓reduceIte, j5, hh] <;> rfl) | fail) only [go_sem, ↓reduceIte, j5, hh]
  rintro _ J1 h1 ⟨j, Y, rfl, hj, hY, j5b, j8, hh1⟩;simp +decide (disch := first | omega | rfl | (simp +decide only [go_sem, ↓reduceIte, j5, j7, j5b, j8] <;> rfl) | fail) only [go_sem, ↓reduceIte, j5, j7, j5b, j8];refine Qr (fun hg1 =>?_) (fun hg1 =>?_)
  ·have hj' : i + 1 + j < S.length := by omega
   have hd1 : S.drop (i + 1 + j) = S[i + 1 + j] :: S.drop (i + 1 + j + 1) := List.drop_eq_getElem_cons hj';have htm := hmem _ (List.getElem_mem hj');generalize ht : S[i + 1 + j] = t at *
   obtain ⟨c, d⟩ := t;rw [hd1, List.filterMap_cons] at hY;have hfk := Qet (k := k) (l := [a, b, c, d]) (by simp);have hnm := Qpo (k := k) (a := a) (b := b) (c := c) (d := d) hk (by omega) (by omega) (by omega) (by omega);rw [Int.min_eq_left (by omega), Int.max_eq_right (by omega), Int.min_eq_left (by omega), Int.max_eq_right (by omega)] at hnm;simp +decide (disch := first | omega | rfl | (simp +decide only [go_sem, ↓reduceIte, j5, j7, j5b, j8, hs, ht] <;> rfl) | fail) only [go_sem, ↓reduceIte, j5, j7, j5b, j8, hs, ht]
   repeat' first
    | refine Qfx ?_ ?_
    | rw [Qdp (by omega)]
    | rw [Qdq (by omega)]
    | rw [Qci (by rfl) (by simp [PV.cells]) (by omega)]
    | refine Qch hP hfk (by simp +decide (disch := first | omega | rfl | (simp +decide only [go_sem, ↓reduceIte, Qt, List.contains_cons, List.contains_nil, List.flatMap_cons, List.flatMap_nil, List.append_nil] <;> rfl) | fail) only [go_sem, ↓reduceIte, Qt, List.contains_cons, List.contains_nil, List.flatMap_cons, List.flatMap_nil, List.append_nil]; rfl) rfl ?_
    | (refine Qfu hP hnm rfl rfl rfl ?_; rintro _ ⟨f, rfl, hf⟩)
    | simp +decide (disch := first | omega | rfl | (simp +decide only [go_sem, ↓reduceIte, j5, j7, j5b, j8, hs, ht, Qt, List.contains_cons, List.contains_nil, List.flatMap_cons, List.flatMap_nil, List.append_nil] <;> rfl) | fail) only [go_sem, ↓reduceIte, j5, j7, j5b, j8, hs, ht, Qt, List.contains_cons, List.contains_nil, List.flatMap_cons, List.flatMap_nil, List.append_nil]
   all_goals
    have hYl : Y.length <= 1600 * 1600 := by have := congrArg List.length hY;simp only [List.length_append] at this;omega
    rcases Qr0 hf hk with ⟨h1, h2⟩ | ⟨h1, h2⟩
    ·rw [h2] at hY;have d1 : decide (f.1 = k) = true := decide_eq_true h1;simp +decide (disch := first | omega | rfl | (simp +decide only [go_sem, ↓reduceIte, d1, j5, j5b] <;> rfl) | fail) only [go_sem, ↓reduceIte, d1, j5, j5b];rw [Qbq (f := PV.fct) (y := f) (xs := Y) (ty' := 38) (fz := false) (by simp +decide (disch := first | omega | rfl | (simp +decide only [go_sem, ↓reduceIte, hh1, Qt, List.contains_cons, List.contains_nil, List.flatMap_cons, List.flatMap_nil, List.append_nil] <;> rfl) | fail) only [go_sem, ↓reduceIte, hh1, Qt, List.contains_cons, List.contains_nil, List.flatMap_cons, List.flatMap_nil, List.append_nil]) (by simp +decide (disch := first | omega | rfl | (simp +decide only [go_sem, ↓reduceIte, Qt, List.contains_cons, List.contains_nil, List.flatMap_cons, List.flatMap_nil, List.append_nil] <;> rfl) | fail) only [go_sem, ↓reduceIte, Qt, List.contains_cons, List.contains_nil, List.flatMap_cons, List.flatMap_nil, List.append_nil] <;> rfl) (by omega) rfl (by omega) (by omega)];simp +decide (disch := first | omega | rfl | (simp +decide only [go_sem, ↓reduceIte, j5, j7, j5b, j8] <;> rfl) | fail) only [go_sem, ↓reduceIte, j5, j7, j5b, j8];refine Qao (S.length - (i + 1) - (j + 1)) (by omega) ⟨j + 1, Y ++ [f], rfl, by omega, by rw [List.append_assoc]; exact hY, ?_⟩;simp +decide (disch := first | omega | rfl | (simp +decide only [go_sem, ↓reduceIte, List.length_append, Nat.add_assoc] <;> rfl) | fail) only [go_sem, ↓reduceIte, List.length_append, Nat.add_assoc]
     try rfl
    ·rw [h2] at hY;have d1 : decide (f.1 = k) = false := decide_eq_false h1;simp +decide (disch := first | omega | rfl | (simp +decide only [go_sem, ↓reduceIte, d1, j5, j7, j5b, j8] <;> rfl) | fail) only [go_sem, ↓reduceIte, d1, j5, j7, j5b, j8];refine Qao (S.length - (i + 1) - (j + 1)) (by omega) ⟨j + 1, Y, rfl, by omega, hY, ?_⟩;simp +decide (disch := first | omega | rfl | (simp +decide only [go_sem, ↓reduceIte, j5b, hh1, Qt, List.contains_cons, List.contains_nil, List.flatMap_cons, List.flatMap_nil, List.append_nil, Nat.add_assoc] <;> rfl) | fail) only [go_sem, ↓reduceIte, j5b, hh1, Qt, List.contains_cons, List.contains_nil, List.flatMap_cons, List.flatMap_nil, List.append_nil, Nat.add_assoc]
     try rfl
  ·have e : i + 1 + j = S.length := by omega
   rw [List.drop_eq_nil_of_le (by omega), List.filterMap_nil, List.nil_append] at hY;simp +decide (disch := first | omega | rfl | (simp +decide only [go_sem, ↓reduceIte, j5, j7, j5b, j8] <;> rfl) | fail) only [go_sem, ↓reduceIte, j5, j7, j5b, j8];simp (disch := decide) only [Qbw, Qei, Qcj];refine Qao (S.length - (i + 1)) (by omega) ⟨i + 1, Y, rfl, by omega, hY, ?_⟩;simp +decide (disch := first | omega | rfl | (simp +decide only [go_sem, ↓reduceIte, j5b, hh1] <;> rfl) | fail) only [go_sem, ↓reduceIte, j5b, hh1]
 ·obtain rfl : i = S.length := by omega
  rw [List.drop_length, Q5, List.append_nil] at hX;subst hX;simp +decide (disch := first | omega | rfl | (simp +decide only [go_sem, ↓reduceIte, j5, hh, Qt, List.contains_cons, List.contains_nil, List.flatMap_cons, List.flatMap_nil, List.append_nil] <;> rfl) | fail) only [go_sem, ↓reduceIte, j5, hh, Qt, List.contains_cons, List.contains_nil, List.flatMap_cons, List.flatMap_nil, List.append_nil];exact Q6 (by rw [List.take_of_length_le (by simp)]) rfl
def upI (n a : Nat) : List Nat := List.range' a (n - a)
theorem Qdr {n a : Nat} (h : a < n) : upI n a = a :: upI n (a + 1) := by unfold upI;rw [show n - a = (n - (a + 1)) + 1 by omega, List.range'_succ]
theorem Qej {n a : Nat} (h : n <= a) : upI n a = [] := by unfold upI;rw [show n - a = 0 by omega]; rfl
def Qr1 (a b c : Nat) : Int × List Int := (1, [(a : Int), (b : Int), (c : Int)])
def Qng (n a b : Nat) : List (Int × List Int) := (upI n (b + 1)).map (Qr1 a b)
def Qk0 (n a : Nat) : List (Int × List Int) := (upI n (a + 1)).flatMap (Qng n a)
def Qgk (m : Nat) (s : Int × Int) : Option (Int × List Int) := if (m : Int) ≠ s.1 /\ (m : Int) ≠ s.2 then some (5, [(m : Int), s.1, s.2]) else none
def Qr2 (s : Int × Int) (c d : Nat) : Int × List Int := (6, [s.1, s.2, (c : Int), (d : Int)])
def Qnh (n : Nat) (s : Int × Int) (c : Nat) : List (Int × List Int) := (upI n (c + 1)).map (Qr2 s c)
def Qg9 (n : Nat) (s : Int × Int) : List (Int × List Int) := (upI n (s.2.toNat + 1)).flatMap (Qnh n s)
def Qha (s : Int × Int) : Int × List Int := (8, [s.1, s.2])
def Qh1 (n : Nat) : List (Int × List Int) :=
 (upI n 0).flatMap (Qk0 n) ++ (Q5 2 (Qar n) ++ (Q5 3 (Qar n) ++ (Q5 4 (Qar n) ++ ((upI n 0).flatMap (fun m => (Qar n).filterMap (Qgk m)) ++ ((Qar n).flatMap (Qg9 n) ++ (Qar n).map Qha)))))
theorem Qpp : ∀ n, n < 8 -> (Qh1 n).length <= 2000 := by decide +kernel
theorem Qk1 {n : Int} (h : n < 0 ∨ 40 < n) : Qo Try.prog 6 [.int .i64 n] (· = .tup [.sl 5 (([] : List (Int × List Int)).map PV.fct), .int .i64 2]) := by
 refine Qz Qat Try.func6 rfl Qm7 (by simp [c6]) fun C hP =>?_; simp only [c6];refine Sz0 ?_;cases h1 : decide (n < 0)
 ·have e1 := of_decide_eq_false h1;have d2 : decide (40 < n) = true := decide_eq_true (by omega);refine Sz2 h1 d2 ?_;exact Qfv rfl rfl rfl trivial (Qag _)
 ·refine Sz1 h1 ?_;exact Qfv rfl rfl rfl trivial (Qag _)
theorem Qiq {n : Int} (h : 10 < n) (h2 : n <= 40) : Qo Try.prog 6 [.int .i64 n] (· = .tup [.sl 5 (([] : List (Int × List Int)).map PV.fct), .int .i64 4]) := by have d1 : decide (n < 0) = false := decide_eq_false (by omega);have d2 : decide (40 < n) = false := decide_eq_false (by omega);have d3 : decide (10 < n) = true := decide_eq_true h;refine Qz Qat Try.func6 rfl Qm7 (by simp [c6]) fun C hP =>?_; simp only [c6];refine Sz3 d1 d2 d3 ?_;exact Qfv rfl rfl rfl trivial (Qag _)
theorem Qr3 {n : Nat} (hn : n < 8) : Qo Try.prog 6 [.int .i64 n] (· = .tup [.sl 5 ((Qh1 n).map PV.fct), .int .i64 0]) := by
 have hT := Qpp n hn;have hp2 := Qgj (k := 2) (n := n) (.inl rfl) (by omega);have hp3 := Qgj (k := 3) (n := n) (.inr (.inl rfl)) (by omega);have hp4 := Qgj (k := 4) (n := n) (.inr (.inr rfl)) (by omega);have hseg := Qgi (n := n) (by omega);have hmem : ∀ p ∈ Qar n, 0 <= p.1 /\ p.1 < p.2 /\ p.2 < n := fun p hp => Qkz hp;have hTd : Qh1 n = (upI n 0).flatMap (Qk0 n) ++ (Q5 2 (Qar n) ++ (Q5 3 (Qar n) ++ (Q5 4 (Qar n) ++ ((upI n 0).flatMap (fun m => (Qar n).filterMap (Qgk m)) ++ ((Qar n).flatMap (Qg9 n) ++ (Qar n).map Qha))))) := rfl;have hSl : (Qar n).length <= 49 := Nat.le_trans (Qev (n := n) n) (Nat.mul_le_mul (show n <= 7 by omega) (show n <= 7 by omega));generalize Qh1 n = T at *
 generalize Qar n = S at *
 have d1 : decide ((n : Int) < 0) = false := decide_eq_false (by omega);have d2 : decide (40 < (n : Int)) = false := decide_eq_false (by omega);have d3 : decide (10 < (n : Int)) = false := decide_eq_false (by omega);obtain ⟨R0, hR0⟩ : ∃ R0, R0 = Q5 2 S ++ (Q5 3 S ++ (Q5 4 S ++ ((upI n 0).flatMap (fun m => S.filterMap (Qgk m)) ++ (S.flatMap (Qg9 n) ++ S.map Qha)))) := ⟨_, rfl⟩
 rw [<- hR0] at hTd;refine Qz Qat Try.func6 rfl Qm7 (by simp [c6]) fun C hP =>?_; simp only [c6];refine Sz3 d1 d2 d3 ?_;refine Qfi 4 900 5 38 (by omega) Tz0 ?_;refine Qaj (by repeat (first | exact Qaf | exact Q9 | exact Qaa | exact Qab | exact Qac | apply Q8 | apply Qae | apply Qaq | apply Qa1 | apply Qa2 | apply Q2 | apply Q3)) [(4, 7), (23, 49)] [46, 48, 49, 900] (fun k J hp => ∃ (a : Nat) (X : List (Int × List Int)), k = n - a /\ a <= n /\ X ++ ((upI n a).flatMap (Qk0 n) ++ R0) = T /\ J 5 = .int .i64 (a : Nat) /\ J 4 = .ms 900 X.length /\ hp 900 = some ⟨5, 38, X.map PV.fct, false⟩) n ?_ ?_
 ·refine ⟨0, [], rfl, by omega, by rw [hTd]; rfl, ?_⟩;refine Sz0 ?_
  first | rfl | exact ⟨rfl, rfl⟩ | exact ⟨rfl, rfl, rfl⟩
 rintro _ J0 h0 ⟨a, Y0, rfl, hl0, hX0, js0, jo0, hh0⟩;refine Sz3 d1 js0 jo0 ?_;refine Qr (fun hg0 =>?_) (fun hg0 =>?_)
 ·have hv0 : a < n := by omega
  rw [Qdr hv0, List.flatMap_cons, List.append_assoc] at hX0;obtain ⟨R1, hR1⟩ : ∃ R1, R1 = (upI n (a + 1)).flatMap (Qk0 n) ++ R0 := ⟨_, rfl⟩
  rw [<- hR1, Qk0] at hX0;refine Sz3 d1 js0 jo0 ?_;refine Qaj (by repeat (first | exact Qaf | exact Q9 | exact Qaa | exact Qab | exact Qac | apply Q8 | apply Qae | apply Qaq | apply Qa1 | apply Qa2 | apply Q2 | apply Q3)) [(4, 4), (6, 7), (30, 49)] [46, 48, 49, 900] (fun k J hp => ∃ (b : Nat) (X : List (Int × List Int)), k = n - b /\ b <= n /\ X ++ ((upI n b).flatMap (Qng n a) ++ R1) = T /\ J 6 = .int .i64 (b : Nat) /\ J 4 = .ms 900 X.length /\ hp 900 = some ⟨5, 38, X.map PV.fct, false⟩) (n - (a + 1)) ?_ ?_
  ·refine ⟨a + 1, Y0, rfl, by omega, hX0, ?_⟩;exact Tz2 jo0 hh0
  rintro _ J1 h1 ⟨b, Y1, rfl, hl1, hX1, js1, jo1, hh1⟩;refine Sz4 js0 jo0 js1 jo1 ?_;refine Qr (fun hg1 =>?_) (fun hg1 =>?_)
  ·have hv1 : b < n := by omega
   rw [Qdr hv1, List.flatMap_cons, List.append_assoc] at hX1;obtain ⟨R2, hR2⟩ : ∃ R2, R2 = (upI n (b + 1)).flatMap (Qng n a) ++ R1 := ⟨_, rfl⟩
   rw [<- hR2, Qng] at hX1;refine Sz4 js0 jo0 js1 jo1 ?_;refine Qaj (by repeat (first | exact Qaf | exact Q9 | exact Qaa | exact Qab | exact Qac | apply Q8 | apply Qae | apply Qaq | apply Qa1 | apply Qa2 | apply Q2 | apply Q3)) [(4, 4), (7, 7), (37, 49)] [46, 48, 49, 900] (fun k J hp => ∃ (c : Nat) (X : List (Int × List Int)), k = n - c /\ c <= n /\ X ++ ((upI n c).map (Qr1 a b) ++ R2) = T /\ J 7 = .int .i64 (c : Nat) /\ J 4 = .ms 900 X.length /\ hp 900 = some ⟨5, 38, X.map PV.fct, false⟩) (n - (b + 1)) ?_ ?_
   ·refine ⟨b + 1, Y1, rfl, by omega, hX1, ?_⟩;exact Tz2 jo1 hh1
   rintro _ J2 h2 ⟨c, Y2, rfl, hl2, hX2, js2, jo2, hh2⟩;refine Sz5 js0 js1 jo1 js2 jo2 ?_;refine Qr (fun hg2 =>?_) (fun hg2 =>?_)
   ·have hv2 : c < n := by omega
    rw [Qdr hv2, List.map_cons, List.cons_append, Qr1] at hX2;refine Sz5 js0 js1 jo1 js2 jo2 ?_;have hYl : Y2.length <= 2000 := by have := congrArg List.length hX2; simp only [List.length_append] at this; omega
    have hfk := Qet (k := 1) (l := [(a : Int), (b : Int), (c : Int)]) (by simp)
    repeat' first
     | rw [Qdp (by omega)]
     | rw [Qdq (by omega)]
     | rw [Qci (by rfl) (by simp [PV.cells]) (by omega)]
     | refine Qch hP hfk (by simp +decide (disch := first | omega | rfl | (simp +decide only [go_sem, ↓reduceIte, Qt, List.contains_cons, List.contains_nil, List.flatMap_cons, List.flatMap_nil, List.append_nil] <;> rfl) | fail) only [go_sem, ↓reduceIte, Qt, List.contains_cons, List.contains_nil, List.flatMap_cons, List.flatMap_nil, List.append_nil]; rfl) rfl ?_
     | rw [Qbq (f := PV.fct) (y := (1, [(a : Int), (b : Int), (c : Int)])) (xs := Y2) (ty' := 38) (fz := false) (Uz1 hh2) Qm1 (by omega) rfl (by omega) (by omega)]
     | simp +decide (disch := first | omega | rfl | (simp +decide only [go_sem, ↓reduceIte, js0, js1, jo1, js2, jo2, Qt, List.contains_cons, List.contains_nil, List.flatMap_cons, List.flatMap_nil, List.append_nil] <;> rfl) | fail) only [go_sem, ↓reduceIte, js0, js1, jo1, js2, jo2, Qt, List.contains_cons, List.contains_nil, List.flatMap_cons, List.flatMap_nil, List.append_nil]
    refine Qao (n - (c + 1)) (by omega) ⟨c + 1, Y2 ++ [(1, [(a : Int), (b : Int), (c : Int)])], rfl, by omega, by rw [List.append_assoc]; exact hX2, ?_⟩;simp +decide (disch := first | omega | rfl | (simp +decide only [go_sem, ↓reduceIte, List.length_append] <;> rfl) | fail) only [go_sem, ↓reduceIte, List.length_append]
    try rfl
    try trivial
   ·have hv2 : n <= c := by omega
    rw [Qej hv2, List.map_nil, List.nil_append] at hX2;refine Sz5 js0 js1 jo1 js2 jo2 ?_;refine Qd5 (n - (b + 1)) (by decide) (by decide) (by omega) ⟨b + 1, Y2, rfl, by omega, by rw [<- hR2]; exact hX2, ?_⟩;refine Sz2 jo2 hh2 ?_
    try trivial
  ·have hv1 : n <= b := by omega
   rw [Qej hv1, List.flatMap_nil, List.nil_append] at hX1;refine Sz4 js0 jo0 js1 jo1 ?_;refine Qd5 (n - (a + 1)) (by decide) (by decide) (by omega) ⟨a + 1, Y1, rfl, by omega, by rw [<- hR1]; exact hX1, ?_⟩;refine Sz2 jo1 hh1 ?_
   try trivial
 ·have hv0 : n <= a := by omega
  rw [Qej hv0, List.flatMap_nil, List.nil_append, hR0] at hX0;have hYl : Y0.length <= 2000 := by have := congrArg List.length hX0; simp only [List.length_append] at this; omega
  have hAl : Y0.length + ((Q5 2 S).length + ((Q5 3 S).length + (Q5 4 S).length)) <= 2000 := by have := congrArg List.length hX0; simp only [List.length_append] at this; omega
  refine Sz3 d1 js0 jo0 ?_;refine Qp hP hp2 rfl rfl rfl ?_;refine Sz3 d1 js0 jo0 ?_;rw [Qim (f := PV.fct) (xs := Y0) (ys := Q5 2 S) (Tz1 hh0) rfl (by omega) (by first | omega | (simp; omega)) (by first | omega | (simp; omega))];refine Sz3 d1 js0 jo0 ?_;refine Qp hP hp3 rfl rfl rfl ?_;refine Sz3 d1 js0 jo0 ?_;rw [Qim (f := PV.fct) (xs := (Y0 ++ Q5 2 S)) (ys := Q5 3 S) (Tz1 hh0) (by simp <;> omega) (by omega) (by first | omega | (simp; omega)) (by first | omega | (simp; omega))];refine Sz3 d1 js0 jo0 ?_;refine Qp hP hp4 rfl rfl rfl ?_;refine Sz3 d1 js0 jo0 ?_;rw [Qim (f := PV.fct) (xs := ((Y0 ++ Q5 2 S) ++ Q5 3 S)) (ys := Q5 4 S) (Tz1 hh0) (by simp <;> omega) (by omega) (by first | omega | (simp; omega)) (by first | omega | (simp; omega))];refine Sz3 d1 js0 jo0 ?_;refine Qp hP hseg rfl rfl rfl ?_;refine Sz3 d1 js0 jo0 ?_;obtain ⟨R3, hR3⟩ : ∃ R3, R3 = S.flatMap (Qg9 n) ++ S.map Qha := ⟨_, rfl⟩
  have hZ0 : (((Y0 ++ Q5 2 S) ++ Q5 3 S) ++ Q5 4 S) ++ ((upI n 0).flatMap (fun m => S.filterMap (Qgk m)) ++ R3) = T := by rw [hR3, <- hX0]; simp only [List.append_assoc]
  refine Qaj (by repeat (first | exact Qaf | exact Q9 | exact Qaa | exact Qab | exact Qac | apply Q8 | apply Qae | apply Qaq | apply Qa1 | apply Qa2 | apply Q2 | apply Q3)) [(4, 4), (9, 10), (64, 106)] [103, 105, 106, 900] (fun k J hp => ∃ (m : Nat) (X : List (Int × List Int)), k = n - m /\ m <= n /\ X ++ ((upI n m).flatMap (fun m => S.filterMap (Qgk m)) ++ R3) = T /\ J 9 = .int .i64 (m : Nat) /\ J 4 = .ms 900 X.length /\ hp 900 = some ⟨5, 38, X.map PV.fct, false⟩) n ?_ ?_
  ·refine ⟨0, (((Y0 ++ Q5 2 S) ++ Q5 3 S) ++ Q5 4 S), rfl, by omega, hZ0, ?_⟩;simp +decide (disch := first | omega | rfl | (simp +decide only [go_sem, ↓reduceIte, List.length_append] <;> rfl) | fail) only [go_sem, ↓reduceIte, List.length_append]
   try (first | rfl | trivial | exact ⟨rfl, rfl⟩ | exact ⟨rfl, rfl, rfl⟩)
  rintro _ J3 h3 ⟨m, Y3, rfl, hl3, hX3, js3, jo3, hh3⟩;simp +decide (disch := first | omega | rfl | (simp +decide only [go_sem, ↓reduceIte, List.length_append, js3, jo3] <;> rfl) | fail) only [go_sem, ↓reduceIte, List.length_append, js3, jo3];refine Qr (fun hg3 =>?_) (fun hg3 =>?_)
  ·have hv3 : m < n := by omega
   rw [Qdr hv3, List.flatMap_cons, List.append_assoc] at hX3;obtain ⟨R4, hR4⟩ : ∃ R4, R4 = (upI n (m + 1)).flatMap (fun m => S.filterMap (Qgk m)) ++ R3 := ⟨_, rfl⟩
   rw [<- hR4] at hX3;simp +decide (disch := first | omega | rfl | (simp +decide only [go_sem, ↓reduceIte, List.length_append, js3, jo3] <;> rfl) | fail) only [go_sem, ↓reduceIte, List.length_append, js3, jo3];refine Qaj (by repeat (first | exact Qaf | exact Q9 | exact Qaa | exact Qab | exact Qac | apply Q8 | apply Qae | apply Qaq | apply Qa1 | apply Qa2 | apply Q2 | apply Q3)) [(4, 4), (10, 10), (69, 106)] [103, 105, 106, 900] (fun k J hp => ∃ (i : Nat) (X : List (Int × List Int)), k = S.length - i /\ i <= S.length /\ X ++ ((S.drop i).filterMap (Qgk m) ++ R4) = T /\ J 10 = .int .i64 (i : Nat) /\ J 4 = .ms 900 X.length /\ hp 900 = some ⟨5, 38, X.map PV.fct, false⟩) S.length ?_ ?_
   ·refine ⟨0, Y3, rfl, by omega, by rw [List.drop_zero]; exact hX3, ?_⟩;refine Sz2 jo3 hh3 ?_
    try (first | rfl | trivial | exact ⟨rfl, rfl⟩ | exact ⟨rfl, rfl, rfl⟩)
   rintro _ J4 h4 ⟨i, Y4, rfl, hl4, hX4, js4, jo4, hh4⟩;refine Sz4 js3 jo3 js4 jo4 ?_;refine Qr (fun hg4 =>?_) (fun hg4 =>?_)
   ·have hv4 : i < S.length := by omega
    have hd4 : S.drop i = S[i] :: S.drop (i + 1) := List.drop_eq_getElem_cons hv4;have hm4 := hmem _ (List.getElem_mem hv4);generalize hs4 : S[i] = s4 at *
    obtain ⟨p4, q4⟩ := s4;rw [hd4, List.filterMap_cons, Qgk] at hX4;by_cases e1 : (m : Int) = p4
    ·have d1 : decide ((m : Int) = p4) = true := decide_eq_true e1;have d1' : decide (¬ (m : Int) = p4) = false := decide_eq_false fun h => h e1;rw [if_neg (fun h => h.1 e1)] at hX4;refine Sz7 js3 jo3 js4 jo4 hs4 d1 d1' ?_;rw [Qdp (by omega)];refine Sz7 js3 jo3 js4 jo4 hs4 d1 d1' ?_;refine Qao (S.length - (i + 1)) (by omega) ⟨i + 1, Y4, rfl, by omega, hX4, ?_⟩;exact Tz2 jo4 hh4
    have d1 : decide ((m : Int) = p4) = false := decide_eq_false e1;have d1' : decide (¬ (m : Int) = p4) = true := decide_eq_true e1;by_cases e2 : (m : Int) = q4
    ·have d2 : decide ((m : Int) = q4) = true := decide_eq_true e2;have d2' : decide (¬ (m : Int) = q4) = false := decide_eq_false fun h => h e2;rw [if_neg (fun h => h.2 e2)] at hX4
     repeat' first
      | rw [Qdp (by omega)]
      | rw [Qdq (by omega)]
      | simp +decide (disch := first | omega | rfl | (simp +decide only [go_sem, ↓reduceIte, js3, jo3, js4, jo4, hs4, d1, d1', d2, d2'] <;> rfl) | fail) only [go_sem, ↓reduceIte, js3, jo3, js4, jo4, hs4, d1, d1', d2, d2']
     refine Qao (S.length - (i + 1)) (by omega) ⟨i + 1, Y4, rfl, by omega, hX4, ?_⟩;exact Tz2 jo4 hh4
    have d2 : decide ((m : Int) = q4) = false := decide_eq_false e2;have d2' : decide (¬ (m : Int) = q4) = true := decide_eq_true e2;rw [if_pos ⟨e1, e2⟩] at hX4;have hYl : Y4.length <= 2000 := by have := congrArg List.length hX4; simp only [List.length_append] at this; omega
    have hfk := Qet (k := 5) (l := [(m : Int), p4, q4]) (by simp)
    repeat' first
     | rw [Qdp (by omega)]
     | rw [Qdq (by omega)]
     | rw [Qci (by rfl) (by simp [PV.cells]) (by omega)]
     | refine Qch hP hfk (by simp +decide (disch := first | omega | rfl | (simp +decide only [go_sem, ↓reduceIte, Qt, List.contains_cons, List.contains_nil, List.flatMap_cons, List.flatMap_nil, List.append_nil] <;> rfl) | fail) only [go_sem, ↓reduceIte, Qt, List.contains_cons, List.contains_nil, List.flatMap_cons, List.flatMap_nil, List.append_nil]; rfl) rfl ?_
     | rw [Qbq (f := PV.fct) (y := (5, [(m : Int), p4, q4])) (xs := Y4) (ty' := 38) (fz := false) (Uz1 hh4) Qm1 (by omega) rfl (by omega) (by omega)]
     | simp +decide (disch := first | omega | rfl | (simp +decide only [go_sem, ↓reduceIte, js3, jo3, js4, jo4, hs4, d1, d1', d2, d2', Qt, List.contains_cons, List.contains_nil, List.flatMap_cons, List.flatMap_nil, List.append_nil] <;> rfl) | fail) only [go_sem, ↓reduceIte, js3, jo3, js4, jo4, hs4, d1, d1', d2, d2', Qt, List.contains_cons, List.contains_nil, List.flatMap_cons, List.flatMap_nil, List.append_nil]
    refine Qao (S.length - (i + 1)) (by omega) ⟨i + 1, Y4 ++ [(5, [(m : Int), p4, q4])], rfl, by omega, by rw [List.append_assoc]; exact hX4, ?_⟩;simp +decide (disch := first | omega | rfl | (simp +decide only [go_sem, ↓reduceIte, List.length_append] <;> rfl) | fail) only [go_sem, ↓reduceIte, List.length_append]
    try rfl
    try trivial
   ·have hv4 : S.length <= i := by omega
    rw [List.drop_eq_nil_of_le hv4, List.filterMap_nil, List.nil_append] at hX4;refine Sz4 js3 jo3 js4 jo4 ?_;refine Qd5 (n - (m + 1)) (by decide) (by decide) (by omega) ⟨m + 1, Y4, rfl, by omega, by rw [<- hR4]; exact hX4, ?_⟩;refine Sz2 jo4 hh4 ?_
    try trivial
  ·have hv3 : n <= m := by omega
   rw [Qej hv3, List.flatMap_nil, List.nil_append, hR3] at hX3;obtain ⟨R5, hR5⟩ : ∃ R5, R5 = S.map Qha := ⟨_, rfl⟩
   rw [<- hR5] at hX3;simp +decide (disch := first | omega | rfl | (simp +decide only [go_sem, ↓reduceIte, List.length_append, js3, jo3] <;> rfl) | fail) only [go_sem, ↓reduceIte, List.length_append, js3, jo3];refine Qaj (by repeat (first | exact Qaf | exact Q9 | exact Qaa | exact Qab | exact Qac | apply Q8 | apply Qae | apply Qaq | apply Qa1 | apply Qa2 | apply Q2 | apply Q3)) [(4, 4), (11, 13), (107, 147)] [144, 146, 147, 900] (fun k J hp => ∃ (i : Nat) (X : List (Int × List Int)), k = S.length - i /\ i <= S.length /\ X ++ ((S.drop i).flatMap (Qg9 n) ++ R5) = T /\ J 11 = .int .i64 (i : Nat) /\ J 4 = .ms 900 X.length /\ hp 900 = some ⟨5, 38, X.map PV.fct, false⟩) S.length ?_ ?_
   ·refine ⟨0, Y3, rfl, by omega, by rw [List.drop_zero]; exact hX3, ?_⟩;refine Sz2 jo3 hh3 ?_
    try (first | rfl | trivial | exact ⟨rfl, rfl⟩ | exact ⟨rfl, rfl, rfl⟩)
   rintro _ J5 h5 ⟨i, Y5, rfl, hl5, hX5, js5, jo5, hh5⟩;refine Sz3 jo3 js5 jo5 ?_;refine Qr (fun hg5 =>?_) (fun hg5 =>?_)
   ·have hv5 : i < S.length := by omega
    have hd5 : S.drop i = S[i] :: S.drop (i + 1) := List.drop_eq_getElem_cons hv5;have hm5 := hmem _ (List.getElem_mem hv5);generalize hs5 : S[i] = s5 at *
    obtain ⟨p5, q5⟩ := s5;rw [hd5, List.flatMap_cons, List.append_assoc, Qg9] at hX5;obtain ⟨q, rfl⟩ : ∃ q : Nat, q5 = (q : Int) := ⟨q5.toNat, by omega⟩
    simp only [Int.toNat_natCast] at hX5 hm5;obtain ⟨R6, hR6⟩ : ∃ R6, R6 = (S.drop (i + 1)).flatMap (Qg9 n) ++ R5 := ⟨_, rfl⟩
    rw [<- hR6] at hX5;refine Sz4 jo3 js5 jo5 hs5 ?_;rw [Qdq (by omega)];refine Sz4 jo3 js5 jo5 hs5 ?_;refine Qaj (by repeat (first | exact Qaf | exact Q9 | exact Qaa | exact Qab | exact Qac | apply Q8 | apply Qae | apply Qaq | apply Qa1 | apply Qa2 | apply Q2 | apply Q3)) [(4, 4), (12, 13), (119, 147)] [144, 146, 147, 900] (fun k J hp => ∃ (c : Nat) (X : List (Int × List Int)), k = n - c /\ c <= n /\ X ++ ((upI n c).flatMap (Qnh n (p5, (q : Int))) ++ R6) = T /\ J 12 = .int .i64 (c : Nat) /\ J 4 = .ms 900 X.length /\ hp 900 = some ⟨5, 38, X.map PV.fct, false⟩) (n - (q + 1)) ?_ ?_
    ·refine ⟨q + 1, Y5, rfl, by omega, hX5, ?_⟩;refine Sz2 jo5 hh5 ?_
     try (first | rfl | trivial | exact ⟨rfl, rfl⟩ | exact ⟨rfl, rfl, rfl⟩)
    rintro _ J6 h6 ⟨c, Y6, rfl, hl6, hX6, js6, jo6, hh6⟩;refine Sz5 js5 jo5 hs5 js6 jo6 ?_;refine Qr (fun hg6 =>?_) (fun hg6 =>?_)
    ·have hv6 : c < n := by omega
     rw [Qdr hv6, List.flatMap_cons, List.append_assoc, Qnh] at hX6;obtain ⟨R7, hR7⟩ : ∃ R7, R7 = (upI n (c + 1)).flatMap (Qnh n (p5, (q : Int))) ++ R6 := ⟨_, rfl⟩
     rw [<- hR7] at hX6;refine Sz5 js5 jo5 hs5 js6 jo6 ?_;refine Qaj (by repeat (first | exact Qaf | exact Q9 | exact Qaa | exact Qab | exact Qac | apply Q8 | apply Qae | apply Qaq | apply Qa1 | apply Qa2 | apply Q2 | apply Q3)) [(4, 4), (13, 13), (126, 147)] [144, 146, 147, 900] (fun k J hp => ∃ (d : Nat) (X : List (Int × List Int)), k = n - d /\ d <= n /\ X ++ ((upI n d).map (Qr2 (p5, (q : Int)) c) ++ R7) = T /\ J 13 = .int .i64 (d : Nat) /\ J 4 = .ms 900 X.length /\ hp 900 = some ⟨5, 38, X.map PV.fct, false⟩) (n - (c + 1)) ?_ ?_
     ·refine ⟨c + 1, Y6, rfl, by omega, hX6, ?_⟩;refine Sz2 jo6 hh6 ?_
      try (first | rfl | trivial | exact ⟨rfl, rfl⟩ | exact ⟨rfl, rfl, rfl⟩)
     rintro _ J7 h7 ⟨d, Y7, rfl, hl7, hX7, js7, jo7, hh7⟩;refine Sz6 js5 js6 jo6 hs5 js7 jo7 ?_;refine Qr (fun hg7 =>?_) (fun hg7 =>?_)
     ·have hv7 : d < n := by omega
      rw [Qdr hv7, List.map_cons, List.cons_append, Qr2] at hX7;have hYl : Y7.length <= 2000 := by have := congrArg List.length hX7; simp only [List.length_append] at this; omega
      have hfk := Qet (k := 6) (l := [p5, (q : Int), (c : Int), (d : Int)]) (by simp)
      repeat' first
       | rw [Qdp (by omega)]
       | rw [Qdq (by omega)]
       | rw [Qci (by rfl) (by simp [PV.cells]) (by omega)]
       | refine Qch hP hfk (by simp +decide (disch := first | omega | rfl | (simp +decide only [go_sem, ↓reduceIte, Qt, List.contains_cons, List.contains_nil, List.flatMap_cons, List.flatMap_nil, List.append_nil] <;> rfl) | fail) only [go_sem, ↓reduceIte, Qt, List.contains_cons, List.contains_nil, List.flatMap_cons, List.flatMap_nil, List.append_nil]; rfl) rfl ?_
       | rw [Qbq (f := PV.fct) (y := (6, [p5, (q : Int), (c : Int), (d : Int)])) (xs := Y7) (ty' := 38) (fz := false) (Uz1 hh7) Qm1 (by omega) rfl (by omega) (by omega)]
       | simp +decide (disch := first | omega | rfl | (simp +decide only [go_sem, ↓reduceIte, js5, js6, jo6, hs5, js7, jo7, Qt, List.contains_cons, List.contains_nil, List.flatMap_cons, List.flatMap_nil, List.append_nil] <;> rfl) | fail) only [go_sem, ↓reduceIte, js5, js6, jo6, hs5, js7, jo7, Qt, List.contains_cons, List.contains_nil, List.flatMap_cons, List.flatMap_nil, List.append_nil]
      refine Qao (n - (d + 1)) (by omega) ⟨d + 1, Y7 ++ [(6, [p5, (q : Int), (c : Int), (d : Int)])], rfl, by omega, by rw [List.append_assoc]; exact hX7, ?_⟩;simp +decide (disch := first | omega | rfl | (simp +decide only [go_sem, ↓reduceIte, List.length_append] <;> rfl) | fail) only [go_sem, ↓reduceIte, List.length_append]
      try rfl
      try trivial
     ·have hv7 : n <= d := by omega
      rw [Qej hv7, List.map_nil, List.nil_append] at hX7;refine Sz6 js5 js6 jo6 hs5 js7 jo7 ?_;refine Qd5 (n - (c + 1)) (by decide) (by decide) (by omega) ⟨c + 1, Y7, rfl, by omega, by rw [<- hR7]; exact hX7, ?_⟩;refine Sz2 jo7 hh7 ?_
      try trivial
    ·have hv6 : n <= c := by omega
     rw [Qej hv6, List.flatMap_nil, List.nil_append] at hX6;refine Sz5 js5 jo5 hs5 js6 jo6 ?_;refine Qd5 (S.length - (i + 1)) (by decide) (by decide) (by omega) ⟨i + 1, Y6, rfl, by omega, by rw [<- hR6]; exact hX6, ?_⟩;refine Sz2 jo6 hh6 ?_
     try trivial
   ·have hv5 : S.length <= i := by omega
    rw [List.drop_eq_nil_of_le hv5, List.flatMap_nil, List.nil_append, hR5] at hX5;refine Sz3 jo3 js5 jo5 ?_;refine Qaj (by repeat (first | exact Qaf | exact Q9 | exact Qaa | exact Qab | exact Qac | apply Q8 | apply Qae | apply Qaq | apply Qa1 | apply Qa2 | apply Q2 | apply Q3)) [(4, 4), (14, 14), (148, 168)] [165, 167, 168, 900] (fun k J hp => ∃ (i : Nat) (X : List (Int × List Int)), k = S.length - i /\ i <= S.length /\ X ++ ((S.drop i).map Qha ++ []) = T /\ J 14 = .int .i64 (i : Nat) /\ J 4 = .ms 900 X.length /\ hp 900 = some ⟨5, 38, X.map PV.fct, false⟩) S.length ?_ ?_
    ·refine ⟨0, Y5, rfl, by omega, by rw [List.drop_zero, List.append_nil]; exact hX5, ?_⟩;refine Sz2 jo5 hh5 ?_
     try (first | rfl | trivial | exact ⟨rfl, rfl⟩ | exact ⟨rfl, rfl, rfl⟩)
    rintro _ J8 h8 ⟨i, Y8, rfl, hl8, hX8, js8, jo8, hh8⟩;refine Sz3 jo5 js8 jo8 ?_;refine Qr (fun hg8 =>?_) (fun hg8 =>?_)
    ·have hv8 : i < S.length := by omega
     have hd8 : S.drop i = S[i] :: S.drop (i + 1) := List.drop_eq_getElem_cons hv8;have hm8 := hmem _ (List.getElem_mem hv8);generalize hs8 : S[i] = s8 at *
     obtain ⟨p8, q8⟩ := s8;rw [hd8, List.map_cons, List.cons_append, Qha] at hX8;have hYl : Y8.length <= 2000 := by have := congrArg List.length hX8; simp only [List.length_append] at this; omega
     have hfk := Qet (k := 8) (l := [p8, q8]) (by simp)
     repeat' first
      | rw [Qdp (by omega)]
      | rw [Qdq (by omega)]
      | rw [Qci (by rfl) (by simp [PV.cells]) (by omega)]
      | refine Qch hP hfk (by simp +decide (disch := first | omega | rfl | (simp +decide only [go_sem, ↓reduceIte, Qt, List.contains_cons, List.contains_nil, List.flatMap_cons, List.flatMap_nil, List.append_nil] <;> rfl) | fail) only [go_sem, ↓reduceIte, Qt, List.contains_cons, List.contains_nil, List.flatMap_cons, List.flatMap_nil, List.append_nil]; rfl) rfl ?_
      | rw [Qbq (f := PV.fct) (y := (8, [p8, q8])) (xs := Y8) (ty' := 38) (fz := false) (Uz1 hh8) Qm1 (by omega) rfl (by omega) (by omega)]
      | simp +decide (disch := first | omega | rfl | (simp +decide only [go_sem, ↓reduceIte, jo5, js8, jo8, hs8, Qt, List.contains_cons, List.contains_nil, List.flatMap_cons, List.flatMap_nil, List.append_nil] <;> rfl) | fail) only [go_sem, ↓reduceIte, jo5, js8, jo8, hs8, Qt, List.contains_cons, List.contains_nil, List.flatMap_cons, List.flatMap_nil, List.append_nil]
     refine Qao (S.length - (i + 1)) (by omega) ⟨i + 1, Y8 ++ [(8, [p8, q8])], rfl, by omega, by rw [List.append_nil] at hX8; rw [List.append_assoc]; exact hX8, ?_⟩;simp +decide (disch := first | omega | rfl | (simp +decide only [go_sem, ↓reduceIte, List.length_append] <;> rfl) | fail) only [go_sem, ↓reduceIte, List.length_append]
     try rfl
     try trivial
    ·have hv8 : S.length <= i := by omega
     rw [List.drop_eq_nil_of_le hv8, List.map_nil, List.append_nil, List.append_nil] at hX8;subst hX8;refine Vz4 jo5 js8 jo8 hh8 ?_;exact Qfv (by rw [List.take_of_length_le (by simp)]) rfl rfl (Qag _) (Qag _)
theorem Qt8 {f g : Int × List Int} (hf : f.1 ≠ 9) (hl : f.2.length <= 100) (hl2 : g.2.length <= 100) : Qo Try.prog 17 [PV.fct f, PV.fct g] (fun r => ∃ c : Int, r = .int .i64 c /\ (c = 0 ↔ f = g)) := by
 have ho := fun a b => Qpi (a := a) (b := b);have ord0 : ∀ a b, a ≠ b -> Qip a b ≠ 0 := fun a b h => by unfold Qip; split <;> (try split) <;> omega
 obtain ⟨k, l⟩ := f;obtain ⟨k2, l2⟩ := g;simp only at hf hl hl2;have d9 : decide (k = 9) = false := decide_eq_false hf;have d9' : decide (¬ k = 9) = true := decide_eq_true hf;refine Qz Qat Try.func17 rfl Qwr (by simp [c17]) fun C hP =>?_; simp only [c17];refine Sz0 ?_;refine Qr (fun hk =>?_) (fun hk =>?_)
 ·refine Sz0 ?_;refine Qp hP (ho k k2) rfl rfl rfl ?_;refine Sz0 ?_;exact ⟨rfl, _, Qag _, _, rfl, by simp [ord0 k k2 hk, hk]⟩
 have hk' : k = k2 := by omega
 refine Sz0 ?_;refine Qaj (by repeat (first | exact Qaf | exact Q9 | exact Qaa | exact Qab | exact Qac | apply Q8 | apply Qae | apply Qaq | apply Qa1 | apply Qa2 | apply Q2 | apply Q3)) [(4, 5), (16, 51)] [] (fun m J hp => ∃ i, m = l.length - i /\ i <= l.length /\ i <= l2.length /\ l.take i = l2.take i /\ J 5 = .int .i64 (i : Nat) /\ hp 2 = some ⟨5, 38, [PV.fct (k, l)], false⟩ /\ hp 3 = some ⟨5, 38, [PV.fct (k2, l2)], false⟩) l.length ?_ ?_
 ·refine ⟨0, rfl, by omega, by omega, rfl, ?_⟩;refine Sz0 ?_
  try (first | rfl | trivial | exact ⟨rfl, rfl⟩ | exact ⟨rfl, rfl, rfl⟩)
 rintro _ J h ⟨i, rfl, hi, hi2, htk, j5, b2, b3⟩;by_cases c1 : i < l.length
 ·have e1 : decide ((i : Int) < (l.length : Int)) = true := decide_eq_true (by omega);by_cases c2 : i < l2.length
  ·have e2 : decide ((i : Int) < (l2.length : Int)) = true := decide_eq_true (by omega);have t1 := List.take_succ_eq_append_getElem c1;have t2 := List.take_succ_eq_append_getElem c2;generalize hx : l[i] = x at *
   generalize hy : l2[i] = y at *
   by_cases exy : x = y
   ·have q1 : decide (x = y) = true := decide_eq_true exy;have q2 : decide (¬ x = y) = false := decide_eq_false fun h => h exy;refine Sz9 j5 b2 b3 e1 e2 hx hy q1 q2 ?_;refine Qao (l.length - (i + 1)) (by omega) ⟨i + 1, rfl, by omega, by omega, by rw [t1, t2, htk, exy], ?_⟩;refine Sz2 b2 b3 ?_
    try trivial
   ·have q1 : decide (x = y) = false := decide_eq_false exy;have q2 : decide (¬ x = y) = true := decide_eq_true exy;refine Sz9 j5 b2 b3 e1 e2 hx hy q1 q2 ?_;refine Qp hP (ho x y) rfl rfl rfl ?_;refine Sz0 ?_;refine ⟨rfl, _, Qag _, _, rfl, ?_⟩;have : l ≠ l2 := fun e => exy (by subst e; rw [<- hx, <- hy]);simp [ord0 x y exy, this]
  ·have e2 : decide ((i : Int) < (l2.length : Int)) = false := decide_eq_false (by omega);have hne : l.length ≠ l2.length := by omega
   refine Sz5 j5 b2 b3 e1 e2 ?_;refine Qr (fun hg =>?_) (fun hg =>?_)
   ·refine Sz3 j5 b2 b3 ?_;refine Qp hP (ho l.length l2.length) rfl rfl rfl ?_;refine Sz0 ?_;refine ⟨rfl, _, Qag _, _, rfl, ?_⟩;have : l ≠ l2 := fun e => hne (by rw [e]);simp [ord0 l.length l2.length (by omega), this]
   ·omega
 ·have e1 : decide ((i : Int) < (l.length : Int)) = false := decide_eq_false (by omega);refine Sz4 j5 b2 b3 e1 ?_;refine Qr (fun hg =>?_) (fun hg =>?_)
  ·refine Sz3 j5 b2 b3 ?_;refine Qp hP (ho l.length l2.length) rfl rfl rfl ?_;refine Sz0 ?_;refine ⟨rfl, _, Qag _, _, rfl, ?_⟩;have : l ≠ l2 := fun e => hg (by rw [e]);simp [ord0 l.length l2.length (by omega), this]
  ·refine Sz5 j5 b2 b3 d9 d9' ?_;refine ⟨rfl, _, Qag _, 0, rfl, ?_⟩;have : l = l2 := by rw [List.take_of_length_le (by omega), List.take_of_length_le (by omega)] at htk;exact htk
   simp [hk', this]
theorem Qi9 {f g : Int × List Int} (hf : f.1 ≠ 9) (hl : f.2.length <= 100) (hl2 : g.2.length <= 100) : Qo Try.prog 8 [PV.fct f, PV.fct g] (· = .bool (decide (f = g))) := by have hc := Qt8 hf hl hl2;refine Qz Qat Try.func8 rfl Qx3 (by simp [c8]) fun C hP =>?_; simp only [c8];refine Sz0 ?_;refine Qfu hP hc rfl rfl rfl ?_;rintro _ ⟨c, rfl, hc⟩;refine Sz0 ?_;exact Q6 (by rw [decide_eq_decide.2 hc]) rfl
def FkB (L : List (Int × List Int)) : Prop := L.length <= 2000 /\ ∀ f ∈ L, f.1 ≠ 9 /\ f.2.length <= 100
theorem Qr4 {L M : List (Int × List Int)} (hL : FkB L) (hM : FkB M) : Qo Try.prog 7 [.sl 5 (L.map PV.fct), .sl 5 (M.map PV.fct)] (· = .bool (decide (L = M))) := by
 have hl1 := hL.1;have hl2 := hM.1;refine Qz Qat Try.func7 rfl Qx4 (by simp [c7]) fun C hP =>?_; simp only [c7];refine Sz0 ?_;refine Qr (fun hg =>?_) (fun hg =>?_)
 ·refine Sz0 ?_;have : L ≠ M := fun e => hg (by rw [e]);exact Q6 (by rw [decide_eq_false this]) rfl
 have hlen : L.length = M.length := by omega
 refine Sz0 ?_;refine Qaj (by repeat (first | exact Qaf | exact Q9 | exact Qaa | exact Qab | exact Qac | apply Q8 | apply Qae | apply Qaq | apply Qa1 | apply Qa2 | apply Q2 | apply Q3)) [(4, 5), (11, 26)] [] (fun m J hp => ∃ i, m = L.length - i /\ i <= L.length /\ L.take i = M.take i /\ J 5 = .int .i64 (i : Nat)) L.length ?_ ?_
 ·refine ⟨0, rfl, by omega, rfl, ?_⟩;refine Sz0 ?_
  try rfl
 rintro _ J h ⟨i, rfl, hi, htk, j5⟩;refine Sz1 j5 ?_;refine Qr (fun hg1 =>?_) (fun hg1 =>?_)
 ·have c1 : i < L.length := by omega
  have c2 : i < M.length := by omega
  have t1 := List.take_succ_eq_append_getElem c1;have t2 := List.take_succ_eq_append_getElem c2;have m1 := hL.2 _ (List.getElem_mem c1);have m2 := hM.2 _ (List.getElem_mem c2);generalize hx : L[i] = x at *
  generalize hy : M[i] = y at *
  refine Sz3 j5 hx hy ?_;refine Qp hP (Qi9 m1.1 m1.2 m2.2) rfl rfl rfl ?_;by_cases exy : x = y
  ·have q1 : decide (x = y) = true := decide_eq_true exy;refine Sz4 j5 hx hy q1 ?_;refine Qao (L.length - (i + 1)) (by omega) ⟨i + 1, rfl, by omega, by rw [t1, t2, htk, exy], ?_⟩;exact Tz0
  ·have q1 : decide (x = y) = false := decide_eq_false exy;refine Sz4 j5 hx hy q1 ?_;have : L ≠ M := fun e => exy (by subst e; rw [<- hx, <- hy]);exact Q6 (by rw [decide_eq_false this]) rfl
 ·have : L = M := by rw [List.take_of_length_le (by omega), List.take_of_length_le (by omega)] at htk;exact htk
  refine Sz0 ?_;exact Q6 (by rw [decide_eq_true this]) rfl
def Qsi (n : Nat) : List (List Int) := (upI n 0).flatMap fun m => (Qa3 n 2 0).filterMap (Qbk m)
def Qws (n : Nat) : List (Int × List (List Int)) := [(1, Qa3 n 3 0), (2, Qax Qc7 (Qar n)), (3, Qax Qc8 (Qar n)), (4, Qax Qc8 (Qar n)), (5, Qsi n), (6, Qa3 n 4 0), (8, Qa3 n 2 0)]
def Qc1 (n : Nat) : List (Int × List Int) := (Qws n).flatMap fun g => g.2.map fun l => (g.1, l)
theorem Qt9 : ∀ n, n < 8 -> Qc1 n = Qh1 n := by decide +kernel
instance : DecidablePred FkB := fun L => by unfold FkB; infer_instance
theorem Qni : ∀ n, n < 8 -> FkB (Qc1 n) := by decide +kernel
theorem Qwt : (Qc1 3).length = 13 /\ (Qc1 3)[0]? = some (1, [0, 1, 2]) := by decide +kernel
theorem Qwu : (Qc1 4).length = 56 := by decide +kernel
theorem Qua {s t : Int × Int} : Qo Try.prog 11 [PV.pr s, PV.pr t] (· = .bool (Qc7 s t)) := by
 obtain ⟨a, b⟩ := s;obtain ⟨c, d⟩ := t;have hv : Qc7 (a, b) (c, d) = (decide (¬ a = c) && decide (¬ a = d) && decide (¬ b = c) && decide (¬ b = d)) := rfl;rw [hv];refine Qz Qat Try.func11 rfl Qwd (by simp [c11]) fun C hP =>?_; simp only [c11];by_cases h1 : a = c
 ·have q1 : decide (a = c) = true := decide_eq_true h1;have q1' : decide (¬ a = c) = false := decide_eq_false fun h => h h1;refine Sz2 q1 q1' ?_;exact Q6 rfl rfl
 have q1 : decide (a = c) = false := decide_eq_false h1;have q1' : decide (¬ a = c) = true := decide_eq_true h1;by_cases h2 : a = d
 ·have q2 : decide (a = d) = true := decide_eq_true h2;have q2' : decide (¬ a = d) = false := decide_eq_false fun h => h h2;refine Sz4 q1 q1' q2 q2' ?_;exact Q6 rfl rfl
 have q2 : decide (a = d) = false := decide_eq_false h2;have q2' : decide (¬ a = d) = true := decide_eq_true h2;by_cases h3 : b = c
 ·have q3 : decide (b = c) = true := decide_eq_true h3;have q3' : decide (¬ b = c) = false := decide_eq_false fun h => h h3;refine Sz6 q1 q1' q2 q2' q3 q3' ?_;exact Q6 rfl rfl
 have q3 : decide (b = c) = false := decide_eq_false h3;have q3' : decide (¬ b = c) = true := decide_eq_true h3;refine Sz6 q1 q1' q2 q2' q3 q3' ?_;exact Q6 (by simp) rfl
theorem Qpq {s t : Int × Int} : Qo Try.prog 12 [PV.pr s, PV.pr t] (· = .bool (Qc8 s t)) := by
 obtain ⟨a, b⟩ := s;obtain ⟨c, d⟩ := t;have hv : Qc8 (a, b) (c, d) = (decide (¬ a = c) || decide (¬ b = d)) := rfl;rw [hv];refine Qz Qat Try.func12 rfl Qwe (by simp [c12]) fun C hP =>?_; simp only [c12];by_cases h1 : a = c
 ·have q1 : decide (a = c) = true := decide_eq_true h1;have q1' : decide (¬ a = c) = false := decide_eq_false fun h => h h1;refine Sz2 q1 q1' ?_;exact Q6 (by simp) rfl
 have q1 : decide (a = c) = false := decide_eq_false h1;have q1' : decide (¬ a = c) = true := decide_eq_true h1;refine Sz2 q1 q1' ?_;exact Q6 rfl rfl
structure Qnj : Prop where
 ok : ∀ n : Nat, n < 8 -> Qo Try.prog 5 [.int .i64 n] (· = .tup [.sl 5 ((Qc1 n).map PV.fct), .int .i64 0])
 neg : ∀ n : Int, n < 0 ∨ 40 < n -> Qo Try.prog 5 [.int .i64 n] (· = .tup [.sl 5 (([] : List (Int × List Int)).map PV.fct), .int .i64 2])
 large : ∀ n : Int, 10 < n -> n <= 40 -> Qo Try.prog 5 [.int .i64 n] (· = .tup [.sl 5 (([] : List (Int × List Int)).map PV.fct), .int .i64 4])
theorem Qpr (hC : Qnj) : Qo Try.prog 4 [] (· = .bool true) := by
 have h3 := hC.ok 3 (by omega);have h4 := hC.ok 4 (by omega);obtain ⟨l3, a3⟩ := Qwt;have l4 := Qwu;have he := Qi9 (f := (1, [0, 1, 2])) (g := (1, [0, 1, 2])) (by simp) (by simp) (by simp);generalize Qc1 3 = A at *
 generalize Qc1 4 = B at *
 obtain ⟨x, A', rfl⟩ : ∃ x A', A = x :: A' := by
  cases A with
  | nil => cases l3
  | cons x A' => exact ⟨x, A', rfl⟩
 simp at a3;subst a3;refine Qz Qat Try.func4 rfl Qx5 (by simp [c4]) fun C hP =>?_; simp only [c4];refine Sz0 ?_;refine Qp hP h3 rfl rfl rfl ?_;refine Sz0 ?_;refine Qp hP h4 rfl rfl rfl ?_;have q13 : decide (((A'.length + 1 : Nat) : Int) = 13) = true := decide_eq_true (by simp at l3; omega);have q56 : decide (((B.length : Nat) : Int) = 56) = true := decide_eq_true (by omega);have he2 := he.le (args' := [PV.fct (1, [0, 1, 2]), .agg [.int .i64 1, .sl 1 [.int .i64 0, .int .i64 1, .int .i64 2], .bool false, .nilS, .nilS]]) ⟨Qag _, ⟨Qbp _, Qbp _, Qbp _, trivial, trivial, trivial⟩, trivial⟩
 repeat' first
  | rw [Qci (by rfl) (by simp [PV.cells]) (by omega)]
  | (rw [Qsh (m := 3) (e := 1) (ty := 3) (xs := [.int .i64 0, .int .i64 1, .int .i64 2]) (fz := false) rfl Tz0 rfl]; refine ⟨⟨rfl, by decide⟩, ⟨rfl, by decide⟩, ?_⟩)
  | refine Qp hP he2 rfl rfl rfl ?_
  | simp +decide (disch := first | omega | rfl | (simp +decide only [go_sem, ↓reduceIte, q13, q56, Qt, List.contains_cons, List.contains_nil, List.flatMap_cons, List.flatMap_nil, List.append_nil] <;> rfl) | fail) only [go_sem, ↓reduceIte, q13, q56, Qt, List.contains_cons, List.contains_nil, List.flatMap_cons, List.flatMap_nil, List.append_nil]
 exact Q6 rfl rfl
theorem Qlu : FkB [] := ⟨by simp, fun f hf => by cases hf⟩
theorem Qfb (hC : Qnj) {n : Int} (h1 : -9223372036854775808 <= n) (h2 : n <= 9223372036854775807) : Qo Try.prog 3 [.int .i64 n] (· = .bool true) := by
 have ha := Qpr hC;by_cases c1 : 7 < n /\ n <= 10
 ·have q1 : decide (7 < n) = true := decide_eq_true c1.1;have q2 : decide (n <= 10) = true := decide_eq_true c1.2;refine Qz Qat Try.func3 rfl Qm8 (by simp [c3]) fun C hP =>?_; simp only [c3];refine Sz2 q1 q2 ?_;refine Qp hP ha rfl rfl rfl ?_;refine Sz0 ?_;exact Q6 rfl rfl
 obtain ⟨L, e, hl, hr, hk⟩ : ∃ (L : List (Int × List Int)) (e : Int), Qo Try.prog 5 [.int .i64 n] (· = .tup [.sl 5 (L.map PV.fct), .int .i64 e]) /\ Qo Try.prog 6 [.int .i64 n] (· = .tup [.sl 5 (L.map PV.fct), .int .i64 e]) /\ FkB L := by
  by_cases c2 : n < 0 ∨ 40 < n
  ·exact ⟨[], 2, hC.neg n c2, Qk1 c2, Qlu⟩
  by_cases c3 : 10 < n
  ·exact ⟨[], 4, hC.large n c3 (by omega), Qiq c3 (by omega), Qlu⟩
  obtain ⟨m, rfl⟩ : ∃ m : Nat, n = (m : Int) := ⟨n.toNat, by omega⟩
  have hm : m < 8 := by omega
  have hq := Qr3 hm;rw [<- Qt9 m hm] at hq;exact ⟨Qc1 m, 0, hC.ok m hm, hq, Qni m hm⟩
 have hsm := Qr4 hk hk;rw [decide_eq_true (rfl : L = L)] at hsm;by_cases c4 : 7 < n
 ·have q1 : decide (7 < n) = true := decide_eq_true c4;have q2 : decide (n <= 10) = false := decide_eq_false fun h => c1 ⟨c4, h⟩;refine Qz Qat Try.func3 rfl Qm8 (by simp [c3]) fun C hP =>?_; simp only [c3];refine Sz2 q1 q2 ?_;refine Qp hP hl rfl rfl rfl ?_;refine Sz0 ?_;refine Qp hP hr rfl rfl rfl ?_;refine Sz0 ?_;refine Qp hP hsm rfl rfl rfl ?_;refine Sz0 ?_;refine Qp hP ha rfl rfl rfl ?_;refine Sz0 ?_;exact Q6 rfl rfl
 ·have q1 : decide (7 < n) = false := decide_eq_false c4;refine Qz Qat Try.func3 rfl Qm8 (by simp [c3]) fun C hP =>?_; simp only [c3];refine Sz1 q1 ?_;refine Qp hP hl rfl rfl rfl ?_;refine Sz0 ?_;refine Qp hP hr rfl rfl rfl ?_;refine Sz0 ?_;refine Qp hP hsm rfl rfl rfl ?_;refine Sz0 ?_;refine Qp hP ha rfl rfl rfl ?_;refine Sz0 ?_;exact Q6 rfl rfl
open Go Go.FW Go.RowKit Go.Shelf
theorem Qk2 {f : FuncId} {args : List PV} {R : PV -> Prop} (h : Qo Try.prog f args R) {vals : Array Value} {w : World} (hs : vals.size = args.length) (X : Nat -> Prop) (hX : ∀ b, X b -> b < w.heap.size) (hr : ∀ (i : Nat) (x : PV), args[i]? = some x -> Qk w X x (vals.getD i undef)) (n : Nat) :
  CallsIn Fence.wide n Try.prog f vals w fun e w' => ∃ v r, e = .returned v /\ Ext Qm w w' /\ Qbj w' X r v /\ R r := callsIn_wide.2 (h.2 w X vals hX hs hr)
theorem Qir (n : Nat) (hn : n <= 100) (m : Nat) (w : World) : CallsIn Fence.wide m Try.prog 20 #[.int .i64 (n : Nat)] w fun e w' => ∃ a cap, e = .returned (.slice a (Qar n).length cap) /\ Ext Qm w w' /\
  ∀ i (h : i < (Qar n).length), ∃ b off, a = some ⟨b, off, none⟩ /\ b < w'.heap.size /\ w.heap.size <= b /\ (Qar n).length <= cap /\ w'.cell? ⟨b, off + i * 2, none⟩ = some (.int .i64 (Qar n)[i].1) /\ w'.cell? ⟨b, off + i * 2 + 1, none⟩ = some (.int .i64 (Qar n)[i].2) := by
 refine (Qk2 (Qnf hn) rfl (fun b => b < w.heap.size) (fun _ h => h) (fun i x hx =>?_) m).mono fun e w' h =>?_
 ·match i, hx with
  | 0, hx => simp at hx; subst hx; exact Qc.int _ _
  | i + 1, hx => simp at hx
 ·obtain ⟨v, r, rfl, h1, h2, rfl⟩ := h;have h2' : Qc w' (fun b => b < w.heap.size) (.sl 2 ((Qar n).map PV.pr)) v := h2;generalize Qar n = S at *
  generalize hX : S.map PV.pr = X at h2';have hl : X.length = S.length := by rw [<- hX]; simp
  cases h2' with
  | slE _ a cap hc =>have : S = [] := List.length_eq_zero_iff.1 (by rw [<- hl]; rfl);subst this;exact ⟨a, cap, rfl, h1, fun i hi => by cases hi⟩
  | sl _ _ b off cap vs hX' hb hl' hc he hv hr =>
   refine ⟨_, cap, by rw [hl], h1, fun i hi => ⟨b, off, rfl, hb, by omega, by omega, ?_, ?_⟩⟩
   ·have hg : X[i]? = some (PV.pr S[i]) := by rw [<- hX, List.getElem?_map, List.getElem?_eq_getElem hi]; rfl
    have h3 := hv i (by omega) 0 (by omega);have h4 := hr i _ hg 0 _ rfl;generalize vs i 0 = u at h3 h4;cases h4;exact h3
   ·have hg : X[i]? = some (PV.pr S[i]) := by rw [<- hX, List.getElem?_map, List.getElem?_eq_getElem hi]; rfl
    have h3 := hv i (by omega) 1 (by omega);have h4 := hr i _ hg 1 _ rfl;generalize vs i 1 = u at h3 h4;cases h4;exact h3
theorem Qps (w : World) (p : Int × Int) : Qk w Qm (PV.pr p) (.agg #[.int .i64 p.1, .int .i64 p.2]) := by
 refine ⟨_, rfl, rfl, fun i x hx =>?_⟩
 match i, hx with
 | 0, hx => simp at hx; subst hx; exact Qc.int _ _
 | 1, hx => simp at hx; subst hx; exact Qc.int _ _
 | i + 2, hx => simp at hx
def Qnk (ft : FuncId) : Int × Int -> Int × Int -> Bool := if ft = 11 then Qc7 else Qc8
theorem Qh2 (ft : FuncId) (hft : ft = 11 ∨ ft = 12) (m : Nat) (s t : Int × Int) (w : World) :
  CallsIn Fence.wide m Try.prog ft #[.agg #[.int .i64 s.1, .int .i64 s.2], .agg #[.int .i64 t.1, .int .i64 t.2]] w fun e w' => e = .returned (.bool (Qnk ft s t)) /\ Ext Qm w w' := by
 have h : Qo Try.prog ft [PV.pr s, PV.pr t] (· = .bool (Qnk ft s t)) := by
  rcases hft with rfl | rfl
  ·exact Qua
  ·exact Qpq
 refine (Qk2 h rfl Qm (fun _ h => h.elim) (fun i x hx =>?_) m).mono fun e w' h =>?_
 ·match i, hx with
  | 0, hx => simp at hx; subst hx; exact Qps w s
  | 1, hx => simp at hx; subst hx; exact Qps w t
  | i + 2, hx => simp at hx
 ·obtain ⟨v, r, rfl, h1, h2, rfl⟩ := h;cases h2;exact ⟨rfl, h1⟩
open Go Go.FW Go.RowKit
theorem Qr5 (n : Nat) : Qhd n (Qar n) = Qc1 n := by
 have h : upI n 0 = List.range' 0 n := by unfold upI; simp
 unfold Qhd Qc1 Qe4 Qws Qsi;rw [h]
theorem Qub : ∀ n, n < 8 -> (Qar n).length <= 400 := by decide +kernel
theorem Qr6 : ∀ n, n < 8 -> (Qc1 n).length <= 100000 := by decide +kernel
theorem Qyw (n : Nat) (hn : n < 8) : Qly n (Qar n) := by
 refine ⟨Qub n hn, fun m w => Qir n (by omega) m w, fun m s1 s2 t1 t2 w =>?_, fun m s1 s2 t1 t2 w =>?_⟩
 ·have h := Qh2 11 (.inl rfl) m (s1, s2) (t1, t2) w;have e : Qnk 11 = Qc7 := if_pos rfl;rw [e] at h;exact h
 ·have h := Qh2 12 (.inr rfl) m (s1, s2) (t1, t2) w;have e : Qnk 12 = Qc8 := if_neg (by decide);rw [e] at h;exact h
theorem Qsj : ∀ (L : List (Int × List Int × Value)) (i : Nat) (x : Int × List Int × Value) (j : Nat), L[i]? = some x -> j < 5 -> (L.flatMap Qa5)[i * 5 + j]? = (Qa5 x)[j]?
 | [], i, x, j, h, _ => by simp at h
 | y :: L, 0, x, j, h, hj => by simp at h; subst h;rw [List.flatMap_cons, List.getElem?_append_left (by simp [Qa5]; omega)];simp
 | y :: L, i + 1, x, j, h, hj => by
  rw [List.flatMap_cons, List.getElem?_append_right (by simp [Qa5]; omega)];have e : (i + 1) * 5 + j - (Qa5 y).length = i * 5 + j := by simp [Qa5]; omega
  rw [e];exact Qsj L i x j (by simpa using h) hj
theorem Qr7 {w : World} {X : Nat -> Prop} {v : Value} {c : List Int} (h : SlI eI v c w) (hX : ∀ b, v.ownBlock = some b -> ¬ X b) : Qc w X (PV.mono c) v := by
 rcases h.2 with ⟨rfl, h0⟩ | ⟨g, cap, cur, rfl, _, hg, h1, h2, _, _⟩
 ·have : c = [] := List.length_eq_zero_iff.1 h0;subst this;exact Qc.slE 1 none 0 (Nat.zero_le _)
 ·have hl : (c.map (PV.int .i64)).length = c.length := by simp
  have hc := h.cells (g := g) rfl;show Qc w X (.sl 1 (c.map (PV.int .i64))) _;rw [<- hl];refine Qc.sl 1 _ g 0 cap (fun i _ =>.int .i64 (c.getD i 0)) (hX g rfl) (Array.getElem?_eq_some_iff.1 hg).1 (by simpa using h1) h2 (fun i x hx =>?_) (fun i hi j hj =>?_) (fun i x hx j y hy =>?_)
  ·rw [List.getElem?_map] at hx;cases hci : c[i]? with
   | none => rw [hci] at hx; cases hx
   | some a => rw [hci] at hx; cases hx; rfl
  ·have hi' : i < c.length := by simpa using hi
   have hj0 : j = 0 := by omega
   subst hj0;have := hc i (.int .i64 c[i]) (by simp [hi']);have e : (⟨g, 0, none⟩ : Addr).add i = ⟨g, 0 + i * 1 + 0, none⟩ := by unfold Addr.add; split <;> simp_all
   rw [e] at this;rw [this];simp [hi']
  ·rw [List.getElem?_map] at hx;cases hci : c[i]? with
   | none => rw [hci] at hx; cases hx
   | some a =>
    rw [hci] at hx; cases hx
    match j, hy with
    | 0, hy =>simp [PV.cells] at hy;subst hy;simp [hci];exact Qc.int _ _
    | j + 1, hy => simp [PV.cells] at hy
theorem Quc {w w' : World} {X : Nat -> Prop} (hX : ∀ b, X b -> b < w.heap.size) {base : Nat} (hb : w.heap.size < base) {L : List (Int × List Int × Value)} {vo : Value} (hr : w'.ownsRow base 38 5 vo L.length (L.flatMap Qa5)) (ha : ∀ x ∈ L, SlI eI x.2.2 x.2.1 w' /\ ∀ b, x.2.2.ownBlock = some b -> base <= b) :
  Qc w' X (.sl 5 ((L.map fun x => (x.1, x.2.1)).map PV.fct)) vo := by
 have hr0 := hr;rcases hr.2 with ⟨rfl, h0⟩ | ⟨g, cap, cur, rfl, hbg, hg, h1, h2, _, _⟩
 ·have : L = [] := List.length_eq_zero_iff.1 h0;subst this;exact Qc.slE 5 none 0 (Nat.zero_le _)
 ·have hl : ((L.map fun x => (x.1, x.2.1)).map PV.fct).length = L.length := by simp
  rw [show Value.slice (some ⟨g, 0, none⟩) L.length cap = Value.slice (some ⟨g, 0, none⟩) ((L.map fun x => (x.1, x.2.1)).map PV.fct).length cap by rw [hl]];have hget : ∀ (i : Nat) (x : PV), ((L.map fun x => (x.1, x.2.1)).map PV.fct)[i]? = some x -> ∃ z, L[i]? = some z /\ x = PV.fct (z.1, z.2.1) := fun i x hx => by
   rw [List.map_map, List.getElem?_map] at hx;cases hz : L[i]? with
   | none => rw [hz] at hx; cases hx
   | some z => rw [hz] at hx; cases hx; exact ⟨z, rfl, rfl⟩
  refine Qc.sl 5 _ g 0 cap (fun i j => ((L[i]?.map Qa5).getD []).getD j undef) (fun h => by have := hX g h; omega) (Array.getElem?_eq_some_iff.1 hg).1 (by rw [hl]; exact h1) h2 (fun i x hx =>?_) (fun i hi j hj =>?_) (fun i x hx j y hy =>?_)
  ·obtain ⟨z, _, rfl⟩ := hget i x hx;rfl
  ·rw [hl] at hi;have hz : L[i]? = some L[i] := List.getElem?_eq_getElem hi;have h3 := hr0.cellAt (i * 5 + j) (by omega);rw [show (0 : Nat) + i * 5 + j = i * 5 + j by omega, h3, Qsj L i _ j hz hj, hz];have hj5 : j < (Qa5 L[i]).length := by simpa [Qa5] using hj
   simp [hj5]
  ·obtain ⟨z, hz, rfl⟩ := hget i x hx;have hm := ha z (List.mem_of_getElem? hz);simp only [hz, Option.map_some, Option.getD_some]
   match j, hy with
   | 0, hy => simp [PV.cells] at hy; subst hy; exact Qc.int _ _
   | 1, hy =>simp [PV.cells] at hy; subst hy;exact Qr7 hm.1 fun b hb' h => by have := hX b h; have := hm.2 b hb'; omega
   | 2, hy => simp [PV.cells] at hy; subst hy; exact Qc.bool _
   | 3, hy => simp [PV.cells] at hy; subst hy; exact Qc.slE 1 none 0 (Nat.zero_le _)
   | 4, hy => simp [PV.cells] at hy; subst hy; exact Qc.slE 1 none 0 (Nat.zero_le _)
   | j + 5, hy => simp [PV.cells] at hy
theorem Qis {w : World} {X : Nat -> Prop} {L : List PV} {v : Value} {k : Int} (h : Qc w X (.sl 5 L) v) : Qbj w X (.tup [.sl 5 L, .int .i64 k]) (.tuple #[v, .int .i64 k]) := by
 refine ⟨_, rfl, rfl, fun i x hx =>?_⟩
 match i, hx with
 | 0, hx => simp at hx; subst hx; exact h
 | 1, hx => simp at hx; subst hx; exact Qc.int _ _
 | i + 2, hx => simp at hx
theorem Qit {vals : Array Value} {n : Int} (h1 : vals.size = ([PV.int .i64 n] : List PV).length) {w : World} {X : Nat -> Prop} (h2 : ∀ (i : Nat) (x : PV), ([PV.int .i64 n] : List PV)[i]? = some x -> Qk w X x (vals.getD i undef)) : vals = #[.int .i64 n] := by
 have h0 := h2 0 (.int .i64 n) rfl;obtain ⟨v, rfl⟩ : ∃ v, vals = #[v] := by
  obtain ⟨l⟩ := vals
  match l, h1 with
  | [v], _ => exact ⟨v, rfl⟩
 have h1 : Qc w X (.int .i64 n) v := h0;cases h1;rfl
theorem Qx6 : Qnj := by
 refine ⟨fun n hn => ⟨by unfold Qkd; kernel_rfl, fun w X vals hX hs hr =>?_⟩, fun n hn => ⟨by unfold Qkd; kernel_rfl, fun w X vals hX hs hr =>?_⟩, fun n h1 h2 => ⟨by unfold Qkd; kernel_rfl, fun w X vals hX hs hr =>?_⟩⟩
 ·rw [Qit hs hr];have hl := Qr6 n hn;rw [<- Qr5 n] at hl ⊢;refine callsIn_wide.1 ((Qsm n (by omega) (Qar n) (Qyw n hn) hl 0 w).mono fun e w' h =>?_);obtain ⟨vo, rfl, L, base, h1, h2, h3, h4, h5⟩ := h;rw [<- h1];exact ⟨_, _, rfl, h2, Qis (Quc hX h3 h4 h5), rfl⟩
 ·rw [Qit hs hr];refine callsIn_wide.1 ((Qpy n hn 0 w).mono fun e w' h =>?_);obtain ⟨rfl, rfl⟩ := h;exact ⟨_, _, rfl, Ext.refl _ _, Qis (Qc.slE 5 none 0 (Nat.zero_le _)), rfl⟩
 ·rw [Qit hs hr];refine callsIn_wide.1 ((Ql0 n h1 h2 0 w).mono fun e w' h =>?_);obtain ⟨rfl, rfl⟩ := h;exact ⟨_, _, rfl, Ext.refl _ _, Qis (Qc.slE 5 none 0 (Nat.zero_le _)), rfl⟩
end Go.Proofs.Ytohmbopehhgacaa
namespace Go.FW
open Go Go.ChangeShapes Go.WideShapes
section
variable {H : Type} {enc : TypeId × Value -> H} {P : Program} {Qcm : DataW H -> Nat} {N : Nat} {w : World} {base : Nat} {spare : Nat -> Bool} {held : Bool}
end
end Go.FW
