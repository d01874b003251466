/- MatrixMakes holds, for arguments of bulk at most 1048576. -/
import Derived.Test.YtmnkngmmfnncoaaGreatMatrixMakesPart11
set_option linter.unusedSimpArgs false
set_option linter.unnecessarySimpa false
set_option linter.unusedVariables false
namespace Go.Proofs.YtmnkngmmfnncoaaGreat
open Go Go.FW
set_option linter.unusedSimpArgs false
set_option linter.unusedVariables false
set_option maxRecDepth 100000
end Go.Proofs.YtmnkngmmfnncoaaGreat
namespace Go.Proofs.YtmnkngmmfnncoaaGreat
open Go Go.FW
set_option linter.unusedSimpArgs false
set_option linter.unusedVariables false
set_option maxRecDepth 100000
theorem Qo3 {xs : List Int} (hl : xs.length <= 1000) (hx : ∀ x ∈ xs, -9223372036854775808 <= x /\ x <= 9223372036854775807) : Qf Tryz.prog 76 [.sl 1 (Qnj xs)] (· = PV.rats (xs.map fun x : Int => (x : Rat))) := by
 refine Qh Qn Tryz.func76 rfl Qabj (by simp [c76]) fun C hP => ?_; simp only [c76]
 simp +decide (disch := first | omega | rfl | (simp +decide only [go_sem, ↓reduceIte] <;> rfl) | fail) only [go_sem, ↓reduceIte]
 refine Qju 3 900 3 32 (by omega) (by simp +decide (disch := first | omega | rfl | (simp +decide only [go_sem, ↓reduceIte] <;> rfl) | fail) only [go_sem, ↓reduceIte]) ?_
 refine Qaj (by repeat (first | exact Q2 | exact Qu | exact Qv | exact Qw | exact Qx | apply Qt | apply Qz | apply Q7 | apply Qad | apply Qae | apply Qp | apply Q5)) [(3, 18)] [17, 18, 900] (fun n J hp => ∃ i, n = xs.length - i /\ i <= xs.length /\ J 3 = .ms 900 i /\ J 4 = .int .i64 (i : Nat) /\ hp 900 = some ⟨3, 32, ((xs.take i).map fun x : Int => (x : Rat)).map PV.rat, false⟩) xs.length ?_ ?_
 ·refine ⟨0, rfl, by omega, ?_⟩
  simp +decide (disch := first | omega | rfl | (simp +decide only [go_sem, ↓reduceIte] <;> rfl) | fail) only [go_sem, ↓reduceIte]
  rfl
 rintro _ J h ⟨i, rfl, hi, h3, h4, hh⟩
 simp +decide (disch := first | omega | rfl | (simp +decide only [go_sem, ↓reduceIte, h3, h4] <;> rfl) | fail) only [go_sem, ↓reduceIte, h3, h4]
 refine Qb (fun hg => ?_) (fun hg => ?_)
 ·have hi' : i < xs.length := by omega
  have htk : xs.take (i + 1) = xs.take i ++ [xs[i]] := List.take_succ_eq_append_getElem hi'
  have hb := hx _ (List.getElem_mem hi')
  generalize hz : xs[i] = z at *
  simp +decide (disch := first | omega | rfl | (simp +decide only [go_sem, ↓reduceIte, h3, h4, hz] <;> rfl) | fail) only [go_sem, ↓reduceIte, h3, h4, hz]
  refine Qa hP (Qow (x := z) hb.1 hb.2) rfl rfl rfl ?_
  simp +decide (disch := first | omega | rfl | (simp +decide only [go_sem, ↓reduceIte, h3, h4, hz] <;> rfl) | fail) only [go_sem, ↓reduceIte, h3, h4, hz]
  rw [Qcv (f := PV.rat) (y := (z : Rat)) (xs := (xs.take i).map fun x : Int => (x : Rat)) (ty' := 32) (fz := false) (by simp +decide (disch := first | omega | rfl | (simp +decide only [go_sem, ↓reduceIte, hh] <;> rfl) | fail) only [go_sem, ↓reduceIte, hh]) (by simp +decide (disch := first | omega | rfl | (simp +decide only [go_sem, ↓reduceIte] <;> rfl) | fail) only [go_sem, ↓reduceIte]) (by omega) (by rw [List.length_map, List.length_take]; omega) (by omega) (by omega)]
  simp +decide (disch := first | omega | rfl | (simp +decide only [go_sem, ↓reduceIte, h3, h4] <;> rfl) | fail) only [go_sem, ↓reduceIte, h3, h4]
  refine Qac (xs.length - (i + 1)) (by omega) ⟨i + 1, rfl, by omega, ?_⟩
  simp +decide (disch := first | omega | rfl | (simp +decide only [go_sem, ↓reduceIte] <;> rfl) | fail) only [go_sem, ↓reduceIte]
  rw [htk]
  simp
 ·obtain rfl : i = xs.length := by omega
  simp +decide (disch := first | omega | rfl | (simp +decide only [go_sem, ↓reduceIte, h3, hh, Ql, List.contains_cons, List.contains_nil, List.flatMap_cons, List.flatMap_nil, List.append_nil] <;> rfl) | fail) only [go_sem, ↓reduceIte, h3, hh, Ql, List.contains_cons, List.contains_nil, List.flatMap_cons, List.flatMap_nil, List.append_nil]
  refine Qc ?_ rfl
  rw [List.take_of_length_le (i := xs.length) (by simp)]; simp [PV.rats]
theorem alD : Qtd 2 (Qb2 [0, 1, 1, 0] 2) = -1 := by decide +kernel
theorem alE : Qwo 1000 2 2 2 (Qb2 [0, 1, 1, 0] 2) := by unfold Qwo MBd; decide +kernel
theorem alR : Q4n 1000 2 4 (Qb2 [0, 1, 1, 0] 2) := by unfold Q4n MBd; decide +kernel
theorem alS : Qtr (Qb2 [0, 1, 1, 0] 2) 2 := by decide +kernel
theorem alW : ((Qbm 2 (Qb2 [0, 1, 1, 0] 2) 4).2.map (·.1)) = [((1 : Int) : Rat) / ((2 : Int) : Rat), ((-1 : Int) : Rat) / ((2 : Int) : Rat)] := by decide +kernel
theorem alF : Qd4 2 (Qbm 2 (Qb2 [0, 1, 1, 0] 2) 4).2 = (([1, 1, -1, 1] : List Int).map fun x : Int => (x : Rat)) := by decide +kernel
theorem alL : (Qbm 2 (Qb2 [0, 1, 1, 0] 2) 4).2.length = 2 := by decide +kernel
theorem Q0d {k : Nat} {l : List Rat} (h : ∀ q ∈ l, rs q <= k) : RRk k (l.map qR) := RRk.of h
theorem Ql5 {l : List Rat} {k : Nat} (h : ∀ q ∈ l, rs q <= k) (hk : k < 2 ^ 34) (ll : l.length < 2 ^ 40) : Qf Tryz.prog 33 [PV.rats l, PV.rats l] (· = .bool true) := by
 have := Qnb (a := l.map qR) (b := l.map qR) (Q0d h) (Q0d h) hk (by simpa using ll) (by simpa using ll)
 rw [decide_eq_true rfl, <- Qtb] at this
 exact this
theorem Q4q {R m : Nat} {l : List Rat} (hl : l.length = R * m) (hR : R <= 40) (hm : m <= 40) : Qi0 R m (l.map qR) = .tup [PV.mat R m l, .int .i64 0] := by
 have h := Qqt hl hR hm
 unfold Qby at h
 rw [Bool.and_eq_true, decide_eq_true_eq] at h
 unfold Qi0
 rw [if_pos (by omega), if_pos h.1.2.2.2.2, if_pos h.2, Qzj]
theorem Q4r : Qf Tryz.prog 15 [] (· = .bool true) := by
 have n1 := Qo3 (xs := [0, 1, 1, 0]) (by simp) (by simp)
 have n2 := Qo3 (xs := [1, 1, -1, 1]) (by simp) (by simp)
 have s1 : ∀ q ∈ ([0, 1, 1, 0] : List Int).map fun x : Int => (x : Rat), rs q <= 10 := by decide +kernel
 have s2 : ∀ q ∈ ([1, 1, -1, 1] : List Int).map fun x : Int => (x : Rat), rs q <= 10 := by decide +kernel
 have s3 : ∀ q ∈ [((1 : Int) : Rat) / ((2 : Int) : Rat), ((-1 : Int) : Rat) / ((2 : Int) : Rat)], rs q <= 10 := by decide +kernel
 have f1 := Ql2 (x := 1) (y := 2) (by omega) (by omega) (by omega)
 have f2 := Ql2 (x := -1) (y := 2) (by omega) (by omega) (by omega)
 have o1 := Qow (x := -1) (by omega) (by omega)
 have hmk := Q0b (r := 2) (c := 2) (l := (([0, 1, 1, 0] : List Int).map fun x : Int => (x : Rat)).map qR) ⟨by simp, RRk.of fun q hq => by have := s1 q hq; omega⟩
 rw [<- Qtb] at hmk
 rw [show (2 : Int) = ((2 : Nat) : Int) from rfl, Q4q (R := 2) (m := 2) rfl (by omega) (by omega)] at hmk
 have hdet := Qac8 (R := 2) (K := 1000) (l := [0, 1, 1, 0]) rfl (by omega) (fun q hq => by have := s1 q hq; omega) (by omega) alE
 have hred := Q4o (R := 2) (K := 1000) (l := [0, 1, 1, 0]) rfl (by omega) (by omega) (fun q hq => by have := s1 q hq; omega) (by omega) alR alS
 rw [alD] at hdet
 rw [show 2 * 2 = 4 from rfl, redA, alW, alF, alL] at hred
 rw [show ([0, 1, 1, 0] : List Rat) = (([0, 1, 1, 0] : List Int).map fun x : Int => (x : Rat)) from rfl] at hdet hred
 have eq1 := Qwt (a := -1) (b := -1) (k := 10) (by decide +kernel) (by decide +kernel) (by omega)
 have sm1 := Ql5 s3 (by omega) (by simp)
 have sm2 := Ql5 s2 (by omega) (by simp)
 rw [show ((-1 : Int) : Rat) = -1 from rfl] at o1
 rw [decide_eq_true rfl] at eq1
 obtain ⟨lA, hA⟩ : ∃ l, (([0, 1, 1, 0] : List Int).map fun x : Int => (x : Rat)) = l := ⟨_, rfl⟩
 obtain ⟨lB, hB⟩ : ∃ l, (([1, 1, -1, 1] : List Int).map fun x : Int => (x : Rat)) = l := ⟨_, rfl⟩
 obtain ⟨q1, hq1⟩ : ∃ q, ((1 : Int) : Rat) / ((2 : Int) : Rat) = q := ⟨_, rfl⟩
 obtain ⟨q2, hq2⟩ : ∃ q, ((-1 : Int) : Rat) / ((2 : Int) : Rat) = q := ⟨_, rfl⟩
 obtain ⟨q3, hq3⟩ : ∃ q, (-1 : Rat) = q := ⟨_, rfl⟩
 rw [hA] at n1 hmk hdet hred
 rw [hB] at n2 hred sm2
 rw [hq1] at f1 hred sm1
 rw [hq2] at f2 hred sm1
 rw [hq3] at o1 eq1 hdet
 clear hA hB s1 s2 s3
 refine Qh Qn Tryz.func15 rfl Qabk (by simp [c15]) fun C hP => ?_; simp only [c15]
 simp +decide (disch := first | omega | rfl | (simp +decide only [go_sem, ↓reduceIte] <;> rfl) | fail) only [go_sem, ↓reduceIte]
 rw [Qmk (by rfl) (by simp [PV.cells]) (by omega)]
 simp +decide (disch := first | omega | rfl | (simp +decide only [go_sem, ↓reduceIte, Ql, List.contains_cons, List.contains_nil, List.flatMap_cons, List.flatMap_nil, List.append_nil] <;> rfl) | fail) only [go_sem, ↓reduceIte, Ql, List.contains_cons, List.contains_nil, List.flatMap_cons, List.flatMap_nil, List.append_nil]
 refine Qde hP n1 (by simp +decide (disch := first | omega | rfl | (simp +decide only [go_sem, ↓reduceIte, Ql, List.contains_cons, List.contains_nil, List.flatMap_cons, List.flatMap_nil, List.append_nil] <;> rfl) | fail) only [go_sem, ↓reduceIte, Ql, List.contains_cons, List.contains_nil, List.flatMap_cons, List.flatMap_nil, List.append_nil] <;> rfl) rfl ?_
 simp +decide (disch := first | omega | rfl | (simp +decide only [go_sem, ↓reduceIte, Ql, List.contains_cons, List.contains_nil, List.flatMap_cons, List.flatMap_nil, List.append_nil] <;> rfl) | fail) only [go_sem, ↓reduceIte, Ql, List.contains_cons, List.contains_nil, List.flatMap_cons, List.flatMap_nil, List.append_nil]
 repeat' first
  | refine Qe1 ?_ ?_
  | rw [Qmk (by rfl) (by simp [PV.cells]) (by omega)]
  | refine Qa hP hmk rfl rfl rfl ?_
  | refine Qa hP hdet rfl rfl rfl ?_
  | refine Qa hP hred rfl rfl rfl ?_
  | refine Qa hP o1 rfl rfl rfl ?_
  | refine Qa hP eq1 rfl rfl rfl ?_
  | refine Qa hP f1 rfl rfl rfl ?_
  | refine Qa hP f2 rfl rfl rfl ?_
  | refine Qa hP sm2 rfl rfl rfl ?_
  | refine Qde hP sm1 (by simp +decide (disch := first | omega | rfl | (simp +decide only [go_sem, ↓reduceIte, Ql, List.contains_cons, List.contains_nil, List.flatMap_cons, List.flatMap_nil, List.append_nil] <;> rfl) | fail) only [go_sem, ↓reduceIte, Ql, List.contains_cons, List.contains_nil, List.flatMap_cons, List.flatMap_nil, List.append_nil] <;> rfl) rfl ?_
  | refine Qde hP n2 (by simp +decide (disch := first | omega | rfl | (simp +decide only [go_sem, ↓reduceIte, Ql, List.contains_cons, List.contains_nil, List.flatMap_cons, List.flatMap_nil, List.append_nil] <;> rfl) | fail) only [go_sem, ↓reduceIte, Ql, List.contains_cons, List.contains_nil, List.flatMap_cons, List.flatMap_nil, List.append_nil] <;> rfl) rfl ?_
  | simp +decide (disch := first | omega | rfl | (simp +decide only [go_sem, ↓reduceIte, Ql, List.contains_cons, List.contains_nil, List.flatMap_cons, List.flatMap_nil, List.append_nil] <;> rfl) | fail) only [go_sem, ↓reduceIte, Ql, List.contains_cons, List.contains_nil, List.flatMap_cons, List.flatMap_nil, List.append_nil]
 all_goals exact Qc rfl rfl
end Go.Proofs.YtmnkngmmfnncoaaGreat
namespace Go.Proofs.YtmnkngmmfnncoaaGreat
open Go Go.FW
set_option linter.unusedSimpArgs false
set_option linter.unusedVariables false
set_option maxRecDepth 100000
end Go.Proofs.YtmnkngmmfnncoaaGreat
namespace Go.Proofs.YtmnkngmmfnncoaaGreat
open Go Go.FW
set_option linter.unusedSimpArgs false
set_option linter.unusedVariables false
set_option maxRecDepth 100000
end Go.Proofs.YtmnkngmmfnncoaaGreat
namespace Go.Proofs.YtmnkngmmfnncoaaGreat
open Go Go.FW
set_option linter.unusedSimpArgs false
set_option linter.unusedVariables false
set_option maxRecDepth 100000
end Go.Proofs.YtmnkngmmfnncoaaGreat
namespace Go.Proofs.YtmnkngmmfnncoaaGreat
open Go Go.FW
set_option linter.unusedSimpArgs false
set_option linter.unusedVariables false
set_option maxRecDepth 100000
end Go.Proofs.YtmnkngmmfnncoaaGreat
namespace Go.Proofs.YtmnkngmmfnncoaaGreat
open Go Go.FW
set_option linter.unusedSimpArgs false
set_option linter.unusedVariables false
set_option maxRecDepth 100000
theorem Qts {n : Bool} {a d : List Nat} {k : Nat} (h : Raw k n a d) (hk : k < 2 ^ 36) : Qf Tryz.prog 20 [PV.rr n a d, PV.rr n a d] (· = .bool true) := by
 have := Qtj h h hk
 rwa [decide_eq_true (show (n = n /\ a = a) /\ d = d from ⟨⟨rfl, rfl⟩, rfl⟩)] at this
end Go.Proofs.YtmnkngmmfnncoaaGreat
namespace Go.Proofs.YtmnkngmmfnncoaaGreat
open Go Go.FW
set_option linter.unusedSimpArgs false
set_option linter.unusedVariables false
set_option maxRecDepth 100000
abbrev Qw6 (x : Int) : Prop := -9223372036854775808 <= x /\ x <= 9223372036854775807
theorem Q4s {r c : Int} {l : List RQ} (hl : Qcl l) : ∃ r' c' l' e, Qi0 r c l = .tup [PV.rmat r' c' l', .int .i64 e] /\ Qcl l' := by
 have h0 : Qcl [] := ⟨by simp, by simp⟩
 unfold Qi0
 split
 ·split
  ·split
   ·exact ⟨_, _, _, _, rfl, hl⟩
   ·exact ⟨_, _, _, _, rfl, h0⟩
  ·exact ⟨_, _, _, _, rfl, h0⟩
 ·exact ⟨_, _, _, _, rfl, h0⟩
theorem Qab5 {r c i k : Int} {l : List RQ} (hl : Qcl l) : ∃ n a d e, atR r c l i k = .tup [PV.rr n a d, .int .i64 e] /\ Raw 1048576 n a d := by
 have h0 : Raw 1048576 false [] [] := ⟨(fun x hx => by cases hx), (fun x hx => by cases hx), Nat.zero_le _, Nat.zero_le _, by omega⟩
 unfold atR
 split
 ·split
  ·refine ⟨_, _, _, _, rfl, ?_⟩
   rw [List.getD_eq_getElem?_getD]
   cases hq : l[(i * c + k).toNat]? with
   | none => exact h0
   | some q => exact hl.2 q (List.mem_of_getElem? hq)
  ·exact ⟨_, _, _, _, rfl, h0⟩
 ·exact ⟨_, _, _, _, rfl, h0⟩
theorem Qo4 {r c i k : Int} {l : List RQ} (h : Qw6 r /\ Qw6 c /\ Qcl l) (_hi : Qw6 i) (_hk : Qw6 k) : Qf Tryz.prog 4 [PV.rmat r c l, .int .i64 i, .int .i64 k] (· = .bool true) := by
 have hl := h.2.2
 have hsm := Q4k (l := [⟨r, c, l⟩]) (by simpa using hl) (by simp)
 have hm1 := Q0b (r := r) (c := c) hl
 have hm2 := Q8t (r := r) (c := c) hl
 obtain ⟨r', c', l', e', hmk, hl'⟩ := Q4s (r := r) (c := c) hl
 rw [hmk] at hm1 hm2
 have ha1 := m_At (r := r) (c := c) (i := i) (k := k) hl
 have ha2 := Qac7 (r := r) (c := c) (i := i) (k := k) hl
 obtain ⟨n, a, d, e2, hat, hr2⟩ := Qab5 (r := r) (c := c) (i := i) (k := k) hl
 rw [hat] at ha1 ha2
 have hr1 := Qp3 (r := r) (c := c) hl
 have hr9 := Qtq (r := r) (c := c) hl
 have heq := Q4i (r := r') (c := c') (r' := r') (c' := c') hl'.k hl'.k (by omega) (by have := hl'.1; omega) (by have := hl'.1; omega)
 rw [eqM, decide_eq_true ⟨rfl, rfl, rfl⟩] at heq
 have hsa := Qts hr2 (by omega)
 simp only [List.all_cons, List.all_nil, Bool.and_true] at hsm
 generalize Qe4 l 25 = sq at hsm
 generalize Qby r c l = ok at hr1 hr9
 refine Qh Qn Tryz.func4 rfl Qacu (by simp [c4]) fun C hP => ?_; simp only [c4]
 simp +decide (disch := first | omega | rfl | (simp +decide only [go_sem, ↓reduceIte] <;> rfl) | fail) only [go_sem, ↓reduceIte]
 cases sq
 all_goals
  repeat' first
   | refine Qe1 ?_ ?_
   | refine Qa hP Q4r rfl rfl rfl ?_
   | refine Qa hP hm1 rfl rfl rfl ?_
   | refine Qa hP hm2 rfl rfl rfl ?_
   | refine Qa hP ha1 rfl rfl rfl ?_
   | refine Qa hP ha2 rfl rfl rfl ?_
   | refine Qa hP hr1 rfl rfl rfl ?_
   | refine Qa hP hr9 rfl rfl rfl ?_
   | refine Qa hP heq rfl rfl rfl ?_
   | refine Qa hP hsa rfl rfl rfl ?_
   | refine Qde hP hsm (by simp +decide (disch := first | omega | rfl | (simp +decide only [go_sem, ↓reduceIte, Ql, List.contains_cons, List.contains_nil, List.flatMap_cons, List.flatMap_nil, List.append_nil] <;> rfl) | fail) only [go_sem, ↓reduceIte, Ql, List.contains_cons, List.contains_nil, List.flatMap_cons, List.flatMap_nil, List.append_nil] <;> rfl) rfl ?_
   | simp +decide (disch := first | omega | rfl | (simp +decide only [go_sem, ↓reduceIte, Ql, List.contains_cons, List.contains_nil, List.flatMap_cons, List.flatMap_nil, List.append_nil, beq_self_eq_true] <;> rfl) | fail) only [go_sem, ↓reduceIte, Ql, List.contains_cons, List.contains_nil, List.flatMap_cons, List.flatMap_nil, List.append_nil, beq_self_eq_true]
 all_goals exact Qc rfl rfl
end Go.Proofs.YtmnkngmmfnncoaaGreat
namespace Go.Proofs.YtmnkngmmfnncoaaGreat
open Go Go.FW Go.ChangeShapes Go.WideShapes Go.ChangeAt Go.RowKit
set_option linter.unusedSimpArgs false
set_option linter.unusedVariables false
set_option maxRecDepth 100000
theorem Qk5 (H : Type) (enc : TypeId × Value -> H) (W : World) (base : Nat) (args : Array Value) (ds gs : List (DataW H)) (before : List MemPlace)
  (Qcb : ∀ (j : Nat) t v, Tryz.f4.params[j]? = some t -> args[j]? = some v -> Value.okWide Tryz.prog W .any base t v)
  (hW : DataW.Whole enc Tryz.prog Tryz.f4.params.toList Rows.matrixMakesSpec.vars false W args.toList ds gs before) (hk : Rows.uptoSmall H (ds ++ gs) = true) :
  Calls Tryz.prog 4 args W fun e W' => ∃ v, e = .returned v /\ Rows.matrixMakesSpec.post enc Tryz.prog Tryz.f4 false true false false W args v W' := by
 have hW' := hW
 obtain ⟨p, q, hA0, hV, rfl, hfz, hnd⟩ := hW
 have hA : DataW.TrodAll enc Tryz.prog W 0 (fun _ => true) true Tryz.f4.params.toList args.toList ds p := hA0
 rw [Tryz.params4] at hA Qcb
 obtain ⟨v0, vs0, e0, ds0, p0, q0, hargs, rfl, rfl, h0, r0⟩ := trodAll_cons hA
 obtain ⟨v1, vs1, e1, ds1, p1, q1, rfl, rfl, rfl, h1, r1⟩ := trodAll_cons r0
 obtain ⟨v2, vs2, e2, ds2, p2, q2, rfl, rfl, rfl, h2, r2⟩ := trodAll_cons r1
 obtain ⟨rfl, rfl, rfl⟩ := trodAll_nil r2
 obtain rfl : args = #[v0, v1, v2] := by cases args; simp_all
 obtain ⟨rfl, rfl⟩ := trodVars_none hV
 have hb := Q3n hk
 simp only [List.append_nil, Rows.uptoBulkAll] at hb
 obtain ⟨r0, c0, l0, g0, b0⟩ := Qwp (Qcb 0 _ v0 rfl rfl) h0 (by omega)
 obtain ⟨a1, g1, b1⟩ := Qva (Qcb 1 _ v1 rfl rfl) h1 (by omega)
 obtain ⟨a2, g2, b2⟩ := Qva (Qcb 2 _ v2 rfl rfl) h2 (by omega)
 exact Qzm hW' rfl (by kernel_rfl) (by kernel_rfl) rfl (Qo4 b0 b1 b2) rfl
  (Q3o (vs := [v0, v1, v2]) (by
   intro i x hx v hv
   match i, hx, hv with
   | 0, hx, hv => simp at hx hv; subst hx hv; exact g0
   | 1, hx, hv => simp at hx hv; subst hx hv; exact g1
   | 2, hx, hv => simp at hx hv; subst hx hv; exact g2
   | i + 3, hx, hv => simp at hx) rfl)
theorem Ql6 (os : Os) (started : os.Started) (H : Type) (enc : TypeId × Value -> H) (F : Stop.Interp) :
  ReturnsInHanded {} Tryz.checked os 4 .any ((Rows.OpenSpec.upto Rows.matrixMakesSpec).pre6 enc Tryz.prog Tryz.f4 Rows.matrixMakesUptoRow.domain false) (((Rows.OpenSpec.upto Rows.matrixMakesSpec).at F).post enc Tryz.prog Tryz.f4 false true false false) := by
 refine returnsInHanded_of_cond (C := Tryz.checked) (s := Rows.OpenSpec.upto Rows.matrixMakesSpec) (k := Rows.uptoSmall) rfl own started (by kernel_rfl) Tryz.func4
  (OpenSpec.witness (enc := enc) (C := Tryz.checked) (s := Rows.OpenSpec.upto Rows.matrixMakesSpec) (k := Rows.uptoSmall) rfl false ⟨#[], #[.agg #[.int .i64 0, .int .i64 0, .slice none 0 0], .int .i64 0, .int .i64 0], []⟩ 8 (by kernel_rfl) (by kernel_rfl) (by kernel_rfl)
   (x := ([.agg [.lit (.int .i64 0), .lit (.int .i64 0), .nil], .lit (.int .i64 0), .lit (.int .i64 0)], [], [])) (by kernel_rfl) rfl (by kernel_rfl)) ?_
 intro W base args ds gs before Qcb hW _ hk _
 exact Qk5 H enc W base args ds gs before Qcb hW hk
theorem matrixMakes_proved : Rows.MatrixMakesUptoSaid :=
 OpenClaim.holds_of_cond 4 Tryz.f4 rfl rfl rfl rfl rfl rfl rfl ⟨rfl, rfl, rfl, rfl, rfl⟩ rfl rfl rfl rfl rfl (by kernel_rfl) Tryz.func4 (by kernel_rfl)
  (of_decide_eq_true (by kernel_rfl)) (by unfold Func.isWrapper; first | (rw [if_pos (by decide +kernel)]; kernel_rfl) | (rw [if_neg (by decide +kernel)]; exact ⟨rfl, rfl⟩))
  (fun os started H enc _ F => Ql6 os started H enc F)
end Go.Proofs.YtmnkngmmfnncoaaGreat
