/- Part 8 of the proof of PseudoExacts: W6, FwUE. Own lemmas; no conditions. -/
import Derived.Test.YtjkbalanglgoiaaGreatPseudoExactsPart7
set_option linter.unusedSimpArgs false
set_option linter.unnecessarySimpa false
set_option linter.unusedVariables false
namespace Go.Proofs.YtjkbalanglgoiaaGreat
open Go Go.FW
set_option linter.unusedSimpArgs false
set_option linter.unusedVariables false
set_option maxRecDepth 100000
theorem Qrn {k : Nat} {a b : List Int} (ha : MB k a) (hb : MB k b) : Qd Tryz.prog 103 [PV.mono a, PV.mono b] (· = .bool (Qdm a b)) := by
  have h1 := ha.len
  have h2 := hb.len
  refine Qf Qk Tryz.func103 rfl Q7t (by simp [Q4e]) fun C hP => ?_; simp only [Q4e]
  simp +decide (disch := first | omega | rfl | (simp +decide only [go_sem, ↓reduceIte] <;> rfl) | fail) only [go_sem, ↓reduceIte]
  refine Qz (by repeat (first | exact Qv | exact Qp | exact Qq | apply Qo | apply Qu | apply Q2 | apply Q5 | apply Q6 | apply Qm | apply Q3)) [(4, 6), (9, 19)] [] (fun n J hp => ∃ i, n = a.length - i ∧ i ≤ a.length ∧ (∀ j, j < i → eN a j ≤ eN b j) ∧ J 9 = .int .i64 (i : Nat)) a.length ?_ ?_
  · refine ⟨0, rfl, by omega, by omega, ?_⟩
    simp +decide (disch := first | omega | rfl | (simp +decide only [go_sem, ↓reduceIte] <;> rfl) | fail) only [go_sem, ↓reduceIte]
    rfl
  rintro _ J h ⟨i, rfl, hi, hj, h9⟩
  simp +decide (disch := first | omega | rfl | (simp +decide only [go_sem, ↓reduceIte, h9] <;> rfl) | fail) only [go_sem, ↓reduceIte, h9]
  refine Qb (fun hg => ?_) (fun hg => ?_)
  · have hi' : i < a.length := by omega
    have he := Qca hi'
    have hf := Qqt (b := b) hi'
    generalize hx : a[i] = x at *
    simp +decide (disch := first | omega | rfl | (simp +decide only [go_sem, ↓reduceIte, h9, hx] <;> rfl) | fail) only [go_sem, ↓reduceIte, h9, hx]
    refine Qa hP (Qhn (by omega)) rfl rfl rfl ?_
    simp +decide (disch := first | omega | rfl | (simp +decide only [go_sem, ↓reduceIte, h9, hx] <;> rfl) | fail) only [go_sem, ↓reduceIte, h9, hx]
    refine Qb (fun hc => ?_) (fun hc => ?_)
    · simp +decide (disch := first | omega | rfl | (simp +decide only [go_sem, ↓reduceIte] <;> rfl) | fail) only [go_sem, ↓reduceIte]
      exact Qc (congrArg PV.bool (hf (by omega)).symm) rfl
    · simp +decide (disch := first | omega | rfl | (simp +decide only [go_sem, ↓reduceIte, h9] <;> rfl) | fail) only [go_sem, ↓reduceIte, h9]
      refine Ql (a.length - (i + 1)) (by omega) ⟨i + 1, rfl, by omega, fun j hji => ?_, ?_⟩
      · by_cases e : j = i
        · subst e; omega
        · exact hj j (by omega)
      · simp +decide (disch := first | omega | rfl | (simp +decide only [go_sem, ↓reduceIte] <;> rfl) | fail) only [go_sem, ↓reduceIte]
  · obtain rfl : i = a.length := by omega
    simp +decide (disch := first | omega | rfl | (simp +decide only [go_sem, ↓reduceIte] <;> rfl) | fail) only [go_sem, ↓reduceIte]
    exact Qc (congrArg PV.bool (Qsi hj).symm) rfl
theorem Qwd {x y : Int} (h1 : -9223372036854775808 ≤ x - y) (h2 : x - y ≤ 9223372036854775807) : Qd Tryz.prog 106 [.int .i64 x, .int .i64 y] (· = .int .i64 (x - y)) := by
  refine Qf Qk Tryz.func106 rfl Q7u (by simp [Q4f]) fun C hP => ?_; simp only [Q4f]
  simp +decide (disch := first | omega | rfl | (simp +decide only [go_sem, ↓reduceIte] <;> rfl) | fail) only [go_sem, ↓reduceIte]
  exact Qc rfl rfl
theorem Qyp {k : Nat} {a b : List Int} (ha : MB k a) (hb : MB k b) (hk : k ≤ 1099511627776) : Qd Tryz.prog 46 [PV.mono a, PV.mono b] (· = if Qdm b a = true then .tup [PV.mono (Qbr a b), .bool true] else .tup [PV.mono [], .bool false]) := by
  have h1 := ha.len
  have h2 := hb.len
  have hz := Qbc (· - ·) a b
  refine Qf Qk Tryz.func46 rfl Qaaf (by simp [c46]) fun C hP => ?_; simp only [c46]
  simp +decide (disch := first | omega | rfl | (simp +decide only [go_sem, ↓reduceIte] <;> rfl) | fail) only [go_sem, ↓reduceIte]
  refine Qa hP (Qrn hb ha) rfl rfl rfl ?_
  cases hd : Qdm b a
  · simp +decide (disch := first | omega | rfl | (simp +decide only [go_sem, ↓reduceIte] <;> rfl) | fail) only [go_sem, ↓reduceIte]
    exact Qco rfl rfl rfl Quf (Qt _)
  · simp +decide (disch := first | omega | rfl | (simp +decide only [go_sem, ↓reduceIte] <;> rfl) | fail) only [go_sem, ↓reduceIte]
    refine Qa hP (Qkg (f := 106) (g := (· - ·)) (by omega) (by omega) (fun i => Qwd (by have := ha.eN i; have := hb.eN i; omega) (by have := ha.eN i; have := hb.eN i; omega))) rfl rfl rfl ?_
    simp +decide (disch := first | omega | rfl | (simp +decide only [go_sem, ↓reduceIte] <;> rfl) | fail) only [go_sem, ↓reduceIte]
    refine Qa hP (Qok (by omega)) rfl rfl rfl ?_
    simp +decide (disch := first | omega | rfl | (simp +decide only [go_sem, ↓reduceIte] <;> rfl) | fail) only [go_sem, ↓reduceIte]
    exact Qco rfl rfl rfl (Qt _) (Qt _)
theorem Qqv {k : Nat} {a b : List Int} (ha : MB k a) (hb : MB k b) : Qd Tryz.prog 111 [PV.mono a, PV.mono b] (· = .bool (Qdm a b)) := by
  have h1 := ha.len
  have h2 := hb.len
  refine Qf Qk Tryz.func111 rfl Q74 (by simp [Q4q]) fun C hP => ?_; simp only [Q4q]
  simp +decide (disch := first | omega | rfl | (simp +decide only [go_sem, ↓reduceIte] <;> rfl) | fail) only [go_sem, ↓reduceIte]
  refine Qz (by repeat (first | exact Qv | exact Qp | exact Qq | apply Qo | apply Qu | apply Q2 | apply Q5 | apply Q6 | apply Qm | apply Q3)) [(4, 19)] [] (fun n J hp => ∃ i, n = a.length - i ∧ i ≤ a.length ∧ (∀ j, j < i → eN a j ≤ eN b j) ∧ J 5 = .int .i64 (i : Nat)) a.length ?_ ?_
  · refine ⟨0, rfl, by omega, by omega, ?_⟩
    simp +decide (disch := first | omega | rfl | (simp +decide only [go_sem, ↓reduceIte] <;> rfl) | fail) only [go_sem, ↓reduceIte]
    rfl
  rintro _ J h ⟨i, rfl, hi, hj, h5⟩
  simp +decide (disch := first | omega | rfl | (simp +decide only [go_sem, ↓reduceIte, h5] <;> rfl) | fail) only [go_sem, ↓reduceIte, h5]
  refine Qb (fun hg => ?_) (fun hg => ?_)
  · have hi' : i < a.length := by omega
    have he := Qca hi'
    have hf := Qqt (b := b) hi'
    generalize hx : a[i] = x at *
    simp +decide (disch := first | omega | rfl | (simp +decide only [go_sem, ↓reduceIte, h5, hx] <;> rfl) | fail) only [go_sem, ↓reduceIte, h5, hx]
    refine Qa hP (Qbg (by omega)) rfl rfl rfl ?_
    simp +decide (disch := first | omega | rfl | (simp +decide only [go_sem, ↓reduceIte, h5, hx] <;> rfl) | fail) only [go_sem, ↓reduceIte, h5, hx]
    refine Qb (fun hc => ?_) (fun hc => ?_)
    · simp +decide (disch := first | omega | rfl | (simp +decide only [go_sem, ↓reduceIte] <;> rfl) | fail) only [go_sem, ↓reduceIte]
      exact Qc (congrArg PV.bool (hf (by omega)).symm) rfl
    · simp +decide (disch := first | omega | rfl | (simp +decide only [go_sem, ↓reduceIte, h5] <;> rfl) | fail) only [go_sem, ↓reduceIte, h5]
      refine Ql (a.length - (i + 1)) (by omega) ⟨i + 1, rfl, by omega, fun j hji => ?_, ?_⟩
      · by_cases e : j = i
        · subst e; omega
        · exact hj j (by omega)
      · simp +decide (disch := first | omega | rfl | (simp +decide only [go_sem, ↓reduceIte] <;> rfl) | fail) only [go_sem, ↓reduceIte]
  · obtain rfl : i = a.length := by omega
    simp +decide (disch := first | omega | rfl | (simp +decide only [go_sem, ↓reduceIte] <;> rfl) | fail) only [go_sem, ↓reduceIte]
    exact Qc (congrArg PV.bool (Qsi hj).symm) rfl
def Qlw (a b : List Int) : List Int := (List.range a.length).map fun i => eN a i - eN b i
theorem Qlx (a b : List Int) : (Qlw a b).length = a.length := by simp [Qlw]
theorem Q1e {a b : List Int} {i : Nat} (h : i < a.length) : (Qlw a b).take (i + 1) = (Qlw a b).take i ++ [eN a i - eN b i] := by
  rw [List.take_succ_eq_append_getElem (by rw [Qlx]; exact h)]
  simp [Qlw]
theorem Q1f {k : Nat} {a b : List Int} (ha : MB k a) (hb : MB k b) (h : Qdm b a = true) : Qcg (Qlw a b) = Qbr a b := Qfp (Qge _) (Qnc _ _) fun i => by
  rw [Qgv, Qnx]
  have := (Qpd ha).1 h i
  have h2 := hb.eN i
  by_cases hi : i < a.length
  · rw [Qca (by rw [Qlx]; exact hi)]; simp [Qlw]
  · rw [Qcf (by rw [Qlx]; omega), Qcf (a := a) (by omega)]
    rw [Qcf (a := a) (by omega)] at this
    omega
theorem Qwe {k : Nat} {a b : List Int} (ha : MB k a) (hb : MB k b) (hk : k ≤ 1099511627776) : Qd Tryz.prog 49 [PV.mono a, PV.mono b] (· = if Qdm b a = true then .tup [PV.mono (Qbr a b), .bool true] else .tup [PV.mono [], .bool false]) := by
  have h1 := ha.len
  have h2 := hb.len
  have hql := Qlx a b
  refine Qf Qk Tryz.func49 rfl Qaa4 (by simp [c49]) fun C hP => ?_; simp only [c49]
  simp +decide (disch := first | omega | rfl | (simp +decide only [go_sem, ↓reduceIte] <;> rfl) | fail) only [go_sem, ↓reduceIte]
  refine Qa hP (Qqv hb ha) rfl rfl rfl ?_
  cases hd : Qdm b a
  · simp +decide (disch := first | omega | rfl | (simp +decide only [go_sem, ↓reduceIte] <;> rfl) | fail) only [go_sem, ↓reduceIte]
    exact Qco rfl rfl rfl Quf (Qt _)
  · have htr := Q1f ha hb hd
    simp +decide (disch := first | omega | rfl | (simp +decide only [go_sem, ↓reduceIte] <;> rfl) | fail) only [go_sem, ↓reduceIte]
    refine Qe5 6 900 1 3 (by omega) (by simp +decide (disch := first | omega | rfl | (simp +decide only [go_sem, ↓reduceIte] <;> rfl) | fail) only [go_sem, ↓reduceIte]) ?_
    refine Qz (by repeat (first | exact Qv | exact Qp | exact Qq | apply Qo | apply Qu | apply Q2 | apply Q5 | apply Q6 | apply Qm | apply Q3)) [(6, 7), (12, 28)] [27, 28, 900] (fun m J hp => ∃ (i : Nat) (out : List Int), m = a.length - i ∧ i ≤ a.length ∧ out = (Qlw a b).take i ∧ J 6 = .ms 900 out.length ∧ J 7 = .int .i64 i ∧ hp 900 = some ⟨1, 3, Qgr out, false⟩) a.length ?_ ?_
    · refine ⟨0, [], rfl, by omega, by simp, ?_⟩
      simp +decide (disch := first | omega | rfl | (simp +decide only [go_sem, ↓reduceIte] <;> rfl) | fail) only [go_sem, ↓reduceIte]
      simp
    rintro _ J h ⟨i, out, rfl, hi, hout, h6, h7, hh⟩
    have hol : out.length = i := by rw [hout, List.length_take, hql]; omega
    simp +decide (disch := first | omega | rfl | (simp +decide only [go_sem, ↓reduceIte, h6, h7] <;> rfl) | fail) only [go_sem, ↓reduceIte, h6, h7]
    refine Qb (fun hg => ?_) (fun hg => ?_)
    · have hi' : i < a.length := by omega
      have htk := Q1e (b := b) hi'
      have he := Qca hi'
      have ea := ha.eN i
      have eb := hb.eN i
      rw [he] at htk ea
      generalize hx : a[i] = x at *
      simp +decide (disch := first | omega | rfl | (simp +decide only [go_sem, ↓reduceIte, h6, h7, hx] <;> rfl) | fail) only [go_sem, ↓reduceIte, h6, h7, hx]
      refine Qa hP (Qbg (a := b) (i := i) (by omega)) rfl rfl rfl ?_
      simp +decide (disch := first | omega | rfl | (simp +decide only [go_sem, ↓reduceIte, h6, h7, hx] <;> rfl) | fail) only [go_sem, ↓reduceIte, h6, h7, hx]
      rw [Qaa (f := fun (x : Int) => .int .i64 x) (y := x - eN b i) (xs := out) (ty' := 3) (fz := false) (by simp +decide (disch := first | omega | rfl | (simp +decide only [go_sem, ↓reduceIte, hh] <;> rfl) | fail) only [go_sem, ↓reduceIte, hh]) (by simp +decide (disch := first | omega | rfl | (simp +decide only [go_sem, ↓reduceIte] <;> rfl) | fail) only [go_sem, ↓reduceIte] <;> rfl) (by omega) rfl (by omega) (by omega)]
      simp +decide (disch := first | omega | rfl | (simp +decide only [go_sem, ↓reduceIte, h6, h7, hx] <;> rfl) | fail) only [go_sem, ↓reduceIte, h6, h7, hx]
      refine Ql (a.length - (i + 1)) (by omega) ⟨i + 1, out ++ [x - eN b i], rfl, by omega, by rw [htk, hout], ?_⟩
      simp +decide (disch := first | omega | rfl | (simp +decide only [go_sem, ↓reduceIte] <;> rfl) | fail) only [go_sem, ↓reduceIte]
      simp
    · obtain rfl : i = a.length := by omega
      rw [List.take_of_length_le (by omega)] at hout
      subst hout
      simp +decide (disch := first | omega | rfl | (simp +decide only [go_sem, ↓reduceIte, h6, hh] <;> rfl) | fail) only [go_sem, ↓reduceIte, h6, hh]
      refine Qbi hP (Qoq (l := Qlw a b) (by omega)) (by simp +decide (disch := first | omega | rfl | (simp +decide only [go_sem, ↓reduceIte, hh, Qg, List.contains_cons, List.contains_nil, List.flatMap_cons, List.flatMap_nil, List.append_nil] <;> rfl) | fail) only [go_sem, ↓reduceIte, hh, Qg, List.contains_cons, List.contains_nil, List.flatMap_cons, List.flatMap_nil, List.append_nil]; simp [List.take_of_length_le]) rfl ?_
      rw [htr]
      simp +decide (disch := first | omega | rfl | (simp +decide only [go_sem, ↓reduceIte] <;> rfl) | fail) only [go_sem, ↓reduceIte]
      exact Qco rfl rfl rfl (Qt _) (Qt _)
theorem Qsj {x y : Int} (hx : nl x.natAbs < 2 ^ 38) (hy : nl y.natAbs < 2 ^ 38) (h0 : y ≠ 0) : Qd Tryz.prog 58 [PV.zz x, PV.zz y] (· = .tup [PV.rat ((x : Rat) / (y : Rat)), .int .i64 0]) := by
  have hv := Qqu x y h0
  have hr := Qm6 (n := decide (x < 0) != decide (y < 0)) (a := dig x.natAbs) (d := dig y.natAbs) (Qi _) (Qi _) hx hy
  rw [rv, Qr, hv] at hr
  have hs := Qoi (n := decide (y < 0)) (a := dig y.natAbs) (Qi _) (by show nl _ < _; omega)
  rw [Qe6] at hs
  generalize (x : Rat) / (y : Rat) = Q at *
  refine Qf Qk Tryz.func58 rfl Q96 (by simp [c58]) fun C hP => ?_; simp only [c58]
  simp +decide (disch := first | omega | rfl | (simp +decide only [go_sem, ↓reduceIte] <;> rfl) | fail) only [go_sem, ↓reduceIte]
  refine Qa hP hs rfl rfl rfl ?_
  simp +decide (disch := first | omega | rfl | (simp +decide only [go_sem, ↓reduceIte] <;> rfl) | fail) only [go_sem, ↓reduceIte]
  refine Qb (fun h => absurd (Qla.1 h) h0) (fun _ => ?_)
  simp +decide (disch := first | omega | rfl | (simp +decide only [go_sem, ↓reduceIte] <;> rfl) | fail) only [go_sem, ↓reduceIte]
  refine Qa hP hr rfl rfl rfl ?_
  simp +decide (disch := first | omega | rfl | (simp +decide only [go_sem, ↓reduceIte] <;> rfl) | fail) only [go_sem, ↓reduceIte]
  refine Qfd ?_
  simp +decide (disch := first | omega | rfl | (simp +decide only [go_sem, ↓reduceIte] <;> rfl) | fail) only [go_sem, ↓reduceIte]
  exact Qco rfl rfl rfl (Qt _) (Qt _)
theorem Q1g {n m : Bool} {a d b c : List Nat} {k : Nat} (hp : Raw k n a d) (hq : Raw k m b c) (hk : k < 2 ^ 34) (h0 : rv m b c ≠ 0) : Qd Tryz.prog 47 [PV.rr n a d, PV.rr m b c] (· = .tup [PV.rat (rv n a d / rv m b c), .int .i64 0]) := by
  refine Qf Qk Tryz.func47 rfl Q97 (by simp [c47]) fun C hP => ?_; simp only [c47]
  simp +decide (disch := first | omega | rfl | (simp +decide only [go_sem, ↓reduceIte] <;> rfl) | fail) only [go_sem, ↓reduceIte]
  refine Qcv hP (Qd6 hp.la hp.ld hp.k1 hp.sa hp.sd (by omega)) rfl rfl rfl ?_
  rintro _ ⟨n', a', d', rfl, g1, g2, g3, g4, g5, g6⟩
  simp +decide (disch := first | omega | rfl | (simp +decide only [go_sem, ↓reduceIte] <;> rfl) | fail) only [go_sem, ↓reduceIte]
  refine Qcv hP (Qd6 hq.la hq.ld hq.k1 hq.sa hq.sd (by omega)) rfl rfl rfl ?_
  rintro _ ⟨m', b', c', rfl, e1, e2, e3, e4, e5, e6⟩
  simp +decide (disch := first | omega | rfl | (simp +decide only [go_sem, ↓reduceIte] <;> rfl) | fail) only [go_sem, ↓reduceIte]
  have hza : nl (zv n' a').natAbs ≤ k := by rw [Qa9]; exact Nat.le_trans (Qag g1) g3
  have hzb : nl (zv m' b').natAbs ≤ k := by rw [Qa9]; exact Nat.le_trans (Qag e1) e3
  have hvd : nl (val d') ≤ k := Nat.le_trans (Qag g2) g4
  have hvc : nl (val c') ≤ k := Nat.le_trans (Qag e2) e4
  have h3 := Qaq (zv n' a') (val c')
  have h6 := Qaq (zv m' b') (val d')
  rw [Int.natAbs_natCast] at h3 h6
  have hzb0 : zv m' b' ≠ 0 := fun h => h0 (by rw [← e6, rv, h, Rat.zero_mkRat])
  have hne : zv m' b' * (val d' : Int) ≠ 0 := Int.mul_ne_zero hzb0 (by omega)
  have hfin := Qabs (n := n') (a := a') (m := m') (b := b') g5 e5 hzb0
  rw [g6, e6] at hfin
  have hm1 := Qd5 (n := n') (m := false) g1 e2 (by omega) (by omega)
  have hm2 := Qd5 (n := m') (m := false) e1 g2 (by omega) (by omega)
  rw [Qfn] at hm1 hm2
  refine Qa hP (Qe7 c') rfl rfl rfl ?_
  simp +decide (disch := first | omega | rfl | (simp +decide only [go_sem, ↓reduceIte] <;> rfl) | fail) only [go_sem, ↓reduceIte]
  refine Qa hP hm1 rfl rfl rfl ?_
  simp +decide (disch := first | omega | rfl | (simp +decide only [go_sem, ↓reduceIte] <;> rfl) | fail) only [go_sem, ↓reduceIte]
  refine Qa hP (Qe7 d') rfl rfl rfl ?_
  simp +decide (disch := first | omega | rfl | (simp +decide only [go_sem, ↓reduceIte] <;> rfl) | fail) only [go_sem, ↓reduceIte]
  refine Qa hP hm2 rfl rfl rfl ?_
  generalize zv n' a' * (val c' : Int) = X at *
  generalize zv m' b' * (val d' : Int) = Y at *
  simp +decide (disch := first | omega | rfl | (simp +decide only [go_sem, ↓reduceIte] <;> rfl) | fail) only [go_sem, ↓reduceIte]
  refine Qa hP (Qsj (x := X) (y := Y) (by omega) (by omega) hne) rfl rfl rfl ?_
  rw [hfin]
  generalize rv n a d / rv m b c = Q at *
  simp +decide (disch := first | omega | rfl | (simp +decide only [go_sem, ↓reduceIte] <;> rfl) | fail) only [go_sem, ↓reduceIte]
  refine Qfd ?_
  simp +decide (disch := first | omega | rfl | (simp +decide only [go_sem, ↓reduceIte] <;> rfl) | fail) only [go_sem, ↓reduceIte]
  exact Qco rfl rfl rfl (Qt _) (Qt _)
theorem Qacf {a b : Rat} {k : Nat} (ha : rs a ≤ k) (hb : rs b ≤ k) (hk : k < 2 ^ 34) (h0 : b ≠ 0) : Qd Tryz.prog 47 [PV.rat a, PV.rat b] (· = .tup [PV.rat (a / b), .int .i64 0]) := by
  have := Q1g (Qbh ha) (Qbh hb) hk (by rw [Qb0]; exact h0)
  rwa [Qb0, Qb0] at this
theorem Q1h {x : Int} (hx : nl x.natAbs < 2 ^ 40) : Qd Tryz.prog 135 [PV.zz x] (· = PV.zz (-x)) := by
  have hs := Qdd (n := !decide (x < 0)) (a := dig x.natAbs) (Qi _) (by show nl _ < _; omega)
  have e : zv (!decide (x < 0)) (dig x.natAbs) = -x := by
    rw [Qgd]; by_cases h : x < 0 <;> simp [h] <;> omega
  rw [e] at hs
  refine Qf Qk Tryz.func135 rfl Q8i (by simp [Q48]) fun C hP => ?_; simp only [Q48]
  simp +decide (disch := first | omega | rfl | (simp +decide only [go_sem, ↓reduceIte] <;> rfl) | fail) only [go_sem, ↓reduceIte]
  refine Qa hP hs rfl rfl rfl ?_
  simp +decide (disch := first | omega | rfl | (simp +decide only [go_sem, ↓reduceIte] <;> rfl) | fail) only [go_sem, ↓reduceIte]
  refine Qay ?_
  simp +decide (disch := first | omega | rfl | (simp +decide only [go_sem, ↓reduceIte] <;> rfl) | fail) only [go_sem, ↓reduceIte]
  exact Qc rfl rfl
theorem Qly {x y : Int} (hx : nl x.natAbs < 2 ^ 35) (hy : nl y.natAbs < 2 ^ 35) (h0 : y ≠ 0) : Qd Tryz.prog 65 [PV.zz x, PV.zz y] (· = .tup [PV.rat ((x : Rat) / (y : Rat)), .int .i64 0]) := by
  have h3 : (y : Rat) ≠ 0 := by rw [Ne, Rat.intCast_eq_zero_iff]; exact h0
  have hnx : nl (-x).natAbs < 2 ^ 35 := by rw [Int.natAbs_neg]; exact hx
  have o1 := Qgi (z := x) (D := y.natAbs) (by omega) (by omega)
  have o2 := Qgi (z := -x) (D := y.natAbs) (by omega) (by omega)
  have e1 : ¬ y < 0 → mkRat x y.natAbs = (x : Rat) / (y : Rat) := fun h => by
    rw [Rat.mkRat_eq_div, ← Rat.intCast_natCast]
    congr 2; omega
  have e2 : y < 0 → mkRat (-x) y.natAbs = (x : Rat) / (y : Rat) := fun h => by
    have e : (((y.natAbs : Nat) : Int) : Rat) = - (y : Rat) := by rw [← Rat.intCast_neg]; congr 1; omega
    rw [Rat.mkRat_eq_div, ← Rat.intCast_natCast, e, Rat.intCast_neg]
    grind
  refine Qf Qk Tryz.func65 rfl Qabj (by simp [c65]) fun C hP => ?_; simp only [c65]
  simp +decide (disch := first | omega | rfl | (simp +decide only [go_sem, ↓reduceIte] <;> rfl) | fail) only [go_sem, ↓reduceIte]
  refine Qa hP (Qlt (by omega)) rfl rfl rfl ?_
  simp +decide (disch := first | omega | rfl | (simp +decide only [go_sem, ↓reduceIte] <;> rfl) | fail) only [go_sem, ↓reduceIte]
  refine Qb (fun h => absurd (Qla.1 h) h0) (fun _ => ?_)
  simp +decide (disch := first | omega | rfl | (simp +decide only [go_sem, ↓reduceIte] <;> rfl) | fail) only [go_sem, ↓reduceIte]
  refine Qb (fun hn => ?_) (fun hn => ?_)
  · rw [e2 hn] at o2
    generalize (x : Rat) / (y : Rat) = Q at *
    simp +decide (disch := first | omega | rfl | (simp +decide only [go_sem, ↓reduceIte] <;> rfl) | fail) only [go_sem, ↓reduceIte]
    refine Qa hP (Q1h (x := x) (by omega)) rfl rfl rfl ?_
    simp +decide (disch := first | omega | rfl | (simp +decide only [go_sem, ↓reduceIte] <;> rfl) | fail) only [go_sem, ↓reduceIte]
    refine Qa hP o2 rfl rfl rfl ?_
    simp +decide (disch := first | omega | rfl | (simp +decide only [go_sem, ↓reduceIte] <;> rfl) | fail) only [go_sem, ↓reduceIte]
    refine Qfd ?_
    simp +decide (disch := first | omega | rfl | (simp +decide only [go_sem, ↓reduceIte] <;> rfl) | fail) only [go_sem, ↓reduceIte]
    exact Qco rfl rfl rfl (Qt _) (Qt _)
  · rw [e1 hn] at o1
    generalize (x : Rat) / (y : Rat) = Q at *
    simp +decide (disch := first | omega | rfl | (simp +decide only [go_sem, ↓reduceIte] <;> rfl) | fail) only [go_sem, ↓reduceIte]
    refine Qa hP o1 rfl rfl rfl ?_
    simp +decide (disch := first | omega | rfl | (simp +decide only [go_sem, ↓reduceIte] <;> rfl) | fail) only [go_sem, ↓reduceIte]
    refine Qfd ?_
    simp +decide (disch := first | omega | rfl | (simp +decide only [go_sem, ↓reduceIte] <;> rfl) | fail) only [go_sem, ↓reduceIte]
    exact Qco rfl rfl rfl (Qt _) (Qt _)
theorem Qyq {n m : Bool} {a d b c : List Nat} {k : Nat} (hp : Raw k n a d) (hq : Raw k m b c) (hk : k < 2 ^ 33) (h0 : rv m b c ≠ 0) : Qd Tryz.prog 50 [PV.rr n a d, PV.rr m b c] (· = .tup [PV.rat (rv n a d / rv m b c), .int .i64 0]) := by
  have hx := hp.rs
  have hy := hq.rs
  unfold FW.rs at hx hy
  refine Qf Qk Tryz.func50 rfl Qabp (by simp [c50]) fun C hP => ?_; simp only [c50]
  simp +decide (disch := first | omega | rfl | (simp +decide only [go_sem, ↓reduceIte] <;> rfl) | fail) only [go_sem, ↓reduceIte]
  refine Qa hP (Qch hp (by omega)) rfl rfl rfl ?_
  simp +decide (disch := first | omega | rfl | (simp +decide only [go_sem, ↓reduceIte] <;> rfl) | fail) only [go_sem, ↓reduceIte]
  refine Qa hP (Qch hq (by omega)) rfl rfl rfl ?_
  generalize rv n a d = p at *
  generalize rv m b c = q at *
  have h1 := Qaq p.num (q.den : Int)
  have h2 := Qaq q.num (p.den : Int)
  rw [Int.natAbs_natCast] at h1 h2
  have hq0 : q.num ≠ 0 := fun h => h0 (Rat.num_eq_zero.1 h)
  have hne : q.num * (p.den : Int) ≠ 0 := Int.mul_ne_zero hq0 (by have := p.den_nz; omega)
  have hfin : ((p.num * (q.den : Int) : Int) : Rat) / ((q.num * (p.den : Int) : Int) : Rat) = p / q := by
    have k1 : ((p.den : Int) : Rat) ≠ 0 := by rw [Ne, Rat.intCast_eq_zero_iff]; have := p.den_nz; omega
    have k2 : ((q.den : Int) : Rat) ≠ 0 := by rw [Ne, Rat.intCast_eq_zero_iff]; have := q.den_nz; omega
    have k3 : ((q.num : Int) : Rat) ≠ 0 := by rw [Ne, Rat.intCast_eq_zero_iff]; exact hq0
    have d1 : p = (p.num : Rat) / ((p.den : Int) : Rat) := by
      conv => lhs; rw [← Rat.mkRat_self p]
      rw [Rat.mkRat_eq_div, Rat.intCast_natCast]
    have d2 : q = (q.num : Rat) / ((q.den : Int) : Rat) := by
      conv => lhs; rw [← Rat.mkRat_self q]
      rw [Rat.mkRat_eq_div, Rat.intCast_natCast]
    rw [Rat.intCast_mul, Rat.intCast_mul]
    generalize (p.num : Rat) = A at *
    generalize (q.num : Rat) = B at *
    generalize ((p.den : Int) : Rat) = D at *
    generalize ((q.den : Int) : Rat) = F at *
    rw [d1, d2]
    grind
  simp +decide (disch := first | omega | rfl | (simp +decide only [go_sem, ↓reduceIte] <;> rfl) | fail) only [go_sem, ↓reduceIte]
  refine Qa hP (Qda (dig q.den)) rfl rfl rfl ?_
  simp +decide (disch := first | omega | rfl | (simp +decide only [go_sem, ↓reduceIte] <;> rfl) | fail) only [go_sem, ↓reduceIte]
  refine Qa hP (Qf0 (x := p.num) (d := q.den) (by omega) (by omega)) rfl rfl rfl ?_
  simp +decide (disch := first | omega | rfl | (simp +decide only [go_sem, ↓reduceIte] <;> rfl) | fail) only [go_sem, ↓reduceIte]
  refine Qa hP (Qda (dig p.den)) rfl rfl rfl ?_
  simp +decide (disch := first | omega | rfl | (simp +decide only [go_sem, ↓reduceIte] <;> rfl) | fail) only [go_sem, ↓reduceIte]
  refine Qa hP (Qf0 (x := q.num) (d := p.den) (by omega) (by omega)) rfl rfl rfl ?_
  generalize p.num * (q.den : Int) = X at *
  generalize q.num * (p.den : Int) = Y at *
  simp +decide (disch := first | omega | rfl | (simp +decide only [go_sem, ↓reduceIte] <;> rfl) | fail) only [go_sem, ↓reduceIte]
  refine Qa hP (Qly (x := X) (y := Y) (by omega) (by omega) hne) rfl rfl rfl ?_
  rw [hfin]
  generalize p / q = Q at *
  simp +decide (disch := first | omega | rfl | (simp +decide only [go_sem, ↓reduceIte] <;> rfl) | fail) only [go_sem, ↓reduceIte]
  refine Qfd ?_
  simp +decide (disch := first | omega | rfl | (simp +decide only [go_sem, ↓reduceIte] <;> rfl) | fail) only [go_sem, ↓reduceIte]
  exact Qco rfl rfl rfl (Qt _) (Qt _)
theorem Q5h {a b : Rat} {k : Nat} (ha : rs a ≤ k) (hb : rs b ≤ k) (hk : k < 2 ^ 33) (h0 : b ≠ 0) : Qd Tryz.prog 50 [PV.rat a, PV.rat b] (· = .tup [PV.rat (a / b), .int .i64 0]) := by
  have := Qyq (Qbh ha) (Qbh hb) hk (by rw [Qb0]; exact h0)
  rwa [Qb0, Qb0] at this
theorem Qnd {x y : Int} (hx : -9223372036854775808 ≤ x ∧ x ≤ 9223372036854775807) (hy : -9223372036854775808 ≤ y ∧ y ≤ 9223372036854775807) (h0 : y ≠ 0) : Qd Tryz.prog 34 [.int .i64 x, .int .i64 y] (· = PV.rat ((x : Rat) / (y : Rat))) := by
  have n1 := Qc2 (n := x.natAbs) (by omega)
  have n2 := Qc2 (n := y.natAbs) (by omega)
  have hm := Qly (x := x) (y := y) (by omega) (by omega) h0
  generalize (x : Rat) / (y : Rat) = Q at *
  refine Qf Qk Tryz.func34 rfl Qaa5 (by simp [c34]) fun C hP => ?_; simp only [c34]
  simp +decide (disch := first | omega | rfl | (simp +decide only [go_sem, ↓reduceIte] <;> rfl) | fail) only [go_sem, ↓reduceIte]
  refine Qa hP (Qls hx.1 hx.2) rfl rfl rfl ?_
  simp +decide (disch := first | omega | rfl | (simp +decide only [go_sem, ↓reduceIte] <;> rfl) | fail) only [go_sem, ↓reduceIte]
  refine Qa hP (Qls hy.1 hy.2) rfl rfl rfl ?_
  simp +decide (disch := first | omega | rfl | (simp +decide only [go_sem, ↓reduceIte] <;> rfl) | fail) only [go_sem, ↓reduceIte]
  refine Qa hP hm rfl rfl rfl ?_
  simp +decide (disch := first | omega | rfl | (simp +decide only [go_sem, ↓reduceIte] <;> rfl) | fail) only [go_sem, ↓reduceIte]
  refine Qay ?_
  simp +decide (disch := first | omega | rfl | (simp +decide only [go_sem, ↓reduceIte] <;> rfl) | fail) only [go_sem, ↓reduceIte]
  exact Qc rfl rfl
end Go.Proofs.YtjkbalanglgoiaaGreat
namespace Go.FW
open Go
def Qc4 (p : List Tm) : Nat := p.foldl (fun g t => Nat.gcd g t.1.num.natAbs) 0
def Qan (p : List Tm) : Nat := p.foldl (fun l t => l * (t.1.den / Nat.gcd l t.1.den)) 1
theorem Qjg {p : List Tm} {i : Nat} (h : i < p.length) : Qc4 (p.take (i + 1)) = Nat.gcd (Qc4 (p.take i)) p[i].1.num.natAbs := by
  rw [List.take_succ_eq_append_getElem h, Qc4, List.foldl_append]; rfl
theorem Qey {p : List Tm} {i : Nat} (h : i < p.length) : Qan (p.take (i + 1)) = Qan (p.take i) * (p[i].1.den / Nat.gcd (Qan (p.take i)) p[i].1.den) := by
  rw [List.take_succ_eq_append_getElem h, Qan, List.foldl_append]; rfl
structure Q5i (G L : Nat) : Prop where
  l0 : 0 < L
  cop : Nat.Coprime G L
theorem Qsk {G L n d : Nat} (h : Q5i G L) (hd : 0 < d) (hc : Nat.Coprime n d) :
    Q5i (Nat.gcd G n) (L * (d / Nat.gcd L d)) ∧ Nat.gcd (G * (d / Nat.gcd L d)) (n * (L / Nat.gcd L d)) = Nat.gcd G n := by
  obtain ⟨g, hg⟩ : ∃ g, g = Nat.gcd L d := ⟨_, rfl⟩
  have hg0 : 0 < g := hg ▸ Nat.gcd_pos_of_pos_left d h.l0
  obtain ⟨a, ha⟩ : g ∣ d := hg ▸ Nat.gcd_dvd_right L d
  obtain ⟨b, hb⟩ : g ∣ L := hg ▸ Nat.gcd_dvd_left L d
  have hab : Nat.Coprime a b := by
    have e : Nat.gcd L d = g * Nat.gcd b a := by
      conv => lhs; rw [hb, ha, Nat.gcd_mul_left]
    rw [← hg] at e
    have : Nat.gcd b a = 1 := by
      apply Nat.eq_of_mul_eq_mul_left hg0
      rw [Nat.mul_one]; exact e.symm
    rw [Nat.Coprime, Nat.gcd_comm]; exact this
  have e1 : d / Nat.gcd L d = a := by rw [← hg, ha, Nat.mul_div_cancel_left _ hg0]
  have e2 : L / Nat.gcd L d = b := by rw [← hg, hb, Nat.mul_div_cancel_left _ hg0]
  have hcop := h.cop
  rw [e1, e2]
  have ha0 : 0 < a := Nat.pos_of_mul_pos_left (ha ▸ hd : 0 < g * a)
  have cna : Nat.Coprime n a := Nat.Coprime.coprime_dvd_right ⟨g, by rw [ha, Nat.mul_comm]⟩ hc
  have cGb : Nat.Coprime G b := Nat.Coprime.coprime_dvd_right ⟨g, by rw [hb, Nat.mul_comm]⟩ hcop
  refine ⟨⟨Nat.mul_pos h.l0 ha0, ?_⟩, ?_⟩
  · refine Nat.Coprime.mul_right ?_ ?_
    · exact Nat.Coprime.coprime_dvd_left (Nat.gcd_dvd_left G n) hcop
    · exact Nat.Coprime.coprime_dvd_left (Nat.gcd_dvd_right G n) cna
  · have c1 : Nat.Coprime a (n * b) := Nat.Coprime.mul_right cna.symm hab
    rw [Nat.mul_comm G a, Nat.Coprime.gcd_mul_left_cancel _ c1, Nat.mul_comm n b, Nat.Coprime.gcd_mul_left_cancel_right _ cGb.symm]
theorem Qw6 (q : Rat) : Nat.Coprime q.num.natAbs q.den := q.reduced
theorem Qlz (p : List Tm) : ∀ i, i ≤ p.length → Q5i (Qc4 (p.take i)) (Qan (p.take i))
  | 0, _ => ⟨by simp [Qan], by simp [Qc4, Qan, Nat.Coprime]⟩
  | i + 1, h => by
    rw [Qjg (by omega), Qey (by omega)]
    exact (Qsk (Qlz p i (by omega)) (Nat.pos_of_ne_zero p[i].1.den_nz) (Qw6 _)).1
theorem Qu9 (p : List Tm) {i : Nat} (h : i < p.length) : Qan (p.take i) ∣ Qan (p.take (i + 1)) ∧ p[i].1.den ∣ Qan (p.take (i + 1)) := by
  rw [Qey h]
  refine ⟨Nat.dvd_mul_right _ _, ?_⟩
  generalize Qan (p.take i) = L
  generalize p[i].1.den = d
  obtain ⟨a, ha⟩ : Nat.gcd L d ∣ d := Nat.gcd_dvd_right L d
  obtain ⟨b, hb⟩ : Nat.gcd L d ∣ L := Nat.gcd_dvd_left L d
  generalize hg : Nat.gcd L d = g at *
  rcases Nat.eq_zero_or_pos g with h0 | h0
  · rw [h0, Nat.zero_mul] at ha; subst ha
    rw [h0] at hb; simp at hb; subst hb
    simp
  · have e1 : d / g = a := by rw [ha, Nat.mul_div_cancel_left _ h0]
    rw [e1]
    exact ⟨b, by rw [ha, hb, Nat.mul_right_comm]⟩
theorem Qw7 (p : List Tm) : ∀ {i j : Nat}, i ≤ j → j ≤ p.length → Qan (p.take i) ∣ Qan (p.take j) := by
  intro i j h hj
  obtain ⟨k, rfl⟩ : ∃ k, j = i + k := ⟨j - i, by omega⟩
  clear h
  induction k with
  | zero => exact Nat.dvd_refl _
  | succ k ih => exact Nat.dvd_trans (ih (by omega)) (Qu9 p (i := i + k) (by omega)).1
theorem Q5j (p : List Tm) {i : Nat} (h : i < p.length) : p[i].1.den ∣ Qan p := by
  have h1 := (Qu9 p h).2
  have h2 := Qw7 p (i := i + 1) (j := p.length) (by omega) (Nat.le_refl _)
  rw [List.take_length] at h2
  exact Nat.dvd_trans h1 h2
def Qgk (L : Nat) (p : List Tm) : Nat := p.foldl (fun g t => Nat.gcd g (t.1.num.natAbs * (L / t.1.den))) 0
theorem Ql0 {L : Nat} {p : List Tm} {i : Nat} (h : i < p.length) : Qgk L (p.take (i + 1)) = Nat.gcd (Qgk L (p.take i)) (p[i].1.num.natAbs * (L / p[i].1.den)) := by
  rw [List.take_succ_eq_append_getElem h, Qgk, List.foldl_append]; rfl
theorem Qva {L : Nat} {p : List Tm} (hL : L = Qan p) : ∀ i, i ≤ p.length → Qgk L (p.take i) = Qc4 (p.take i) * (L / Qan (p.take i))
  | 0, _ => by simp [Qgk, Qc4]
  | i + 1, h => by
    have hi : i < p.length := by omega
    have hd := Qw7 p (i := i + 1) (j := p.length) h (Nat.le_refl _)
    rw [List.take_length, ← hL] at hd
    obtain ⟨c, hc⟩ := hd
    have hcs := Qsk (Qlz p i (by omega)) (Nat.pos_of_ne_zero p[i].1.den_nz) (Qw6 p[i].1)
    have hl0 := (Qlz p (i + 1) h).l0
    have hli := (Qlz p i (by omega)).l0
    rw [Ql0 hi, Qva hL i (by omega), Qjg hi, ← hcs.2]
    rw [Qey hi] at hc hl0
    rw [Qey hi]
    have hd0 := Nat.pos_of_ne_zero p[i].1.den_nz
    generalize Qan (p.take i) = Li at *
    generalize p[i].1.den = d at *
    generalize Qc4 (p.take i) = G at *
    generalize p[i].1.num.natAbs = n at *
    clear hcs
    obtain ⟨g, hg⟩ : ∃ g, g = Nat.gcd Li d := ⟨_, rfl⟩
    have hg0 : 0 < g := hg ▸ Nat.gcd_pos_of_pos_left d hli
    obtain ⟨a, ha⟩ : g ∣ d := hg ▸ Nat.gcd_dvd_right Li d
    obtain ⟨b, hb⟩ : g ∣ Li := hg ▸ Nat.gcd_dvd_left Li d
    rw [← hg] at hc hl0 ⊢
    have e1 : d / g = a := by rw [ha, Nat.mul_div_cancel_left _ hg0]
    have e2 : Li / g = b := by rw [hb, Nat.mul_div_cancel_left _ hg0]
    rw [e1] at hc hl0 ⊢
    rw [e2]
    have f1 : L / Li = a * c := by rw [hc, Nat.mul_assoc, Nat.mul_div_cancel_left _ hli]
    have f2 : L / d = b * c := by
      have : L = d * (b * c) := by rw [hc, hb, ha]; simp only [Nat.mul_assoc, Nat.mul_left_comm, Nat.mul_comm]
      rw [this, Nat.mul_div_cancel_left _ hd0]
    have f3 : L / (Li * a) = c := by rw [hc, Nat.mul_div_cancel_left _ hl0]
    rw [f1, f2, f3, ← Nat.mul_assoc, ← Nat.mul_assoc, Nat.gcd_mul_right]
theorem Q1i {p : List Tm} : Qgk (Qan p) p = Qc4 p := by
  have h := Qva (p := p) rfl p.length (Nat.le_refl _)
  have h2 := (Qlz p p.length (Nat.le_refl _)).l0
  rw [List.take_length] at h h2
  rw [h, Nat.div_self h2, Nat.mul_one]
theorem Qro {p : List Tm} (hz : NZ p) (h0 : p ≠ []) : Qc4 p ≠ 0 := by
  have hd : ∀ (l : List Tm) (g : Nat), l.foldl (fun g t => Nat.gcd g t.1.num.natAbs) g ∣ g ∧ ∀ t ∈ l, l.foldl (fun g t => Nat.gcd g t.1.num.natAbs) g ∣ t.1.num.natAbs := by
    intro l
    induction l with
    | nil => intro g; simp
    | cons t l ih =>
      intro g
      obtain ⟨h1, h2⟩ := ih (Nat.gcd g t.1.num.natAbs)
      refine ⟨Nat.dvd_trans h1 (Nat.gcd_dvd_left _ _), fun s hs => ?_⟩
      rcases List.mem_cons.1 hs with rfl | hs
      · exact Nat.dvd_trans h1 (Nat.gcd_dvd_right _ _)
      · exact h2 s hs
  obtain ⟨t, ht⟩ := List.exists_mem_of_ne_nil p h0
  have h2 := (hd p 0).2 t ht
  intro h
  rw [show List.foldl (fun g t => Nat.gcd g t.1.num.natAbs) 0 p = Qc4 p from rfl, h] at h2
  have h3 := Nat.eq_zero_of_zero_dvd h2
  exact hz t ht (Rat.num_eq_zero.1 (Int.natAbs_eq_zero.1 h3))
theorem Qqw (x y : Nat) : nl (Nat.gcd x y) ≤ max (nl x) (nl y) := by
  rcases Nat.eq_zero_or_pos x with h | h
  · subst h; rw [Nat.gcd_zero_left]; omega
  · have := Qa7 (Nat.gcd_le_left y h); omega
theorem Qkk {p : List Tm} {K E : Nat} (hp : PB K E p) : ∀ i, i ≤ p.length → nl (Qc4 (p.take i)) ≤ K
  | 0, _ => by simp [Qc4, Qh7]
  | i + 1, h => by
    rw [Qjg (by omega)]
    have h1 := Qkk hp i (by omega)
    have h2 := Qqw (Qc4 (p.take i)) p[i].1.num.natAbs
    have h3 := (hp _ (List.getElem_mem (show i < p.length by omega))).c
    unfold rs at h3
    omega
theorem Qg0 {p : List Tm} {K E : Nat} (hp : PB K E p) : ∀ i, i ≤ p.length → nl (Qan (p.take i)) ≤ 1 + i * K
  | 0, _ => by simp [Qan, Qev]
  | i + 1, h => by
    rw [Qey (by omega), Nat.succ_mul]
    have h1 := Qg0 hp i (by omega)
    have h2 := Qb1 (Qan (p.take i)) (p[i].1.den / Nat.gcd (Qan (p.take i)) p[i].1.den)
    have h3 := (hp _ (List.getElem_mem (show i < p.length by omega))).c
    have h4 := Qin p[i].1.den (Nat.gcd (Qan (p.take i)) p[i].1.den)
    unfold rs at h3
    omega
theorem Qvb {p : List Tm} {K E : Nat} (hp : PB K E p) : ∀ i, i ≤ p.length → nl (Qgk (Qan p) (p.take i)) ≤ K + (1 + p.length * K)
  | 0, _ => by simp [Qgk, Qh7]
  | i + 1, h => by
    have hi : i < p.length := by omega
    rw [Ql0 hi]
    have h1 := Qvb hp i (by omega)
    have h2 := Qqw (Qgk (Qan p) (p.take i)) (p[i].1.num.natAbs * (Qan p / p[i].1.den))
    have h3 := (hp _ (List.getElem_mem hi)).c
    have h4 := Qb1 p[i].1.num.natAbs (Qan p / p[i].1.den)
    have h5 := Qin (Qan p) p[i].1.den
    have h6 := Qg0 hp p.length (Nat.le_refl _)
    rw [List.take_length] at h6
    unfold rs at h3
    omega
def Qft (p : List Tm) : Rat := ((if (p.headD (0, [])).1 < 0 then -(Qan p : Int) else (Qan p : Int) : Int) : Rat) / ((Qc4 p : Int) : Rat)
theorem Qvc (x y : Int) (hy : y ≠ 0) : rs ((x : Rat) / (y : Rat)) ≤ max (nl x.natAbs) (max (nl y.natAbs) 1) := by
  rw [← Qqu x y hy]
  have := Qk9 (zv (decide (x < 0) != decide (y < 0)) (dig x.natAbs)) y.natAbs
  rwa [Qa9, Qr] at this
theorem Qrp {p : List Tm} {K E : Nat} (hp : PB K E p) (hz : NZ p) (h0 : p ≠ []) : rs (Qft p) ≤ 1 + p.length * K + K := by
  have h1 := Qkk hp p.length (Nat.le_refl _)
  have h2 := Qg0 hp p.length (Nat.le_refl _)
  rw [List.take_length] at h1 h2
  have h3 := Qro hz h0
  unfold Qft
  refine Nat.le_trans (Qvc _ _ (by omega)) ?_
  rw [Int.natAbs_natCast]
  split
  · rw [Int.natAbs_neg, Int.natAbs_natCast]; omega
  · rw [Int.natAbs_natCast]; omega
theorem Qabt (q : Rat) (h : q ≠ 0) : rs q⁻¹ ≤ rs q := by
  have hn : q.num ≠ 0 := fun e => h (Rat.num_eq_zero.1 e)
  have e : q⁻¹ = (((q.den : Int) : Int) : Rat) / ((q.num : Int) : Rat) := by
    have d1 : q = (q.num : Rat) / ((q.den : Int) : Rat) := by
      conv => lhs; rw [← Rat.mkRat_self q]
      rw [Rat.mkRat_eq_div, Rat.intCast_natCast]
    have k1 : ((q.den : Int) : Rat) ≠ 0 := by rw [Ne, Rat.intCast_eq_zero_iff]; have := q.den_nz; omega
    have k3 : ((q.num : Int) : Rat) ≠ 0 := by rw [Ne, Rat.intCast_eq_zero_iff]; exact hn
    generalize (q.num : Rat) = A at *
    generalize ((q.den : Int) : Rat) = D at *
    rw [d1]
    grind
  have h2 := Qvc (q.den : Int) q.num hn
  have h3 := Qt8 q
  rw [e]
  unfold rs at h3 ⊢
  unfold rs at h2
  rw [Int.natAbs_natCast] at h2
  have h4 : 1 ≤ nl q.den := by
    have := q.den_nz
    apply Decidable.byContradiction; intro hc
    exact this (Qf7.1 (by omega))
  omega
theorem Qwf {c : Rat} {L : Nat} (h : c.den ∣ L) : (c * ((L : Int) : Rat)).num.natAbs = c.num.natAbs * (L / c.den) := by
  obtain ⟨k, rfl⟩ := h
  have hd0 := c.den_nz
  have e : c * (((c.den * k : Nat) : Int) : Rat) = ((c.num * (k : Int) : Int) : Rat) := by
    have d1 : c = (c.num : Rat) / ((c.den : Int) : Rat) := by
      conv => lhs; rw [← Rat.mkRat_self c]
      rw [Rat.mkRat_eq_div, Rat.intCast_natCast]
    have k1 : ((c.den : Int) : Rat) ≠ 0 := by rw [Ne, Rat.intCast_eq_zero_iff]; omega
    rw [Int.natCast_mul, Rat.intCast_mul, Rat.intCast_mul]
    generalize ((c.den : Int) : Rat) = D at *
    generalize (c.num : Rat) = N at *
    rw [d1]
    grind
  rw [e, Rat.num_intCast, Int.natAbs_mul, Int.natAbs_natCast, Nat.mul_div_cancel_left _ (Nat.pos_of_ne_zero hd0)]
end Go.FW
