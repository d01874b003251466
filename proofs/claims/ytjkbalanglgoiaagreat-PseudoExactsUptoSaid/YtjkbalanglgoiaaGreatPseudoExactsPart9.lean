/- Part 9 of the proof of PseudoExacts: W7, FwUF. Own lemmas; no conditions. -/
import Derived.Test.YtjkbalanglgoiaaGreatPseudoExactsPart8
set_option linter.unusedSimpArgs false
set_option linter.unnecessarySimpa false
set_option linter.unusedVariables false
namespace Go.Proofs.YtjkbalanglgoiaaGreat
open Go Go.FW
set_option linter.unusedSimpArgs false
set_option linter.unusedVariables false
set_option maxRecDepth 100000
theorem Q1j {c : Rat} {L : Nat} (hL : 0 < L) : PV.agg [.bool (decide (Qhr c < 0)), PV.num L] = PV.zz (if c < 0 then -(L : Int) else (L : Int)) := by
  by_cases h : c < 0
  · rw [if_pos h, PV.zz, decide_eq_true (Qub.2 h), decide_eq_true (by omega), Int.natAbs_neg, Int.natAbs_natCast]
  · rw [if_neg h, PV.zz, decide_eq_false (fun x => h (Qub.1 x)), decide_eq_false (by omega), Int.natAbs_natCast]
theorem Q1k (L : Nat) : PV.agg [.bool false, PV.num L] = PV.zz (L : Int) := by
  rw [PV.zz, decide_eq_false (by omega), Int.natAbs_natCast]
theorem Q8p {x y : Nat} (hx : nl x < 2 ^ 40) (hy : nl y < 2 ^ 40) : Qd Tryz.prog 57 [PV.num x, PV.num y] (· = PV.num (x * y)) := by
  have := Qip (Qi x) (Qi y) hx hy
  rwa [Qr, Qr] at this
theorem Qpe : Qd Tryz.prog 13 [PV.poly []] (· = .tup [PV.poly [], PV.rat ((1 : Int) : Rat)]) := by
  refine Qf Qk Tryz.func13 rfl Q06 (by simp [c13]) fun C hP => ?_; simp only [c13]
  simp +decide (disch := first | omega | rfl | (simp +decide only [go_sem, ↓reduceIte] <;> rfl) | fail) only [go_sem, ↓reduceIte]
  refine Qa hP (Qje (by omega) (by omega)) rfl rfl rfl ?_
  generalize ((1 : Int) : Rat) = c
  simp +decide (disch := first | omega | rfl | (simp +decide only [go_sem, ↓reduceIte] <;> rfl) | fail) only [go_sem, ↓reduceIte]
  refine Qfd ?_
  simp +decide (disch := first | omega | rfl | (simp +decide only [go_sem, ↓reduceIte] <;> rfl) | fail) only [go_sem, ↓reduceIte]
  exact Qco rfl rfl rfl (Qfq) (Qt _)
theorem Qhu {p : List Tm} {K E : Nat} (hp : PB K E p) (np : Nrm p) (h0 : p ≠ []) (hl : p.length ≤ 2 ^ 20) (hK : p.length * K + (K + K) ≤ 2 ^ 32) (hE : E ≤ 2 ^ 38) :
    Qd Tryz.prog 13 [PV.poly p] (· = .tup [PV.poly (Qbq p (Qft p)), PV.rat (Qft p)]) := by
  have h0l : 0 < p.length := List.length_pos_iff.2 h0
  have hpr := Qrp hp np.z h0
  have hge := Qro np.z h0
  have hl0 := (Qlz p p.length (Nat.le_refl _)).l0
  have hn1 := Qg0 hp p.length (Nat.le_refl _)
  have hn2 := Qkk hp p.length (Nat.le_refl _)
  have hpk : K ≤ p.length * K := Nat.le_mul_of_pos_left _ h0l
  have hK1 : 1 ≤ K := by have := (hp.get h0l).c; omega
  have hmk := Qsj (x := if (p[0]).1 < 0 then -(Qan p : Int) else (Qan p : Int)) (y := (Qc4 p : Int)) (by
    split <;> simp only [Int.natAbs_neg, Int.natAbs_natCast] <;> rw [List.take_length] at hn1 <;> omega) (by rw [Int.natAbs_natCast]; rw [List.take_length] at hn2; omega) (by omega)
  rw [← Q1j (by rw [List.take_length] at hl0; exact hl0), ← Q1k] at hmk
  have hfe : (((if (p[0]).1 < 0 then -(Qan p : Int) else (Qan p : Int) : Int) : Rat) / ((Qc4 p : Int) : Rat)) = Qft p := by
    unfold Qft
    cases p with
    | nil => cases h0 rfl
    | cons t p => rfl
  rw [hfe] at hmk
  have hc0 := (hp.get h0l).c
  have hx0 : p[0] = p[0] := rfl
  refine Qf Qk Tryz.func13 rfl Q06 (by simp [c13]) fun C hP => ?_; simp only [c13]
  simp +decide (disch := first | omega | rfl | (simp +decide only [go_sem, ↓reduceIte] <;> rfl) | fail) only [go_sem, ↓reduceIte]
  refine Qb (fun h => absurd h (by omega)) (fun _ => ?_)
  simp +decide (disch := first | omega | rfl | (simp +decide only [go_sem, ↓reduceIte] <;> rfl) | fail) only [go_sem, ↓reduceIte]
  refine Qa hP (Qkf (n := 1) (by omega)) rfl rfl rfl ?_
  simp +decide (disch := first | omega | rfl | (simp +decide only [go_sem, ↓reduceIte] <;> rfl) | fail) only [go_sem, ↓reduceIte]
  refine Qfz 4 1 (by simp +decide (disch := first | omega | rfl | (simp +decide only [go_sem, ↓reduceIte] <;> rfl) | fail) only [go_sem, ↓reduceIte]) ?_
  refine Qz (by repeat (first | exact Qv | exact Qp | exact Qq | apply Qo | apply Qu | apply Q2 | apply Q5 | apply Q6 | apply Qm | apply Q3)) [(4, 5), (7, 11), (21, 48)] [7] (fun n J hp => ∃ i, n = p.length - i ∧ i ≤ p.length ∧ J 4 = PV.num (Qc4 (p.take i)) ∧ J 5 = PV.num (Qan (p.take i)) ∧ J 21 = .int .i64 (i : Nat) ∧ hp 3 = some ⟨3, 33, [.agg [.bool false, .nilS, .nilS]], false⟩) p.length ?_ ?_
  · refine ⟨0, rfl, by omega, ?_⟩
    simp +decide (disch := first | omega | rfl | (simp +decide only [go_sem, ↓reduceIte] <;> rfl) | fail) only [go_sem, ↓reduceIte]
    refine ⟨?_, rfl, rfl⟩
    simp [Qc4, Qat]
  rintro _ J h ⟨i, rfl, hi, h4, h5, h21, hh3⟩
  simp +decide (disch := first | omega | rfl | (simp +decide only [go_sem, ↓reduceIte, h4, h5, h21] <;> rfl) | fail) only [go_sem, ↓reduceIte, h4, h5, h21]
  refine Qb (fun hg => ?_) (fun hg => ?_)
  · have hi' : i < p.length := by omega
    have htp := (hp.get hi').c
    have hg1 := Qkk hp i hi
    have hg2 := Qg0 hp i hi
    have hik : i * K ≤ p.length * K := Nat.mul_le_mul_right _ hi
    have hs1 := Qjg hi'
    have hs2 := Qey hi'
    unfold rs at htp
    generalize hx : p[i] = x at *
    have hd0 := x.1.den_nz
    have hgd : Nat.gcd (Qan (p.take i)) x.1.den ≠ 0 := fun h => hd0 (Nat.eq_zero_of_gcd_eq_zero_right h)
    have hgn := Qqw (Qan (p.take i)) x.1.den
    have hqd := Qin x.1.den (Nat.gcd (Qan (p.take i)) x.1.den)
    generalize Qc4 (p.take i) = G at *
    generalize Qan (p.take i) = L at *
    simp +decide (disch := first | omega | rfl | (simp +decide only [go_sem, ↓reduceIte, h4, h5, h21, hx] <;> rfl) | fail) only [go_sem, ↓reduceIte, h4, h5, h21, hx]
    refine Qa hP (Qrl (x := G) (y := x.1.num.natAbs) (by show nl _ < _; omega) (by show nl _ < _; omega)) rfl rfl rfl ?_
    simp +decide (disch := first | omega | rfl | (simp +decide only [go_sem, ↓reduceIte, h4, h5, h21, hx] <;> rfl) | fail) only [go_sem, ↓reduceIte, h4, h5, h21, hx]
    refine Qa hP (Qrl (x := L) (y := x.1.den) (by show nl _ < _; omega) (by show nl _ < _; omega)) rfl rfl rfl ?_
    simp +decide (disch := first | omega | rfl | (simp +decide only [go_sem, ↓reduceIte, h4, h5, h21, hx] <;> rfl) | fail) only [go_sem, ↓reduceIte, h4, h5, h21, hx]
    refine Qa hP (Qlm (x := x.1.den) (y := Nat.gcd L x.1.den) (by show nl _ < _; omega) (by show nl _ < _; omega) hgd) rfl rfl rfl ?_
    simp +decide (disch := first | omega | rfl | (simp +decide only [go_sem, ↓reduceIte, h4, h5, h21, hx] <;> rfl) | fail) only [go_sem, ↓reduceIte, h4, h5, h21, hx]
    refine Qa hP (Q8p (x := L) (y := x.1.den / Nat.gcd L x.1.den) (by omega) (by omega)) rfl rfl rfl ?_
    simp +decide (disch := first | omega | rfl | (simp +decide only [go_sem, ↓reduceIte, h4, h5, h21, hx, hh3] <;> rfl) | fail) only [go_sem, ↓reduceIte, h4, h5, h21, hx, hh3]
    refine Ql (p.length - (i + 1)) (by omega) ⟨i + 1, rfl, by omega, ?_⟩
    rw [hs1, hs2]
    simp +decide (disch := first | omega | rfl | (simp +decide only [go_sem, ↓reduceIte, hh3] <;> rfl) | fail) only [go_sem, ↓reduceIte, hh3]
  · obtain rfl : i = p.length := by omega
    rw [List.take_length] at h4 h5 hn1 hn2
    generalize hx : p[0] = x at *
    have hlL := hl0
    simp +decide (disch := first | omega | rfl | (simp +decide only [go_sem, ↓reduceIte, h4, h5, hx] <;> rfl) | fail) only [go_sem, ↓reduceIte, h4, h5, hx]
    refine Qa hP (Qm7 (a := x.1) (by omega)) rfl rfl rfl ?_
    simp +decide (disch := first | omega | rfl | (simp +decide only [go_sem, ↓reduceIte, h4, h5, hx] <;> rfl) | fail) only [go_sem, ↓reduceIte, h4, h5, hx]
    refine Qa hP hmk rfl rfl rfl ?_
    generalize Qft p = a at *
    simp +decide (disch := first | omega | rfl | (simp +decide only [go_sem, ↓reduceIte, h4, h5, hx] <;> rfl) | fail) only [go_sem, ↓reduceIte, h4, h5, hx]
    refine Qa hP (Qir (K := 2 + p.length * K + K) (hp.mono (by omega) (Nat.le_refl _)) (by omega) (by omega) hE (by omega)) rfl rfl rfl ?_
    simp +decide (disch := first | omega | rfl | (simp +decide only [go_sem, ↓reduceIte, hh3] <;> rfl) | fail) only [go_sem, ↓reduceIte, hh3]
    refine Qfd ?_
    simp +decide (disch := first | omega | rfl | (simp +decide only [go_sem, ↓reduceIte] <;> rfl) | fail) only [go_sem, ↓reduceIte]
    exact Qco rfl rfl rfl (Qt _) (Qt _)
theorem Qpf : Qd Tryz.prog 14 [PV.poly []] (· = .tup [PV.poly [], PV.rat ((1 : Int) : Rat)]) := by
  refine Qf Qk Tryz.func14 rfl Q08 (by simp [c14]) fun C hP => ?_; simp only [c14]
  simp +decide (disch := first | omega | rfl | (simp +decide only [go_sem, ↓reduceIte] <;> rfl) | fail) only [go_sem, ↓reduceIte]
  refine Qa hP (Qe9 (by omega) (by omega)) rfl rfl rfl ?_
  generalize ((1 : Int) : Rat) = c
  simp +decide (disch := first | omega | rfl | (simp +decide only [go_sem, ↓reduceIte] <;> rfl) | fail) only [go_sem, ↓reduceIte]
  refine Qfd ?_
  simp +decide (disch := first | omega | rfl | (simp +decide only [go_sem, ↓reduceIte] <;> rfl) | fail) only [go_sem, ↓reduceIte]
  exact Qco rfl rfl rfl (Qfq) (Qt _)
theorem Qn0 {p : List Tm} {K E : Nat} (hp : PB K E p) (np : Nrm p) (h0 : p ≠ []) (hl : p.length ≤ 2 ^ 20) (hK : p.length * K + (K + K) ≤ 2 ^ 31) (hE : E ≤ 2 ^ 38) :
    Qd Tryz.prog 14 [PV.poly p] (· = .tup [PV.poly (Qbq p (Qft p)), PV.rat (Qft p)]) := by
  have h0l : 0 < p.length := List.length_pos_iff.2 h0
  have hpr := Qrp hp np.z h0
  have hge := Qro np.z h0
  have hl0 := (Qlz p p.length (Nat.le_refl _)).l0
  have hn1 := Qg0 hp p.length (Nat.le_refl _)
  have hn2 := Qkk hp p.length (Nat.le_refl _)
  have hpk : K ≤ p.length * K := Nat.le_mul_of_pos_left _ h0l
  have hK1 : 1 ≤ K := by have := (hp.get h0l).c; omega
  rw [List.take_length] at hl0 hn1 hn2
  have hmk := Qly (x := if (p[0]).1 < 0 then -(Qan p : Int) else (Qan p : Int)) (y := (Qc4 p : Int)) (by
    split <;> simp only [Int.natAbs_neg, Int.natAbs_natCast] <;> omega) (by rw [Int.natAbs_natCast]; omega) (by omega)
  rw [← Q1j hl0, ← Q1k] at hmk
  have hsb : decide (Qhr (p[0]).1 < 0) = decide ((p[0]).1.num < 0) := by
    exact decide_eq_decide.2 Qws
  rw [hsb] at hmk
  have hfe : (((if (p[0]).1 < 0 then -(Qan p : Int) else (Qan p : Int) : Int) : Rat) / ((Qc4 p : Int) : Rat)) = Qft p := by
    unfold Qft
    cases p with
    | nil => cases h0 rfl
    | cons t p => rfl
  have hne : Qft p ≠ 0 := by
    rw [← hfe]
    have k1 : ((Qc4 p : Int) : Rat) ≠ 0 := by rw [Ne, Rat.intCast_eq_zero_iff]; omega
    have k2 : (((if (p[0]).1 < 0 then -(Qan p : Int) else (Qan p : Int) : Int)) : Rat) ≠ 0 := by
      rw [Ne, Rat.intCast_eq_zero_iff]; split <;> omega
    intro h
    rw [Rat.div_def, Rat.mul_eq_zero] at h
    rcases h with h | h
    · exact k2 h
    · grind
  rw [hfe] at hmk
  have hall := Q1i (p := p)
  refine Qf Qk Tryz.func14 rfl Q08 (by simp [c14]) fun C hP => ?_; simp only [c14]
  simp +decide (disch := first | omega | rfl | (simp +decide only [go_sem, ↓reduceIte] <;> rfl) | fail) only [go_sem, ↓reduceIte]
  refine Qb (fun h => absurd h (by omega)) (fun _ => ?_)
  simp +decide (disch := first | omega | rfl | (simp +decide only [go_sem, ↓reduceIte] <;> rfl) | fail) only [go_sem, ↓reduceIte]
  refine Qa hP (Qbo (n := 1) (by omega)) rfl rfl rfl ?_
  simp +decide (disch := first | omega | rfl | (simp +decide only [go_sem, ↓reduceIte] <;> rfl) | fail) only [go_sem, ↓reduceIte]
  refine Qa hP (Qbo (n := 0) (by omega)) rfl rfl rfl ?_
  simp +decide (disch := first | omega | rfl | (simp +decide only [go_sem, ↓reduceIte] <;> rfl) | fail) only [go_sem, ↓reduceIte]
  refine Qz (by repeat (first | exact Qv | exact Qp | exact Qq | apply Qo | apply Qu | apply Q2 | apply Q5 | apply Q6 | apply Qm | apply Q3)) [(4, 4), (6, 10), (21, 49)] [] (fun n J hp => ∃ i, n = p.length - i ∧ i ≤ p.length ∧ J 4 = PV.num (Qan (p.take i)) ∧ J 6 = .int .i64 (i : Nat) ∧ hp 3 = some ⟨3, 33, [.agg [.bool false, .nilS, .nilS]], false⟩) p.length ?_ ?_
  · refine ⟨0, rfl, by omega, ?_⟩
    simp +decide (disch := first | omega | rfl | (simp +decide only [go_sem, ↓reduceIte] <;> rfl) | fail) only [go_sem, ↓reduceIte]
    exact ⟨rfl, rfl⟩
  rintro _ J h ⟨i, rfl, hi, h4, h6, hh3⟩
  simp +decide (disch := first | omega | rfl | (simp +decide only [go_sem, ↓reduceIte, h4, h6] <;> rfl) | fail) only [go_sem, ↓reduceIte, h4, h6]
  refine Qb (fun hg => ?_) (fun hg => ?_)
  · have hi' : i < p.length := by omega
    have htp := (hp.get hi').c
    have hg2 := Qg0 hp i hi
    have hik : i * K ≤ p.length * K := Nat.mul_le_mul_right _ hi
    have hs2 := Qey hi'
    unfold rs at htp
    generalize hx : p[i] = x at *
    have hd0 := x.1.den_nz
    have hgd : Nat.gcd (Qan (p.take i)) x.1.den ≠ 0 := fun h => hd0 (Nat.eq_zero_of_gcd_eq_zero_right h)
    have hgn := Qqw (Qan (p.take i)) x.1.den
    have hqd := Qin x.1.den (Nat.gcd (Qan (p.take i)) x.1.den)
    generalize Qan (p.take i) = L at *
    simp +decide (disch := first | omega | rfl | (simp +decide only [go_sem, ↓reduceIte, h4, h6, hx] <;> rfl) | fail) only [go_sem, ↓reduceIte, h4, h6, hx]
    refine Qa hP (Qqs (x := L) (y := x.1.den) (by omega) (by omega)) rfl rfl rfl ?_
    simp +decide (disch := first | omega | rfl | (simp +decide only [go_sem, ↓reduceIte, h4, h6, hx] <;> rfl) | fail) only [go_sem, ↓reduceIte, h4, h6, hx]
    refine Qa hP (Qmb (x := x.1.den) (y := Nat.gcd L x.1.den) (by omega) (by omega) hgd) rfl rfl rfl ?_
    simp +decide (disch := first | omega | rfl | (simp +decide only [go_sem, ↓reduceIte, h4, h6, hx] <;> rfl) | fail) only [go_sem, ↓reduceIte, h4, h6, hx]
    refine Qa hP (Qgg (x := L) (y := x.1.den / Nat.gcd L x.1.den) (by omega) (by omega)) rfl rfl rfl ?_
    simp +decide (disch := first | omega | rfl | (simp +decide only [go_sem, ↓reduceIte, h4, h6, hx] <;> rfl) | fail) only [go_sem, ↓reduceIte, h4, h6, hx]
    refine Ql (p.length - (i + 1)) (by omega) ⟨i + 1, rfl, by omega, ?_⟩
    rw [hs2]
    simp +decide (disch := first | omega | rfl | (simp +decide only [go_sem, ↓reduceIte, hh3] <;> rfl) | fail) only [go_sem, ↓reduceIte, hh3]
  obtain rfl : i = p.length := by omega
  rw [List.take_length] at h4
  simp +decide (disch := first | omega | rfl | (simp +decide only [go_sem, ↓reduceIte, h4] <;> rfl) | fail) only [go_sem, ↓reduceIte, h4]
  refine Qz (by repeat (first | exact Qv | exact Qp | exact Qq | apply Qo | apply Qu | apply Q2 | apply Q5 | apply Q6 | apply Qm | apply Q3)) [(5, 5), (11, 12), (50, 70)] [12] (fun n J hp => ∃ i, n = p.length - i ∧ i ≤ p.length ∧ J 5 = PV.num (Qgk (Qan p) (p.take i)) ∧ J 11 = .int .i64 (i : Nat) ∧ hp 3 = some ⟨3, 33, [.agg [.bool false, .nilS, .nilS]], false⟩) p.length ?_ ?_
  · refine ⟨0, rfl, by omega, ?_⟩
    simp +decide (disch := first | omega | rfl | (simp +decide only [go_sem, ↓reduceIte, hh3] <;> rfl) | fail) only [go_sem, ↓reduceIte, hh3]
    exact ⟨rfl, rfl⟩
  rintro _ J2 h2 ⟨i, rfl, hi, h5, h11, hh3'⟩
  simp +decide (disch := first | omega | rfl | (simp +decide only [go_sem, ↓reduceIte, h4, h5, h11] <;> rfl) | fail) only [go_sem, ↓reduceIte, h4, h5, h11]
  refine Qb (fun hg => ?_) (fun hg => ?_)
  · have hi' : i < p.length := by omega
    have htp := (hp.get hi').c
    have hs1 := Ql0 (L := Qan p) hi'
    have hdv := Q5j p hi'
    have hgl := Qvb hp i hi
    generalize hx : p[i] = x at *
    have hmd := Qwf hdv
    have hrm := Qb1 x.1.num.natAbs (Qan p / x.1.den)
    have hrd := Qin (Qan p) x.1.den
    have htp' := htp
    unfold rs at htp'
    have hM := Qon (n := decide (x.1.num < 0)) (a := dig x.1.num.natAbs) (d := dig x.1.den) (m := false) (b := dig (Qan p)) (c := dig 1) (k := 1 + p.length * K) (Qbh (q := x.1) (by omega)) ⟨Qi _, Qi _, hn1, by show nl 1 ≤ _; rw [Qev]; omega, by omega⟩ (by omega)
    have e1 : mkRat (Qan p : Int) 1 = (((Qan p : Nat) : Int) : Rat) := by rw [Rat.mkRat_eq_div, show ((1 : Nat) : Rat) = 1 from rfl]; grind
    rw [Qb0, rv, Qfn, Qr, Qr, e1] at hM
    generalize x.1 * (((Qan p : Nat) : Int) : Rat) = y at *
    simp +decide (disch := first | omega | rfl | (simp +decide only [go_sem, ↓reduceIte, h4, h5, h11, hx] <;> rfl) | fail) only [go_sem, ↓reduceIte, h4, h5, h11, hx]
    have hof := Qbo (n := 1) (by omega)
    have hgc := Qqs (x := Qgk (Qan p) (p.take i)) (y := x.1.num.natAbs * (Qan p / x.1.den)) (by omega) (by omega)
    rw [← hs1] at hgc
    refine Qcr ?_ ?_
    · simp +decide (disch := first | omega | rfl | (simp +decide only [go_sem, ↓reduceIte, h4, h5, h11, hx] <;> rfl) | fail) only [go_sem, ↓reduceIte, h4, h5, h11, hx]
      refine Qa hP hof rfl rfl rfl ?_
      simp +decide (disch := first | omega | rfl | (simp +decide only [go_sem, ↓reduceIte, h4, h5, h11, hx] <;> rfl) | fail) only [go_sem, ↓reduceIte, h4, h5, h11, hx]
      refine Qcr ?_ ?_
      all_goals
        simp +decide (disch := first | omega | rfl | (simp +decide only [go_sem, ↓reduceIte, h4, h5, h11, hx] <;> rfl) | fail) only [go_sem, ↓reduceIte, h4, h5, h11, hx]
        refine Qa hP hM rfl rfl rfl ?_
        simp +decide (disch := first | omega | rfl | (simp +decide only [go_sem, ↓reduceIte, h4, h5, h11, hx] <;> rfl) | fail) only [go_sem, ↓reduceIte, h4, h5, h11, hx]
        rw [hmd]
        refine Qa hP hgc rfl rfl rfl ?_
        simp +decide (disch := first | omega | rfl | (simp +decide only [go_sem, ↓reduceIte, h4, h5, h11, hx] <;> rfl) | fail) only [go_sem, ↓reduceIte, h4, h5, h11, hx]
        refine Ql (p.length - (i + 1)) (by omega) ⟨i + 1, rfl, by omega, ?_⟩
        simp +decide (disch := first | omega | rfl | (simp +decide only [go_sem, ↓reduceIte, hh3'] <;> rfl) | fail) only [go_sem, ↓reduceIte, hh3']
    · simp +decide (disch := first | omega | rfl | (simp +decide only [go_sem, ↓reduceIte, h4, h5, h11, hx] <;> rfl) | fail) only [go_sem, ↓reduceIte, h4, h5, h11, hx]
      refine Qa hP hof rfl rfl rfl ?_
      simp +decide (disch := first | omega | rfl | (simp +decide only [go_sem, ↓reduceIte, h4, h5, h11, hx] <;> rfl) | fail) only [go_sem, ↓reduceIte, h4, h5, h11, hx]
      refine Qa hP hM rfl rfl rfl ?_
      simp +decide (disch := first | omega | rfl | (simp +decide only [go_sem, ↓reduceIte, h4, h5, h11, hx] <;> rfl) | fail) only [go_sem, ↓reduceIte, h4, h5, h11, hx]
      rw [hmd]
      refine Qa hP hgc rfl rfl rfl ?_
      simp +decide (disch := first | omega | rfl | (simp +decide only [go_sem, ↓reduceIte, h4, h5, h11, hx] <;> rfl) | fail) only [go_sem, ↓reduceIte, h4, h5, h11, hx]
      refine Ql (p.length - (i + 1)) (by omega) ⟨i + 1, rfl, by omega, ?_⟩
      simp +decide (disch := first | omega | rfl | (simp +decide only [go_sem, ↓reduceIte, hh3'] <;> rfl) | fail) only [go_sem, ↓reduceIte, hh3']
  · obtain rfl : i = p.length := by omega
    rw [List.take_length, hall] at h5
    generalize hx : p[0] = x at *
    simp +decide (disch := first | omega | rfl | (simp +decide only [go_sem, ↓reduceIte, h4, h5, hx] <;> rfl) | fail) only [go_sem, ↓reduceIte, h4, h5, hx]
    refine Qa hP hmk rfl rfl rfl ?_
    generalize Qft p = a at *
    simp +decide (disch := first | omega | rfl | (simp +decide only [go_sem, ↓reduceIte, h4, h5, hx] <;> rfl) | fail) only [go_sem, ↓reduceIte, h4, h5, hx]
    refine Qa hP (Qlt (x := a.num) (by unfold rs at hpr; omega)) rfl rfl rfl ?_
    simp +decide (disch := first | omega | rfl | (simp +decide only [go_sem, ↓reduceIte, h4, h5, hx] <;> rfl) | fail) only [go_sem, ↓reduceIte, h4, h5, hx]
    refine Qb (fun h => absurd (Rat.num_eq_zero.1 (Qla.1 h)) hne) (fun _ => ?_)
    simp +decide (disch := first | omega | rfl | (simp +decide only [go_sem, ↓reduceIte, h4, h5, hx] <;> rfl) | fail) only [go_sem, ↓reduceIte, h4, h5, hx]
    refine Qa hP (Qmd (K := 2 + p.length * K + K) (hp.mono (by omega) (Nat.le_refl _)) np.z (by omega) (by omega) hE (by omega)) rfl rfl rfl ?_
    simp +decide (disch := first | omega | rfl | (simp +decide only [go_sem, ↓reduceIte, hh3'] <;> rfl) | fail) only [go_sem, ↓reduceIte, hh3']
    refine Qfd ?_
    simp +decide (disch := first | omega | rfl | (simp +decide only [go_sem, ↓reduceIte] <;> rfl) | fail) only [go_sem, ↓reduceIte]
    exact Qco rfl rfl rfl (Qt _) (Qt _)
end Go.Proofs.YtjkbalanglgoiaaGreat
namespace Go.FW
open Go
def hdT (p : List Tm) : Tm := p.headD (0, [])
theorem Qic {p : List Tm} (h : 0 < p.length) : p[0] = hdT p := by cases p with
  | nil => simp at h
  | cons t p => rfl
theorem Qaw {p : List Tm} (h : p ≠ []) : hdT p ∈ p := by cases p with
  | nil => exact absurd rfl h
  | cons t p => simp [hdT]
def exT (q p : List Tm) : Tm := ((hdT p).1 / (hdT q).1, Qbr (hdT p).2 (hdT q).2)
def exN (q p : List Tm) : List Tm := Qfr p (Qbz [exT q p] q)
def exP (q p : List Tm) : Nat → List Tm
  | 0 => p
  | k + 1 => exN q (exP q p k)
def exQ (q p : List Tm) : Nat → List Tm
  | 0 => []
  | k + 1 => exQ q p k ++ [exT q (exP q p k)]
def Qdr (q p : List Tm) : Prop := p ≠ [] ∧ Qdm (hdT q).2 (hdT p).2 = true
def exR (q p : List Tm) (k : Nat) : PV := if exP q p k = [] then .tup [PV.poly (exQ q p k), .bool true] else .tup [PV.poly [], .bool false]
theorem Qkl (q p : List Tm) : ∀ k, (exQ q p k).length = k
  | 0 => rfl
  | k + 1 => by rw [exQ, List.length_append, Qkl q p k]; rfl
theorem Ql1 {p : List Tm} (hs : Qa1 p) : ∀ t ∈ p, t = hdT p ∨ Q9 t.2 (hdT p).2 < 0 := by
  cases p with
  | nil => intro t ht; cases ht
  | cons x p =>
    intro t ht
    rcases List.mem_cons.1 ht with rfl | ht
    · exact .inl rfl
    · right
      have := hs.1 t ht
      have e := Qc3 x.2 t.2
      show Q9 t.2 x.2 < 0
      omega
theorem Qrq {q p : List Tm} (np : Nrm p) (nq : Nrm q) (hp : p ≠ []) (hq : q ≠ []) : Nrm [exT q p] := by
  refine Nrm.one ?_ (Qnc _ _)
  have h1 := np.z _ (Qaw hp)
  have h2 := nq.z _ (Qaw hq)
  show (hdT p).1 / (hdT q).1 ≠ 0
  grind
theorem Qjy (t : Tm) : Qa1 [t] := ⟨by simp, trivial⟩
theorem Qny {q p : List Tm} (np : Nrm p) (nq : Nrm q) : Nrm (exN q p) :=
  Qux np (Qfs (Qjy _) nq.s)
theorem Qkm {q p : List Tm} (np : Nrm p) (nq : Nrm q) : ∀ k, Nrm (exP q p k)
  | 0 => np
  | k + 1 => Qny (Qkm np nq k) nq
theorem Qmf {t : Tm} {q : List Tm} (φ : List Int → Rat) : pev φ (Qbz [t] q) = t.1 * pev (fun m => φ (Qav t.2 m)) q := by
  rw [Quv, Qah, Qb9, Rat.add_zero]
theorem Qvd {t x : Tm} {q : List Tm} (h : x ∈ Qbz [t] q) : ∃ s ∈ q, x.2 = Qav t.2 s.2 := by
  obtain ⟨a, ha, b, hb, e⟩ := Q4t h
  obtain rfl : a = t := by simpa using ha
  exact ⟨b, hb, e⟩
theorem Qw8 {q p : List Tm} (np : Nrm p) (nq : Nrm q) (φ : List Int → Rat) : pev φ (exN q p) = pev φ p - (exT q p).1 * pev (fun m => φ (Qav (exT q p).2 m)) q := by
  rw [exN, Quw φ np.c (Qfs (Qjy _) nq.s), Qmf]
theorem Qve {q p : List Tm} {K E : Nat} (bp : PB K E p) (bq : PB K E q) (np : Nrm p) (nq : Nrm q) (hq : q ≠ []) (hg : Qdr q p) : ∀ t ∈ exN q p, Q9 t.2 (hdT p).2 < 0 := by
  intro t ht
  obtain ⟨hp, hd⟩ := hg
  have hpm := Qaw hp
  have hqm := Qaw hq
  have hmul : Qav (exT q p).2 (hdT q).2 = (hdT p).2 := Qiv (bp _ hpm).m (bq _ hqm).m (bp _ hpm).l hd
  have nt := Qrq np nq hp hq
  have hnN : Nrm (exN q p) := Qny np nq
  have hle : t.2 = (hdT p).2 ∨ Q9 t.2 (hdT p).2 < 0 := by
    rcases Q4u (Qfs nt.s nq.s).c ht with ⟨s, hs, e⟩ | ⟨s, hs, e⟩
    · rw [← e]
      rcases Ql1 np.s s hs with rfl | h
      · exact .inl rfl
      · exact .inr h
    · obtain ⟨b, hb, e2⟩ := Qvd hs
      rw [← e, e2, ← hmul]
      rcases Ql1 nq.s b hb with rfl | h
      · exact .inl rfl
      · right; rw [Qdw _ b.2, Qdw _ (hdT q).2, Qlc]; exact h
  rcases hle with he | h
  · exfalso
    have h1 := Qw8 np nq (fun m => if m = t.2 then 1 else 0)
    have h2 := Qlr (φ := fun m => if m = t.2 then 1 else 0) hnN.s ht (fun s hs hne => by
      rw [if_neg]; intro e; exact hne (Qu2 hnN.s hs ht e))
    have h3 := Qlr (φ := fun m => if m = t.2 then 1 else 0) np.s hpm (fun s hs hne => by
      rw [if_neg]; intro e; exact hne (Qu2 np.s hs hpm (e.trans he)))
    have h4 := Qlr (φ := fun m => if Qav (exT q p).2 m = t.2 then 1 else 0) nq.s hqm (fun s hs hne => by
      rw [if_neg]; intro e
      rcases Ql1 nq.s s hs with h | h
      · exact hne h
      · rw [he, ← hmul] at e
        have := Qlc s.2 (hdT q).2 (exT q p).2
        rw [Qdw s.2, Qdw (hdT q).2, e, Qjc] at this
        omega)
    rw [h2, h3, h4] at h1
    rw [if_pos rfl, if_pos he.symm, if_pos (hmul.trans he.symm)] at h1
    have h5 : t.1 = 0 := by
      have e : (exT q p).1 * (hdT q).1 = (hdT p).1 := by
        have := nq.z _ hqm
        show (hdT p).1 / (hdT q).1 * (hdT q).1 = _
        grind
      grind
    exact hnN.z t ht h5
  · exact h
theorem Qabu {q p : List Tm} {K E : Nat} (bp : PB K E p) (bq : PB K E q) (np : Nrm p) (nq : Nrm q) (hq : q ≠ []) (hg : Qdr q p) (bn : PB K E (exN q p)) (hg2 : Qdr q (exN q p)) : Q9 (exT q (exN q p)).2 (exT q p).2 < 0 := by
  have h := Qve bp bq np nq hq hg _ (Qaw hg2.1)
  have e1 := Qiv (bp _ (Qaw hg.1)).m (bq _ (Qaw hq)).m (bp _ (Qaw hg.1)).l hg.2
  have e2 := Qiv (bn _ (Qaw hg2.1)).m (bq _ (Qaw hq)).m (bn _ (Qaw hg2.1)).l hg2.2
  rw [← e1, ← e2, Qlc] at h
  exact h
theorem Qne : ∀ {l : List Tm} {t : Tm}, Qa1 l → (∀ s ∈ l, 0 < Q9 s.2 t.2) → Qa1 (l ++ [t])
  | [], t, _, _ => ⟨by simp, trivial⟩
  | x :: l, t, h, ht => ⟨fun s hs => by
      rcases List.mem_append.1 hs with hs | hs
      · exact h.1 s hs
      · obtain rfl : s = t := by simpa using hs
        exact ht x (by simp), Qne h.2 (fun s hs => ht s (by simp [hs]))⟩
theorem Qrr {q p : List Tm} {K E k0 : Nat} (bq : PB K E q) (np : Nrm p) (nq : Nrm q) (hq : q ≠ []) (hb : ∀ k, k ≤ k0 → PB K E (exP q p k)) (hgo : ∀ k, k < k0 → Qdr q (exP q p k)) :
    ∀ k, k ≤ k0 → Nrm (exQ q p k) ∧ ∀ j, k = j + 1 → ∀ s ∈ exQ q p k, s = exT q (exP q p j) ∨ 0 < Q9 s.2 (exT q (exP q p j)).2
  | 0, _ => ⟨Nrm.nil, fun j h => by omega⟩
  | k + 1, h => by
    obtain ⟨h1, h2⟩ := Qrr bq np nq hq hb hgo k (by omega)
    have hlt : ∀ s ∈ exQ q p k, 0 < Q9 s.2 (exT q (exP q p k)).2 := by
      intro s hs
      cases k with
      | zero => cases hs
      | succ k =>
        have h3 := Qabu (hb k (by omega)) bq (Qkm np nq k) nq hq (hgo k (by omega)) (hb (k + 1) (by omega)) (hgo (k + 1) (by omega))
        have h3' : Q9 (exT q (exP q p (k + 1))).2 (exT q (exP q p k)).2 < 0 := h3
        rcases h2 k rfl s hs with rfl | h4
        · have e := Qc3 (exT q (exP q p (k + 1))).2 (exT q (exP q p k)).2
          omega
        · have e := Qc3 s.2 (exT q (exP q p k)).2
          have e2 := Qc3 (exT q (exP q p (k + 1))).2 s.2
          have := Qqa h3' (b := (exT q (exP q p k)).2) (c := s.2) (by omega)
          omega
    have hn := Qrq (Qkm np nq k) nq (hgo k (by omega)).1 hq
    refine ⟨⟨fun t ht => ?_, fun t ht => ?_, Qne h1.s hlt⟩, fun j hj s hs => ?_⟩
    · rcases List.mem_append.1 ht with ht | ht
      · exact h1.c t ht
      · exact hn.c t ht
    · rcases List.mem_append.1 ht with ht | ht
      · exact h1.z t ht
      · exact hn.z t ht
    · obtain rfl : j = k := by omega
      rcases List.mem_append.1 hs with hs | hs
      · exact .inr (hlt s hs)
      · exact .inl (by simpa using hs)
theorem Q5k {q p : List Tm} {k : Nat} (h : Nrm (exQ q p (k + 1))) (h1 : Nrm (exQ q p k)) (h2 : Nrm [exT q (exP q p k)]) : Qw (exQ q p k) [exT q (exP q p k)] = exQ q p (k + 1) :=
  Qkh (Qgz h1 h2) h fun φ => by rw [Qgy h1.c h2.c, exQ, Qql]
theorem Qvf {q p : List Tm} {K E : Nat} (bp : PB K E p) (bq : PB K E q) (nq : Nrm q) (hq : q ≠ []) (hg : Qdr q p) : TB (K + K) E (exT q p) := by
  have h1 := bp _ (Qaw hg.1)
  have h2 := bq _ (Qaw hq)
  refine ⟨?_, Q8o h1.m h2.m hg.2, Qnc _ _⟩
  have h3 := Qt9 (hdT p).1 (hdT q).1⁻¹
  have h4 := Qabt (hdT q).1 (nq.z _ (Qaw hq))
  have c1 := h1.c
  have c2 := h2.c
  show rs ((hdT p).1 / (hdT q).1) + 1 ≤ K + K
  rw [Rat.div_def]
  omega
end Go.FW
