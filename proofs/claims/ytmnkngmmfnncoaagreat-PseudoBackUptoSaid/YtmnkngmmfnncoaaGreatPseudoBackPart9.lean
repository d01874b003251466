/- Part 9 of the proof of PseudoBack: W7, FwUF. Own lemmas; no conditions. -/
import Derived.Test.YtmnkngmmfnncoaaGreatPseudoBackPart8
set_option linter.unusedSimpArgs false
set_option linter.unnecessarySimpa false
set_option linter.unusedVariables false
namespace Go.Proofs.YtmnkngmmfnncoaaGreat
open Go Go.FW
set_option linter.unusedSimpArgs false
set_option linter.unusedVariables false
set_option maxRecDepth 100000
theorem Qafr {c : Rat} {L : Nat} (hL : 0 < L) : PV.agg [.bool (decide (Qc2 c < 0)), PV.num L] = PV.zz (if c < 0 then -(L : Int) else (L : Int)) := by
  by_cases h : c < 0
  · rw [if_pos h, PV.zz, decide_eq_true (Ql0.2 h), decide_eq_true (by omega), Int.natAbs_neg, Int.natAbs_natCast]
  · rw [if_neg h, PV.zz, decide_eq_false (fun x => h (Ql0.1 x)), decide_eq_false (by omega), Int.natAbs_natCast]
theorem Qafs (L : Nat) : PV.agg [.bool false, PV.num L] = PV.zz (L : Int) := by
  rw [PV.zz, decide_eq_false (by omega), Int.natAbs_natCast]
theorem Qac6 {x y : Nat} (hx : nl x < 2 ^ 40) (hy : nl y < 2 ^ 40) : Qe Tryz.prog 114 [PV.num x, PV.num y] (· = PV.num (x * y)) := by
  have := Qji (Qj x) (Qj y) hx hy
  rwa [Qt, Qt] at this
theorem Qp2 : Qe Tryz.prog 69 [PV.poly []] (· = .tup [PV.poly [], PV.rat ((1 : Int) : Rat)]) := by
  refine Qg Qk Tryz.func69 rfl Q2r (by simp [c69]) fun C hP => ?_; simp only [c69]
  simp +decide (disch := first | omega | rfl | (simp +decide only [go_sem, ↓reduceIte] <;> rfl) | fail) only [go_sem, ↓reduceIte]
  refine Qa hP (Qh4 (by omega) (by omega)) rfl rfl rfl ?_
  generalize ((1 : Int) : Rat) = c
  simp +decide (disch := first | omega | rfl | (simp +decide only [go_sem, ↓reduceIte] <;> rfl) | fail) only [go_sem, ↓reduceIte]
  refine Qil ?_
  simp +decide (disch := first | omega | rfl | (simp +decide only [go_sem, ↓reduceIte] <;> rfl) | fail) only [go_sem, ↓reduceIte]
  exact Qe5 rfl rfl rfl (Ql6) (Qy _)
theorem Qic {p : List Tm} {K E : Nat} (hp : PB K E p) (np : Nrm p) (h0 : p ≠ []) (hl : p.length ≤ 2 ^ 20) (hK : p.length * K + (K + K) ≤ 2 ^ 32) (hE : E ≤ 2 ^ 38) :
    Qe Tryz.prog 69 [PV.poly p] (· = .tup [PV.poly (Qa0 p (Qdb p)), PV.rat (Qdb p)]) := by
  have h0l : 0 < p.length := List.length_pos_iff.2 h0
  have hpr := Qyp hp np.z h0
  have hge := Qsl np.z h0
  have hl0 := (Qmo p p.length (Nat.le_refl _)).l0
  have hn1 := Qom hp p.length (Nat.le_refl _)
  have hn2 := Qol hp p.length (Nat.le_refl _)
  have hpk : K ≤ p.length * K := Nat.le_mul_of_pos_left _ h0l
  have hK1 : 1 ≤ K := by have := (hp.get h0l).c; omega
  have hmk := Qtk (x := if (p[0]).1 < 0 then -(Qbu p : Int) else (Qbu p : Int)) (y := (Qec p : Int)) (by
    split <;> simp only [Int.natAbs_neg, Int.natAbs_natCast] <;> rw [List.take_length] at hn1 <;> omega) (by rw [Int.natAbs_natCast]; rw [List.take_length] at hn2; omega) (by omega)
  rw [← Qafr (by rw [List.take_length] at hl0; exact hl0), ← Qafs] at hmk
  have hfe : (((if (p[0]).1 < 0 then -(Qbu p : Int) else (Qbu p : Int) : Int) : Rat) / ((Qec p : Int) : Rat)) = Qdb p := by
    unfold Qdb
    cases p with
    | nil => cases h0 rfl
    | cons t p => rfl
  rw [hfe] at hmk
  have hc0 := (hp.get h0l).c
  have hx0 : p[0] = p[0] := rfl
  refine Qg Qk Tryz.func69 rfl Q2r (by simp [c69]) fun C hP => ?_; simp only [c69]
  simp +decide (disch := first | omega | rfl | (simp +decide only [go_sem, ↓reduceIte] <;> rfl) | fail) only [go_sem, ↓reduceIte]
  refine Qb (fun h => absurd h (by omega)) (fun _ => ?_)
  simp +decide (disch := first | omega | rfl | (simp +decide only [go_sem, ↓reduceIte] <;> rfl) | fail) only [go_sem, ↓reduceIte]
  refine Qa hP (Qla (n := 1) (by omega)) rfl rfl rfl ?_
  simp +decide (disch := first | omega | rfl | (simp +decide only [go_sem, ↓reduceIte] <;> rfl) | fail) only [go_sem, ↓reduceIte]
  refine Qg8 4 1 (by simp +decide (disch := first | omega | rfl | (simp +decide only [go_sem, ↓reduceIte] <;> rfl) | fail) only [go_sem, ↓reduceIte]) ?_
  refine Qx (by repeat (first | exact Qw | exact Qq | exact Qr | exact Qs | apply Qp | apply Qv | apply Q2 | apply Q7 | apply Q8 | apply Qn | apply Qac)) [(4, 5), (7, 11), (21, 48)] [7] (fun n J hp => ∃ i, n = p.length - i ∧ i ≤ p.length ∧ J 4 = PV.num (Qec (p.take i)) ∧ J 5 = PV.num (Qbu (p.take i)) ∧ J 21 = .int .i64 (i : Nat) ∧ hp 3 = some ⟨3, 32, [.agg [.bool false, .nilS, .nilS]], false⟩) p.length ?_ ?_
  · refine ⟨0, rfl, by omega, ?_⟩
    simp +decide (disch := first | omega | rfl | (simp +decide only [go_sem, ↓reduceIte] <;> rfl) | fail) only [go_sem, ↓reduceIte]
    refine ⟨?_, rfl, rfl⟩
    simp [Qec, Qav]
  rintro _ J h ⟨i, rfl, hi, h4, h5, h21, hh3⟩
  simp +decide (disch := first | omega | rfl | (simp +decide only [go_sem, ↓reduceIte, h4, h5, h21] <;> rfl) | fail) only [go_sem, ↓reduceIte, h4, h5, h21]
  refine Qb (fun hg => ?_) (fun hg => ?_)
  · have hi' : i < p.length := by omega
    have htp := (hp.get hi').c
    have hg1 := Qol hp i hi
    have hg2 := Qom hp i hi
    have hik : i * K ≤ p.length * K := Nat.mul_le_mul_right _ hi
    have hs1 := Qke hi'
    have hs2 := Qgb hi'
    unfold rs at htp
    generalize hx : p[i] = x at *
    have hd0 := x.1.den_nz
    have hgd : Nat.gcd (Qbu (p.take i)) x.1.den ≠ 0 := fun h => hd0 (Nat.eq_zero_of_gcd_eq_zero_right h)
    have hgn := Q21 (Qbu (p.take i)) x.1.den
    have hqd := Qqt x.1.den (Nat.gcd (Qbu (p.take i)) x.1.den)
    generalize Qec (p.take i) = G at *
    generalize Qbu (p.take i) = L at *
    simp +decide (disch := first | omega | rfl | (simp +decide only [go_sem, ↓reduceIte, h4, h5, h21, hx] <;> rfl) | fail) only [go_sem, ↓reduceIte, h4, h5, h21, hx]
    refine Qa hP (Qsb (x := G) (y := x.1.num.natAbs) (by show nl _ < _; omega) (by show nl _ < _; omega)) rfl rfl rfl ?_
    simp +decide (disch := first | omega | rfl | (simp +decide only [go_sem, ↓reduceIte, h4, h5, h21, hx] <;> rfl) | fail) only [go_sem, ↓reduceIte, h4, h5, h21, hx]
    refine Qa hP (Qsb (x := L) (y := x.1.den) (by show nl _ < _; omega) (by show nl _ < _; omega)) rfl rfl rfl ?_
    simp +decide (disch := first | omega | rfl | (simp +decide only [go_sem, ↓reduceIte, h4, h5, h21, hx] <;> rfl) | fail) only [go_sem, ↓reduceIte, h4, h5, h21, hx]
    refine Qa hP (Qme (x := x.1.den) (y := Nat.gcd L x.1.den) (by show nl _ < _; omega) (by show nl _ < _; omega) hgd) rfl rfl rfl ?_
    simp +decide (disch := first | omega | rfl | (simp +decide only [go_sem, ↓reduceIte, h4, h5, h21, hx] <;> rfl) | fail) only [go_sem, ↓reduceIte, h4, h5, h21, hx]
    refine Qa hP (Qac6 (x := L) (y := x.1.den / Nat.gcd L x.1.den) (by omega) (by omega)) rfl rfl rfl ?_
    simp +decide (disch := first | omega | rfl | (simp +decide only [go_sem, ↓reduceIte, h4, h5, h21, hx, hh3] <;> rfl) | fail) only [go_sem, ↓reduceIte, h4, h5, h21, hx, hh3]
    refine Qm (p.length - (i + 1)) (by omega) ⟨i + 1, rfl, by omega, ?_⟩
    rw [hs1, hs2]
    simp +decide (disch := first | omega | rfl | (simp +decide only [go_sem, ↓reduceIte, hh3] <;> rfl) | fail) only [go_sem, ↓reduceIte, hh3]
  · obtain rfl : i = p.length := by omega
    rw [List.take_length] at h4 h5 hn1 hn2
    generalize hx : p[0] = x at *
    have hlL := hl0
    simp +decide (disch := first | omega | rfl | (simp +decide only [go_sem, ↓reduceIte, h4, h5, hx] <;> rfl) | fail) only [go_sem, ↓reduceIte, h4, h5, hx]
    refine Qa hP (Qnl (a := x.1) (by omega)) rfl rfl rfl ?_
    simp +decide (disch := first | omega | rfl | (simp +decide only [go_sem, ↓reduceIte, h4, h5, hx] <;> rfl) | fail) only [go_sem, ↓reduceIte, h4, h5, hx]
    refine Qa hP hmk rfl rfl rfl ?_
    generalize Qdb p = a at *
    simp +decide (disch := first | omega | rfl | (simp +decide only [go_sem, ↓reduceIte, h4, h5, hx] <;> rfl) | fail) only [go_sem, ↓reduceIte, h4, h5, hx]
    refine Qa hP (Qdl (K := 2 + p.length * K + K) (hp.mono (by omega) (Nat.le_refl _)) (by omega) (by omega) hE (by omega)) rfl rfl rfl ?_
    simp +decide (disch := first | omega | rfl | (simp +decide only [go_sem, ↓reduceIte, hh3] <;> rfl) | fail) only [go_sem, ↓reduceIte, hh3]
    refine Qil ?_
    simp +decide (disch := first | omega | rfl | (simp +decide only [go_sem, ↓reduceIte] <;> rfl) | fail) only [go_sem, ↓reduceIte]
    exact Qe5 rfl rfl rfl (Qy _) (Qy _)
end Go.Proofs.YtmnkngmmfnncoaaGreat
namespace Go.FW
open Go
def hdT (p : List Tm) : Tm := p.headD (0, [])
theorem Qon {p : List Tm} (h : 0 < p.length) : p[0] = hdT p := by cases p with
  | nil => simp at h
  | cons t p => rfl
theorem Qb1 {p : List Tm} (h : p ≠ []) : hdT p ∈ p := by cases p with
  | nil => exact absurd rfl h
  | cons t p => simp [hdT]
def exT (q p : List Tm) : Tm := ((hdT p).1 / (hdT q).1, Qhb (hdT p).2 (hdT q).2)
def exN (q p : List Tm) : List Tm := Qjg p (Qaz [exT q p] q)
def exP (q p : List Tm) : Nat → List Tm
  | 0 => p
  | k + 1 => exN q (exP q p k)
def exQ (q p : List Tm) : Nat → List Tm
  | 0 => []
  | k + 1 => exQ q p k ++ [exT q (exP q p k)]
def Qwl (q p : List Tm) : Prop := p ≠ [] ∧ Qf8 (hdT q).2 (hdT p).2 = true
def exR (q p : List Tm) (k : Nat) : PV := if exP q p k = [] then .tup [PV.poly (exQ q p k), .bool true] else .tup [PV.poly [], .bool false]
theorem Qsm (q p : List Tm) : ∀ k, (exQ q p k).length = k
  | 0 => rfl
  | k + 1 => by rw [exQ, List.length_append, Qsm q p k]; rfl
theorem Qit {p : List Tm} (hs : Qbb p) : ∀ t ∈ p, t = hdT p ∨ Qab t.2 (hdT p).2 < 0 := by
  cases p with
  | nil => intro t ht; cases ht
  | cons x p =>
    intro t ht
    rcases List.mem_cons.1 ht with rfl | ht
    · exact .inl rfl
    · right
      have := hs.1 t ht
      have e := Qfi x.2 t.2
      show Qab t.2 x.2 < 0
      omega
theorem Qac7 {q p : List Tm} (np : Nrm p) (nq : Nrm q) (hp : p ≠ []) (hq : q ≠ []) : Nrm [exT q p] := by
  refine Nrm.one ?_ (Qnv _ _)
  have h1 := np.z _ (Qb1 hp)
  have h2 := nq.z _ (Qb1 hq)
  show (hdT p).1 / (hdT q).1 ≠ 0
  grind
theorem Qpf (t : Tm) : Qbb [t] := ⟨by simp, trivial⟩
theorem Qsn {q p : List Tm} (np : Nrm p) (nq : Nrm q) : Nrm (exN q p) :=
  Q64 np (Qet (Qpf _) nq.s)
theorem Qyq {q p : List Tm} (np : Nrm p) (nq : Nrm q) : ∀ k, Nrm (exP q p k)
  | 0 => np
  | k + 1 => Qsn (Qyq np nq k) nq
theorem Qt3 {t : Tm} {q : List Tm} (φ : List Int → Rat) : pev φ (Qaz [t] q) = t.1 * pev (fun m => φ (Qam t.2 m)) q := by
  rw [Qjm, Qag, Qcp, Rat.add_zero]
theorem Qwm {t x : Tm} {q : List Tm} (h : x ∈ Qaz [t] q) : ∃ s ∈ q, x.2 = Qam t.2 s.2 := by
  obtain ⟨a, ha, b, hb, e⟩ := Qpz h
  obtain rfl : a = t := by simpa using ha
  exact ⟨b, hb, e⟩
theorem Qyr {q p : List Tm} (np : Nrm p) (nq : Nrm q) (φ : List Int → Rat) : pev φ (exN q p) = pev φ p - (exT q p).1 * pev (fun m => φ (Qam (exT q p).2 m)) q := by
  rw [exN, Q63 φ np.c (Qet (Qpf _) nq.s), Qt3]
theorem Qaft {q p : List Tm} {K E : Nat} (bp : PB K E p) (bq : PB K E q) (np : Nrm p) (nq : Nrm q) (hq : q ≠ []) (hg : Qwl q p) : ∀ t ∈ exN q p, Qab t.2 (hdT p).2 < 0 := by
  intro t ht
  obtain ⟨hp, hd⟩ := hg
  have hpm := Qb1 hp
  have hqm := Qb1 hq
  have hmul : Qam (exT q p).2 (hdT q).2 = (hdT p).2 := Qwi (bp _ hpm).m (bq _ hqm).m (bp _ hpm).l hd
  have nt := Qac7 np nq hp hq
  have hnN : Nrm (exN q p) := Qsn np nq
  have hle : t.2 = (hdT p).2 ∨ Qab t.2 (hdT p).2 < 0 := by
    rcases Q7t (Qet nt.s nq.s).c ht with ⟨s, hs, e⟩ | ⟨s, hs, e⟩
    · rw [← e]
      rcases Qit np.s s hs with rfl | h
      · exact .inl rfl
      · exact .inr h
    · obtain ⟨b, hb, e2⟩ := Qwm hs
      rw [← e, e2, ← hmul]
      rcases Qit nq.s b hb with rfl | h
      · exact .inl rfl
      · right; rw [Qde _ b.2, Qde _ (hdT q).2, Ql2]; exact h
  rcases hle with he | h
  · exfalso
    have h1 := Qyr np nq (fun m => if m = t.2 then 1 else 0)
    have h2 := Qf7 (φ := fun m => if m = t.2 then 1 else 0) hnN.s ht (fun s hs hne => by
      rw [if_neg]; intro e; exact hne (Qmk hnN.s hs ht e))
    have h3 := Qf7 (φ := fun m => if m = t.2 then 1 else 0) np.s hpm (fun s hs hne => by
      rw [if_neg]; intro e; exact hne (Qmk np.s hs hpm (e.trans he)))
    have h4 := Qf7 (φ := fun m => if Qam (exT q p).2 m = t.2 then 1 else 0) nq.s hqm (fun s hs hne => by
      rw [if_neg]; intro e
      rcases Qit nq.s s hs with h | h
      · exact hne h
      · rw [he, ← hmul] at e
        have := Ql2 s.2 (hdT q).2 (exT q p).2
        rw [Qde s.2, Qde (hdT q).2, e, Qj6] at this
        omega)
    rw [h2, h3, h4] at h1
    rw [if_pos rfl, if_pos he.symm, if_pos (hmul.trans he.symm)] at h1
    have h5 : t.1 = 0 := by
      have e : (exT q p).1 * (hdT q).1 = (hdT p).1 := by
        have := nq.z _ hqm
        show (hdT p).1 / (hdT q).1 * (hdT q).1 = _
        grind
      grind
    exact hnN.z t ht h5
  · exact h
theorem Qafu {q p : List Tm} {K E : Nat} (bp : PB K E p) (bq : PB K E q) (nq : Nrm q) (hq : q ≠ []) (hg : Qwl q p) : TB (K + K) E (exT q p) := by
  have h1 := bp _ (Qb1 hg.1)
  have h2 := bq _ (Qb1 hq)
  refine ⟨?_, Qac5 h1.m h2.m hg.2, Qnv _ _⟩
  have h3 := Qvg (hdT p).1 (hdT q).1⁻¹
  have h4 := Qafq (hdT q).1 (nq.z _ (Qb1 hq))
  have c1 := h1.c
  have c2 := h2.c
  show rs ((hdT p).1 / (hdT q).1) + 1 ≤ K + K
  rw [Rat.div_def]
  omega
end Go.FW
