/- Part 10 of the proof of PseudoDivides: W7, FwUF. Own lemmas; no conditions. -/
import Derived.Test.YtjkbalanglgoiaaGreatPseudoDividesPart9
set_option linter.unusedSimpArgs false
set_option linter.unnecessarySimpa false
set_option linter.unusedVariables false
namespace Go.Proofs.YtjkbalanglgoiaaGreat
open Go Go.FW
set_option linter.unusedSimpArgs false
set_option linter.unusedVariables false
set_option maxRecDepth 100000
theorem Qab9 {c : Rat} {L : Nat} (hL : 0 < L) : PV.agg [.bool (decide (Qiv c < 0)), PV.num L] = PV.zz (if c < 0 then -(L : Int) else (L : Int)) := by
  by_cases h : c < 0
  · rw [if_pos h, PV.zz, decide_eq_true (Quq.2 h), decide_eq_true (by omega), Int.natAbs_neg, Int.natAbs_natCast]
  · rw [if_neg h, PV.zz, decide_eq_false (fun x => h (Quq.1 x)), decide_eq_false (by omega), Int.natAbs_natCast]
theorem Qaca (L : Nat) : PV.agg [.bool false, PV.num L] = PV.zz (L : Int) := by
  rw [PV.zz, decide_eq_false (by omega), Int.natAbs_natCast]
theorem Q8t {x y : Nat} (hx : nl x < 2 ^ 40) (hy : nl y < 2 ^ 40) : Qe Tryz.prog 57 [PV.num x, PV.num y] (· = PV.num (x * y)) := by
  have := Qiz (Qj x) (Qj y) hx hy
  rwa [Qw, Qw] at this
theorem Qn3 {p : List Tm} {K E : Nat} (hp : PB K E p) (np : Nrm p) (h0 : p ≠ []) (hl : p.length ≤ 2 ^ 20) (hK : p.length * K + (K + K) ≤ 2 ^ 32) (hE : E ≤ 2 ^ 38) :
    Qe Tryz.prog 13 [PV.poly p] (· = .tup [PV.poly (Qbt p (Qng p)), PV.rat (Qng p)]) := by
  have h0l : 0 < p.length := List.length_pos_iff.2 h0
  have hpr := Q8s hp np.z h0
  have hge := Qxf np.z h0
  have hl0 := (Q5v p p.length (Nat.le_refl _)).l0
  have hn1 := Qn1 hp p.length (Nat.le_refl _)
  have hn2 := Qn0 hp p.length (Nat.le_refl _)
  have hpk : K ≤ p.length * K := Nat.le_mul_of_pos_left _ h0l
  have hK1 : 1 ≤ K := by have := (hp.get h0l).c; omega
  have hmk := Qst (x := if (p[0]).1 < 0 then -(Qdf p : Int) else (Qdf p : Int)) (y := (Qfp p : Int)) (by
    split <;> simp only [Int.natAbs_neg, Int.natAbs_natCast] <;> rw [List.take_length] at hn1 <;> omega) (by rw [Int.natAbs_natCast]; rw [List.take_length] at hn2; omega) (by omega)
  rw [← Qab9 (by rw [List.take_length] at hl0; exact hl0), ← Qaca] at hmk
  have hfe : (((if (p[0]).1 < 0 then -(Qdf p : Int) else (Qdf p : Int) : Int) : Rat) / ((Qfp p : Int) : Rat)) = Qng p := by
    unfold Qng
    cases p with
    | nil => cases h0 rfl
    | cons t p => rfl
  rw [hfe] at hmk
  have hc0 := (hp.get h0l).c
  have hx0 : p[0] = p[0] := rfl
  refine Qg Ql Tryz.func13 rfl Qabg (by simp [c13]) fun C hP => ?_; simp only [c13]
  simp +decide (disch := first | omega | rfl | (simp +decide only [go_sem, ↓reduceIte] <;> rfl) | fail) only [go_sem, ↓reduceIte]
  refine Qb (fun h => absurd h (by omega)) (fun _ => ?_)
  simp +decide (disch := first | omega | rfl | (simp +decide only [go_sem, ↓reduceIte] <;> rfl) | fail) only [go_sem, ↓reduceIte]
  refine Qa hP (Qks (n := 1) (by omega)) rfl rfl rfl ?_
  simp +decide (disch := first | omega | rfl | (simp +decide only [go_sem, ↓reduceIte] <;> rfl) | fail) only [go_sem, ↓reduceIte]
  refine Qfi 4 1 (by simp +decide (disch := first | omega | rfl | (simp +decide only [go_sem, ↓reduceIte] <;> rfl) | fail) only [go_sem, ↓reduceIte]) ?_
  refine Qx (by repeat (first | exact Qt | exact Qp | exact Qq | apply Qo | apply Qs | apply Qy | apply Q5 | apply Q6 | apply Qm | apply Q4)) [(4, 5), (7, 11), (21, 48)] [7] (fun n J hp => ∃ i, n = p.length - i ∧ i ≤ p.length ∧ J 4 = PV.num (Qfp (p.take i)) ∧ J 5 = PV.num (Qdf (p.take i)) ∧ J 21 = .int .i64 (i : Nat) ∧ hp 3 = some ⟨3, 33, [.agg [.bool false, .nilS, .nilS]], false⟩) p.length ?_ ?_
  · refine ⟨0, rfl, by omega, ?_⟩
    simp +decide (disch := first | omega | rfl | (simp +decide only [go_sem, ↓reduceIte] <;> rfl) | fail) only [go_sem, ↓reduceIte]
    refine ⟨?_, rfl, rfl⟩
    simp [Qfp, Qaw]
  rintro _ J h ⟨i, rfl, hi, h4, h5, h21, hh3⟩
  simp +decide (disch := first | omega | rfl | (simp +decide only [go_sem, ↓reduceIte, h4, h5, h21] <;> rfl) | fail) only [go_sem, ↓reduceIte, h4, h5, h21]
  refine Qb (fun hg => ?_) (fun hg => ?_)
  · have hi' : i < p.length := by omega
    have htp := (hp.get hi').c
    have hg1 := Qn0 hp i hi
    have hg2 := Qn1 hp i hi
    have hik : i * K ≤ p.length * K := Nat.mul_le_mul_right _ hi
    have hs1 := Qne hi'
    have hs2 := Qnf hi'
    unfold rs at htp
    generalize hx : p[i] = x at *
    have hd0 := x.1.den_nz
    have hgd : Nat.gcd (Qdf (p.take i)) x.1.den ≠ 0 := fun h => hd0 (Nat.eq_zero_of_gcd_eq_zero_right h)
    have hgn := Q1m (Qdf (p.take i)) x.1.den
    have hqd := Qp7 x.1.den (Nat.gcd (Qdf (p.take i)) x.1.den)
    generalize Qfp (p.take i) = G at *
    generalize Qdf (p.take i) = L at *
    simp +decide (disch := first | omega | rfl | (simp +decide only [go_sem, ↓reduceIte, h4, h5, h21, hx] <;> rfl) | fail) only [go_sem, ↓reduceIte, h4, h5, h21, hx]
    refine Qa hP (Qrn (x := G) (y := x.1.num.natAbs) (by show nl _ < _; omega) (by show nl _ < _; omega)) rfl rfl rfl ?_
    simp +decide (disch := first | omega | rfl | (simp +decide only [go_sem, ↓reduceIte, h4, h5, h21, hx] <;> rfl) | fail) only [go_sem, ↓reduceIte, h4, h5, h21, hx]
    refine Qa hP (Qrn (x := L) (y := x.1.den) (by show nl _ < _; omega) (by show nl _ < _; omega)) rfl rfl rfl ?_
    simp +decide (disch := first | omega | rfl | (simp +decide only [go_sem, ↓reduceIte, h4, h5, h21, hx] <;> rfl) | fail) only [go_sem, ↓reduceIte, h4, h5, h21, hx]
    refine Qa hP (Qlu (x := x.1.den) (y := Nat.gcd L x.1.den) (by show nl _ < _; omega) (by show nl _ < _; omega) hgd) rfl rfl rfl ?_
    simp +decide (disch := first | omega | rfl | (simp +decide only [go_sem, ↓reduceIte, h4, h5, h21, hx] <;> rfl) | fail) only [go_sem, ↓reduceIte, h4, h5, h21, hx]
    refine Qa hP (Q8t (x := L) (y := x.1.den / Nat.gcd L x.1.den) (by omega) (by omega)) rfl rfl rfl ?_
    simp +decide (disch := first | omega | rfl | (simp +decide only [go_sem, ↓reduceIte, h4, h5, h21, hx, hh3] <;> rfl) | fail) only [go_sem, ↓reduceIte, h4, h5, h21, hx, hh3]
    refine Qk (p.length - (i + 1)) (by omega) ⟨i + 1, rfl, by omega, ?_⟩
    rw [hs1, hs2]
    simp +decide (disch := first | omega | rfl | (simp +decide only [go_sem, ↓reduceIte, hh3] <;> rfl) | fail) only [go_sem, ↓reduceIte, hh3]
  · obtain rfl : i = p.length := by omega
    rw [List.take_length] at h4 h5 hn1 hn2
    generalize hx : p[0] = x at *
    have hlL := hl0
    simp +decide (disch := first | omega | rfl | (simp +decide only [go_sem, ↓reduceIte, h4, h5, hx] <;> rfl) | fail) only [go_sem, ↓reduceIte, h4, h5, hx]
    refine Qa hP (Qm2 (a := x.1) (by omega)) rfl rfl rfl ?_
    simp +decide (disch := first | omega | rfl | (simp +decide only [go_sem, ↓reduceIte, h4, h5, hx] <;> rfl) | fail) only [go_sem, ↓reduceIte, h4, h5, hx]
    refine Qa hP hmk rfl rfl rfl ?_
    generalize Qng p = a at *
    simp +decide (disch := first | omega | rfl | (simp +decide only [go_sem, ↓reduceIte, h4, h5, hx] <;> rfl) | fail) only [go_sem, ↓reduceIte, h4, h5, hx]
    refine Qa hP (Qi1 (K := 2 + p.length * K + K) (hp.mono (by omega) (Nat.le_refl _)) (by omega) (by omega) hE (by omega)) rfl rfl rfl ?_
    simp +decide (disch := first | omega | rfl | (simp +decide only [go_sem, ↓reduceIte, hh3] <;> rfl) | fail) only [go_sem, ↓reduceIte, hh3]
    refine Qjm ?_
    simp +decide (disch := first | omega | rfl | (simp +decide only [go_sem, ↓reduceIte] <;> rfl) | fail) only [go_sem, ↓reduceIte]
    exact Qfm rfl rfl rfl (Qn _) (Qn _)
end Go.Proofs.YtjkbalanglgoiaaGreat
namespace Go.FW
open Go
def hdT (p : List Tm) : Tm := p.headD (0, [])
theorem Qn2 {p : List Tm} (h : 0 < p.length) : p[0] = hdT p := by cases p with
  | nil => simp at h
  | cons t p => rfl
theorem Qcz {p : List Tm} (h : p ≠ []) : hdT p ∈ p := by cases p with
  | nil => exact absurd rfl h
  | cons t p => simp [hdT]
def exT (q p : List Tm) : Tm := ((hdT p).1 / (hdT q).1, Qh3 (hdT p).2 (hdT q).2)
def exN (q p : List Tm) : List Tm := Qfz p (Qay [exT q p] q)
def exP (q p : List Tm) : Nat → List Tm
  | 0 => p
  | k + 1 => exN q (exP q p k)
def exQ (q p : List Tm) : Nat → List Tm
  | 0 => []
  | k + 1 => exQ q p k ++ [exT q (exP q p k)]
def Qy0 (q p : List Tm) : Prop := p ≠ [] ∧ Qg8 (hdT q).2 (hdT p).2 = true
def exR (q p : List Tm) (k : Nat) : PV := if exP q p k = [] then .tup [PV.poly (exQ q p k), .bool true] else .tup [PV.poly [], .bool false]
theorem Qrx (q p : List Tm) : ∀ k, (exQ q p k).length = k
  | 0 => rfl
  | k + 1 => by rw [exQ, List.length_append, Qrx q p k]; rfl
theorem Ql6 {p : List Tm} (hs : Qaz p) : ∀ t ∈ p, t = hdT p ∨ Qag t.2 (hdT p).2 < 0 := by
  cases p with
  | nil => intro t ht; cases ht
  | cons x p =>
    intro t ht
    rcases List.mem_cons.1 ht with rfl | ht
    · exact .inl rfl
    · right
      have := hs.1 t ht
      have e := Qg1 x.2 t.2
      show Qag t.2 x.2 < 0
      omega
theorem Q8u {q p : List Tm} (np : Nrm p) (nq : Nrm q) (hp : p ≠ []) (hq : q ≠ []) : Nrm [exT q p] := by
  refine Nrm.one ?_ (Qss _ _)
  have h1 := np.z _ (Qcz hp)
  have h2 := nq.z _ (Qcz hq)
  show (hdT p).1 / (hdT q).1 ≠ 0
  grind
theorem Qou (t : Tm) : Qaz [t] := ⟨by simp, trivial⟩
theorem Qxg {q p : List Tm} (np : Nrm p) (nq : Nrm q) : Nrm (exN q p) :=
  Qpe np (Qcb (Qou _) nq.s)
theorem Qxh {q p : List Tm} (np : Nrm p) (nq : Nrm q) : ∀ k, Nrm (exP q p k)
  | 0 => np
  | k + 1 => Qxg (Qxh np nq k) nq
theorem Qtd {t : Tm} {q : List Tm} (φ : List Int → Rat) : pev φ (Qay [t] q) = t.1 * pev (fun m => φ (Qar t.2 m)) q := by
  rw [Qg5, Qai, Qb0, Rat.add_zero]
theorem Qvp {t x : Tm} {q : List Tm} (h : x ∈ Qay [t] q) : ∃ s ∈ q, x.2 = Qar t.2 s.2 := by
  obtain ⟨a, ha, b, hb, e⟩ := Ql0 h
  obtain rfl : a = t := by simpa using ha
  exact ⟨b, hb, e⟩
theorem Q8v {q p : List Tm} (np : Nrm p) (nq : Nrm q) (φ : List Int → Rat) : pev φ (exN q p) = pev φ p - (exT q p).1 * pev (fun m => φ (Qar (exT q p).2 m)) q := by
  rw [exN, Qva φ np.c (Qcb (Qou _) nq.s), Qtd]
theorem Qacb {q p : List Tm} {K E : Nat} (bp : PB K E p) (bq : PB K E q) (np : Nrm p) (nq : Nrm q) (hq : q ≠ []) (hg : Qy0 q p) : ∀ t ∈ exN q p, Qag t.2 (hdT p).2 < 0 := by
  intro t ht
  obtain ⟨hp, hd⟩ := hg
  have hpm := Qcz hp
  have hqm := Qcz hq
  have hmul : Qar (exT q p).2 (hdT q).2 = (hdT p).2 := Q5n (bp _ hpm).m (bq _ hqm).m (bp _ hpm).l hd
  have nt := Q8u np nq hp hq
  have hnN : Nrm (exN q p) := Qxg np nq
  have hle : t.2 = (hdT p).2 ∨ Qag t.2 (hdT p).2 < 0 := by
    rcases Qvi (Qcb nt.s nq.s).c ht with ⟨s, hs, e⟩ | ⟨s, hs, e⟩
    · rw [← e]
      rcases Ql6 np.s s hs with rfl | h
      · exact .inl rfl
      · exact .inr h
    · obtain ⟨b, hb, e2⟩ := Qvp hs
      rw [← e, e2, ← hmul]
      rcases Ql6 nq.s b hb with rfl | h
      · exact .inl rfl
      · right; rw [Qeb _ b.2, Qeb _ (hdT q).2, Qo9]; exact h
  rcases hle with he | h
  · exfalso
    have h1 := Q8v np nq (fun m => if m = t.2 then 1 else 0)
    have h2 := Qi3 (φ := fun m => if m = t.2 then 1 else 0) hnN.s ht (fun s hs hne => by
      rw [if_neg]; intro e; exact hne (Qpf hnN.s hs ht e))
    have h3 := Qi3 (φ := fun m => if m = t.2 then 1 else 0) np.s hpm (fun s hs hne => by
      rw [if_neg]; intro e; exact hne (Qpf np.s hs hpm (e.trans he)))
    have h4 := Qi3 (φ := fun m => if Qar (exT q p).2 m = t.2 then 1 else 0) nq.s hqm (fun s hs hne => by
      rw [if_neg]; intro e
      rcases Ql6 nq.s s hs with h | h
      · exact hne h
      · rw [he, ← hmul] at e
        have := Qo9 s.2 (hdT q).2 (exT q p).2
        rw [Qeb s.2, Qeb (hdT q).2, e, Qjo] at this
        omega)
    rw [h2, h3, h4] at h1
    rw [if_pos rfl, if_pos he.symm, if_pos (hmul.trans he.symm)] at h1
    have h5 : t.1 = 0 := by
      have e : (exT q p).1 * (hdT q).1 = (hdT p).1 := by
        have := nq.z _ hqm
        show (hdT p).1 / (hdT q).1 * (hdT q).1 = _
        grind
      grind
    exact hnN.z t ht h5
  · exact h
theorem Qacc {q p : List Tm} {K E : Nat} (bp : PB K E p) (bq : PB K E q) (nq : Nrm q) (hq : q ≠ []) (hg : Qy0 q p) : TB (K + K) E (exT q p) := by
  have h1 := bp _ (Qcz hg.1)
  have h2 := bq _ (Qcz hq)
  refine ⟨?_, Q8q h1.m h2.m hg.2, Qss _ _⟩
  have h3 := Quo (hdT p).1 (hdT q).1⁻¹
  have h4 := Qab8 (hdT q).1 (nq.z _ (Qcz hq))
  have c1 := h1.c
  have c2 := h2.c
  show rs ((hdT p).1 / (hdT q).1) + 1 ≤ K + K
  rw [Rat.div_def]
  omega
end Go.FW
