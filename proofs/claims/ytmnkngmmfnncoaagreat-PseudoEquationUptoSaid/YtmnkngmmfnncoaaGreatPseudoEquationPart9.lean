/- Part 9 of the proof of PseudoEquation: W7, FwUF. Own lemmas; no conditions. -/
import Derived.Test.YtmnkngmmfnncoaaGreatPseudoEquationPart8
set_option linter.unusedSimpArgs false
set_option linter.unnecessarySimpa false
set_option linter.unusedVariables false
namespace Go.Proofs.YtmnkngmmfnncoaaGreat
open Go Go.FW
set_option linter.unusedSimpArgs false
set_option linter.unusedVariables false
set_option maxRecDepth 100000
theorem Qaf9 {c : Rat} {L : Nat} (hL : 0 < L) : PV.agg [.bool (decide (Qdb c < 0)), PV.num L] = PV.zz (if c < 0 then -(L : Int) else (L : Int)) := by
 by_cases h : c < 0
 ·rw [if_pos h, PV.zz, decide_eq_true (Qma.2 h), decide_eq_true (by omega), Int.natAbs_neg, Int.natAbs_natCast]
 ·rw [if_neg h, PV.zz, decide_eq_false (fun x => h (Qma.1 x)), decide_eq_false (by omega), Int.natAbs_natCast]
theorem Qaga (L : Nat) : PV.agg [.bool false, PV.num L] = PV.zz (L : Int) := by
 rw [PV.zz, decide_eq_false (by omega), Int.natAbs_natCast]
theorem Qadm {x y : Nat} (hx : nl x < 2 ^ 40) (hy : nl y < 2 ^ 40) : Qe Tryz.prog 114 [PV.num x, PV.num y] (· = PV.num (x * y)) := by
 have := Qjn (Qj x) (Qj y) hx hy
 rwa [Qw, Qw] at this
theorem Qoz {p : List Tm} {K E : Nat} (hp : PB K E p) (np : Nrm p) (h0 : p ≠ []) (hl : p.length <= 2 ^ 20) (hK : p.length * K + (K + K) <= 2 ^ 32) (hE : E <= 2 ^ 38) :
  Qe Tryz.prog 69 [PV.poly p] (· = .tup [PV.poly (Qc1 p (Qn8 p)), PV.rat (Qn8 p)]) := by
 have h0l : 0 < p.length := List.length_pos_iff.2 h0
 have hpr := Qadl hp np.z h0
 have hge := Qym np.z h0
 have hl0 := (Q9c p p.length (Nat.le_refl _)).l0
 have hn1 := Qow hp p.length (Nat.le_refl _)
 have hn2 := Qov hp p.length (Nat.le_refl _)
 have hpk : K <= p.length * K := Nat.le_mul_of_pos_left _ h0l
 have hK1 : 1 <= K := by have := (hp.get h0l).c; omega
 have hmk := Qty (x := if (p[0]).1 < 0 then -(Qdw p : Int) else (Qdw p : Int)) (y := (Qf4 p : Int)) (by
  split <;> simp only [Int.natAbs_neg, Int.natAbs_natCast] <;> rw [List.take_length] at hn1 <;> omega) (by rw [Int.natAbs_natCast]; rw [List.take_length] at hn2; omega) (by omega)
 rw [<- Qaf9 (by rw [List.take_length] at hl0; exact hl0), <- Qaga] at hmk
 have hfe : (((if (p[0]).1 < 0 then -(Qdw p : Int) else (Qdw p : Int) : Int) : Rat) / ((Qf4 p : Int) : Rat)) = Qn8 p := by
  unfold Qn8
  cases p with
  | nil => cases h0 rfl
  | cons t p => rfl
 rw [hfe] at hmk
 have hc0 := (hp.get h0l).c
 have hx0 : p[0] = p[0] := rfl
 refine Qg Qk Tryz.func69 rfl Qafs (by simp [c69]) fun C hP => ?_; simp only [c69]
 simp +decide (disch := first | omega | rfl | (simp +decide only [go_sem, ↓reduceIte] <;> rfl) | fail) only [go_sem, ↓reduceIte]
 refine Qb (fun h => absurd h (by omega)) (fun _ => ?_)
 simp +decide (disch := first | omega | rfl | (simp +decide only [go_sem, ↓reduceIte] <;> rfl) | fail) only [go_sem, ↓reduceIte]
 refine Qa hP (Qli (n := 1) (by omega)) rfl rfl rfl ?_
 simp +decide (disch := first | omega | rfl | (simp +decide only [go_sem, ↓reduceIte] <;> rfl) | fail) only [go_sem, ↓reduceIte]
 refine Qhg 4 1 (by simp +decide (disch := first | omega | rfl | (simp +decide only [go_sem, ↓reduceIte] <;> rfl) | fail) only [go_sem, ↓reduceIte]) ?_
 refine Qy (by repeat (first | exact Qv | exact Qp | exact Qq | exact Qr | apply Qo | apply Qu | apply Qz | apply Q8 | apply Q9 | apply Qn | apply Qaf)) [(4, 5), (7, 11), (21, 48)] [7] (fun n J hp => ∃ i, n = p.length - i /\ i <= p.length /\ J 4 = PV.num (Qf4 (p.take i)) /\ J 5 = PV.num (Qdw (p.take i)) /\ J 21 = .int .i64 (i : Nat) /\ hp 3 = some ⟨3, 32, [.agg [.bool false, .nilS, .nilS]], false⟩) p.length ?_ ?_
 ·refine ⟨0, rfl, by omega, ?_⟩
  simp +decide (disch := first | omega | rfl | (simp +decide only [go_sem, ↓reduceIte] <;> rfl) | fail) only [go_sem, ↓reduceIte]
  refine ⟨?_, rfl, rfl⟩
  simp [Qf4, Qa1]
 rintro _ J h ⟨i, rfl, hi, h4, h5, h21, hh3⟩
 simp +decide (disch := first | omega | rfl | (simp +decide only [go_sem, ↓reduceIte, h4, h5, h21] <;> rfl) | fail) only [go_sem, ↓reduceIte, h4, h5, h21]
 refine Qb (fun hg => ?_) (fun hg => ?_)
 ·have hi' : i < p.length := by omega
  have htp := (hp.get hi').c
  have hg1 := Qov hp i hi
  have hg2 := Qow hp i hi
  have hik : i * K <= p.length * K := Nat.mul_le_mul_right _ hi
  have hs1 := Qn6 hi'
  have hs2 := Qn7 hi'
  unfold rs at htp
  generalize hx : p[i] = x at *
  have hd0 := x.1.den_nz
  have hgd : Nat.gcd (Qdw (p.take i)) x.1.den ≠ 0 := fun h => hd0 (Nat.eq_zero_of_gcd_eq_zero_right h)
  have hgn := Q2z (Qdw (p.take i)) x.1.den
  have hqd := Qq4 x.1.den (Nat.gcd (Qdw (p.take i)) x.1.den)
  generalize Qf4 (p.take i) = G at *
  generalize Qdw (p.take i) = L at *
  simp +decide (disch := first | omega | rfl | (simp +decide only [go_sem, ↓reduceIte, h4, h5, h21, hx] <;> rfl) | fail) only [go_sem, ↓reduceIte, h4, h5, h21, hx]
  refine Qa hP (Qsu (x := G) (y := x.1.num.natAbs) (by show nl _ < _; omega) (by show nl _ < _; omega)) rfl rfl rfl ?_
  simp +decide (disch := first | omega | rfl | (simp +decide only [go_sem, ↓reduceIte, h4, h5, h21, hx] <;> rfl) | fail) only [go_sem, ↓reduceIte, h4, h5, h21, hx]
  refine Qa hP (Qsu (x := L) (y := x.1.den) (by show nl _ < _; omega) (by show nl _ < _; omega)) rfl rfl rfl ?_
  simp +decide (disch := first | omega | rfl | (simp +decide only [go_sem, ↓reduceIte, h4, h5, h21, hx] <;> rfl) | fail) only [go_sem, ↓reduceIte, h4, h5, h21, hx]
  refine Qa hP (Qmn (x := x.1.den) (y := Nat.gcd L x.1.den) (by show nl _ < _; omega) (by show nl _ < _; omega) hgd) rfl rfl rfl ?_
  simp +decide (disch := first | omega | rfl | (simp +decide only [go_sem, ↓reduceIte, h4, h5, h21, hx] <;> rfl) | fail) only [go_sem, ↓reduceIte, h4, h5, h21, hx]
  refine Qa hP (Qadm (x := L) (y := x.1.den / Nat.gcd L x.1.den) (by omega) (by omega)) rfl rfl rfl ?_
  simp +decide (disch := first | omega | rfl | (simp +decide only [go_sem, ↓reduceIte, h4, h5, h21, hx, hh3] <;> rfl) | fail) only [go_sem, ↓reduceIte, h4, h5, h21, hx, hh3]
  refine Ql (p.length - (i + 1)) (by omega) ⟨i + 1, rfl, by omega, ?_⟩
  rw [hs1, hs2]
  simp +decide (disch := first | omega | rfl | (simp +decide only [go_sem, ↓reduceIte, hh3] <;> rfl) | fail) only [go_sem, ↓reduceIte, hh3]
 ·obtain rfl : i = p.length := by omega
  rw [List.take_length] at h4 h5 hn1 hn2
  generalize hx : p[0] = x at *
  have hlL := hl0
  simp +decide (disch := first | omega | rfl | (simp +decide only [go_sem, ↓reduceIte, h4, h5, hx] <;> rfl) | fail) only [go_sem, ↓reduceIte, h4, h5, hx]
  refine Qa hP (Qnt (a := x.1) (by omega)) rfl rfl rfl ?_
  simp +decide (disch := first | omega | rfl | (simp +decide only [go_sem, ↓reduceIte, h4, h5, hx] <;> rfl) | fail) only [go_sem, ↓reduceIte, h4, h5, hx]
  refine Qa hP hmk rfl rfl rfl ?_
  generalize Qn8 p = a at *
  simp +decide (disch := first | omega | rfl | (simp +decide only [go_sem, ↓reduceIte, h4, h5, hx] <;> rfl) | fail) only [go_sem, ↓reduceIte, h4, h5, hx]
  refine Qa hP (Qjp (K := 2 + p.length * K + K) (hp.mono (by omega) (Nat.le_refl _)) (by omega) (by omega) hE (by omega)) rfl rfl rfl ?_
  simp +decide (disch := first | omega | rfl | (simp +decide only [go_sem, ↓reduceIte, hh3] <;> rfl) | fail) only [go_sem, ↓reduceIte, hh3]
  refine Qkc ?_
  simp +decide (disch := first | omega | rfl | (simp +decide only [go_sem, ↓reduceIte] <;> rfl) | fail) only [go_sem, ↓reduceIte]
  exact Qfe rfl rfl rfl (Qt _) (Qt _)
end Go.Proofs.YtmnkngmmfnncoaaGreat
namespace Go.FW
open Go
def hdT (p : List Tm) : Tm := p.headD (0, [])
theorem Qox {p : List Tm} (h : 0 < p.length) : p[0] = hdT p := by cases p with
 | nil => simp at h
 | cons t p => rfl
theorem Qc9 {p : List Tm} (h : p ≠ []) : hdT p ∈ p := by cases p with
 | nil => exact absurd rfl h
 | cons t p => simp [hdT]
def exT (q p : List Tm) : Tm := ((hdT p).1 / (hdT q).1, Qio (hdT p).2 (hdT q).2)
def exN (q p : List Tm) : List Tm := Qhf p (Qad [exT q p] q)
def exP (q p : List Tm) : Nat -> List Tm
 | 0 => p
 | k + 1 => exN q (exP q p k)
def exQ (q p : List Tm) : Nat -> List Tm
 | 0 => []
 | k + 1 => exQ q p k ++ [exT q (exP q p k)]
def Q0c (q p : List Tm) : Prop := p ≠ [] /\ Qhl (hdT q).2 (hdT p).2 = true
def exR (q p : List Tm) (k : Nat) : PV := if exP q p k = [] then .tup [PV.poly (exQ q p k), .bool true] else .tup [PV.poly [], .bool false]
theorem Qs1 (q p : List Tm) : ∀ k, (exQ q p k).length = k
 | 0 => rfl
 | k + 1 => by rw [exQ, List.length_append, Qs1 q p k]; rfl
theorem Qmx {p : List Tm} (hs : Qa3 p) : ∀ t ∈ p, t = hdT p ∨ Qae t.2 (hdT p).2 < 0 := by
 cases p with
 | nil => intro t ht; cases ht
 | cons x p =>
  intro t ht
  rcases List.mem_cons.1 ht with rfl | ht
  ·exact .inl rfl
  ·right
   have := hs.1 t ht
   have e := Qhd x.2 t.2
   show Qae t.2 x.2 < 0
   omega
theorem Qadn {q p : List Tm} (np : Nrm p) (nq : Nrm q) (hp : p ≠ []) (hq : q ≠ []) : Nrm [exT q p] := by
 refine Nrm.one ?_ (Qtx _ _)
 have h1 := np.z _ (Qc9 hp)
 have h2 := nq.z _ (Qc9 hq)
 show (hdT p).1 / (hdT q).1 ≠ 0
 grind
theorem Qpp (t : Tm) : Qa3 [t] := ⟨by simp, trivial⟩
theorem Qyn {q p : List Tm} (np : Nrm p) (nq : Nrm q) : Nrm (exN q p) :=
 Qjq np (Qau (Qpp _) nq.s)
theorem Qyo {q p : List Tm} (np : Nrm p) (nq : Nrm q) : ∀ k, Nrm (exP q p k)
 | 0 => np
 | k + 1 => Qyn (Qyo np nq k) nq
theorem Que {t : Tm} {q : List Tm} (φ : List Int -> Rat) : pev φ (Qad [t] q) = t.1 * pev (fun m => φ (Qat t.2 m)) q := by
 rw [Qcv, Qal, Qb7, Rat.add_zero]
theorem Qwt {t x : Tm} {q : List Tm} (h : x ∈ Qad [t] q) : ∃ s ∈ q, x.2 = Qat t.2 s.2 := by
 obtain ⟨a, ha, b, hb, e⟩ := Qjr h
 obtain rfl : a = t := by simpa using ha
 exact ⟨b, hb, e⟩
theorem Qado {q p : List Tm} (np : Nrm p) (nq : Nrm q) (φ : List Int -> Rat) : pev φ (exN q p) = pev φ p - (exT q p).1 * pev (fun m => φ (Qat (exT q p).2 m)) q := by
 rw [exN, Qp8 φ np.c (Qau (Qpp _) nq.s), Que]
theorem Qagb {q p : List Tm} {K E : Nat} (bp : PB K E p) (bq : PB K E q) (np : Nrm p) (nq : Nrm q) (hq : q ≠ []) (hg : Q0c q p) : ∀ t ∈ exN q p, Qae t.2 (hdT p).2 < 0 := by
 intro t ht
 obtain ⟨hp, hd⟩ := hg
 have hpm := Qc9 hp
 have hqm := Qc9 hq
 have hmul : Qat (exT q p).2 (hdT q).2 = (hdT p).2 := Q8t (bp _ hpm).m (bq _ hqm).m (bp _ hpm).l hd
 have nt := Qadn np nq hp hq
 have hnN : Nrm (exN q p) := Qyn np nq
 have hle : t.2 = (hdT p).2 ∨ Qae t.2 (hdT p).2 < 0 := by
  rcases Qwn (Qau nt.s nq.s).c ht with ⟨s, hs, e⟩ | ⟨s, hs, e⟩
  ·rw [<- e]
   rcases Qmx np.s s hs with rfl | h
   ·exact .inl rfl
   ·exact .inr h
  ·obtain ⟨b, hb, e2⟩ := Qwt hs
   rw [<- e, e2, <- hmul]
   rcases Qmx nq.s b hb with rfl | h
   ·exact .inl rfl
   ·right; rw [Qdm _ b.2, Qdm _ (hdT q).2, Qp5]; exact h
 rcases hle with he | h
 ·exfalso
  have h1 := Qado np nq (fun m => if m = t.2 then 1 else 0)
  have h2 := Qjs (φ := fun m => if m = t.2 then 1 else 0) hnN.s ht (fun s hs hne => by
   rw [if_neg]; intro e; exact hne (Qqa hnN.s hs ht e))
  have h3 := Qjs (φ := fun m => if m = t.2 then 1 else 0) np.s hpm (fun s hs hne => by
   rw [if_neg]; intro e; exact hne (Qqa np.s hs hpm (e.trans he)))
  have h4 := Qjs (φ := fun m => if Qat (exT q p).2 m = t.2 then 1 else 0) nq.s hqm (fun s hs hne => by
   rw [if_neg]; intro e
   rcases Qmx nq.s s hs with h | h
   ·exact hne h
   ·rw [he, <- hmul] at e
    have := Qp5 s.2 (hdT q).2 (exT q p).2
    rw [Qdm s.2, Qdm (hdT q).2, e, Qke] at this
    omega)
  rw [h2, h3, h4] at h1
  rw [if_pos rfl, if_pos he.symm, if_pos (hmul.trans he.symm)] at h1
  have h5 : t.1 = 0 := by
   have e : (exT q p).1 * (hdT q).1 = (hdT p).1 := by
    have := nq.z _ hqm
    show (hdT p).1 / (hdT q).1 * (hdT q).1 = _
    grind
   grind
  exact hnN.z t ht h5
 ·exact h
theorem Qagc {q p : List Tm} {K E : Nat} (bp : PB K E p) (bq : PB K E q) (nq : Nrm q) (hq : q ≠ []) (hg : Q0c q p) : TB (K + K) E (exT q p) := by
 have h1 := bp _ (Qc9 hg.1)
 have h2 := bq _ (Qc9 hq)
 refine ⟨?_, Qadj h1.m h2.m hg.2, Qtx _ _⟩
 have h3 := Qvt (hdT p).1 (hdT q).1⁻¹
 have h4 := Qaf8 (hdT q).1 (nq.z _ (Qc9 hq))
 have c1 := h1.c
 have c2 := h2.c
 show rs ((hdT p).1 / (hdT q).1) + 1 <= K + K
 rw [Rat.div_def]
 omega
end Go.FW
