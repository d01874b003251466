/- Join of Coefs is the polynomial, Exact undoes Mul, and multiples have the same primitive polynomial: the statement PseudoBack, for arguments of any size up to the stated one. -/
import Derived.Test.YtmnkngmmfnncoaaGreatPseudoBackPart14
set_option linter.unusedSimpArgs false
set_option linter.unnecessarySimpa false
set_option linter.unusedVariables false
namespace Go.Proofs.YtmnkngmmfnncoaaGreat
open Go Go.FW
set_option linter.unusedSimpArgs false
set_option linter.unusedVariables false
set_option maxRecDepth 100000
theorem Qwv {p q : List Tm} (np : Nrm p) (nq : Nrm q) (bp : PB 5 4 p) (bq : PB 5 4 q) (lp : p.length ≤ 5) (lq : q.length ≤ 5) (hq : q ≠ []) :
    Qe Tryz.prog 67 [PV.poly (Qaz p q), PV.poly q] (· = .tup [PV.poly p, .bool true]) := by
  have mp : ∀ t ∈ p, MB 4 t.2 := fun t ht => (bp t ht).m
  have mq : ∀ t ∈ q, MB 4 t.2 := fun t ht => (bq t ht).m
  have hx := fun k hk => Qws np nq mp mq hq k hk
  have h := Qmx (p := Qaz p q) (q := q) (K := 50) (E := 8) (L := 25) (k0 := p.length) (Qet np.s nq.s) nq (bq.mono (by omega) (by omega)) hq (by omega) (fun k hk => ?_) (fun k hk => Qagn np nq mp mq hq hk) (fun hg => ?_) (by omega) (by omega) (by omega) (by omega) (by omega)
  · have e := hx p.length (Nat.le_refl _)
    have e1 : exP q (Qaz p q) p.length = [] := by rw [e.1, List.drop_length, Qmm]
    rw [exR, if_pos e1, e.2, List.take_length] at h
    exact h
  · rw [(hx k hk).1]
    obtain ⟨b1, b2⟩ := Qim (p := p.drop k) (q := q) (fun t ht => bp t (List.mem_of_mem_drop ht)) bq
    have hl : (p.drop k).length ≤ 5 := by rw [List.length_drop]; omega
    have e := Nat.mul_le_mul_right (5 + 5) (show min (p.drop k).length q.length ≤ 5 by omega)
    exact ⟨b1.mono e (by omega), Nat.le_trans b2 (Nat.mul_le_mul hl lq)⟩
  · have e := hx p.length (Nat.le_refl _)
    have e1 : exP q (Qaz p q) p.length = [] := by rw [e.1, List.drop_length, Qmm]
    exact hg.1 e1
def prm (p : List Tm) : List Tm := if p = [] then [] else Qa0 p (Qdb p)
def prf (p : List Tm) : Rat := if p = [] then ((1 : Int) : Rat) else Qdb p
theorem Qi0 {p : List Tm} {K E : Nat} (hp : PB K E p) (np : Nrm p) (hl : p.length ≤ 5) (hK : K ≤ 1000) (hE : E ≤ 2 ^ 38) : Qe Tryz.prog 69 [PV.poly p] (· = .tup [PV.poly (prm p), PV.rat (prf p)]) := by
  unfold prm prf
  split
  · rename_i h; subst h; exact Qp2
  · rename_i h
    have := Nat.mul_le_mul_right K hl
    exact Qic hp np h (by omega) (by omega) hE
theorem Qtp {p : List Tm} {K E : Nat} (hp : PB K E p) (np : Nrm p) (hl : p.length ≤ 5) : PB (7 * K + 2) E (prm p) ∧ Nrm (prm p) ∧ (prm p).length ≤ 5 ∧ rs (prf p) ≤ 6 * K + 1 := by
  unfold prm prf
  split
  · refine ⟨PB.nil _ _, Nrm.nil, by simp, ?_⟩
    have := Qpw
    rw [show ((1 : Int) : Rat) = 1 from rfl]; omega
  · rename_i h
    have h3 := Qyp hp np.z h
    have := Nat.mul_le_mul_right K hl
    exact ⟨(Qh2 hp (L := 6 * K + 2) (by omega)).mono (by omega) (Nat.le_refl _), Qcn np.s _, Nat.le_trans (Qe0 _ _) hl, by omega⟩
theorem Qadn {p : List Tm} (np : Nrm p) : prm (prm p) = prm p ∧ prf (prm p) = ((1 : Int) : Rat) ∧ Qa0 p (prf p) = prm p ∧ ∀ c : Rat, c ≠ 0 → prm (Qa0 p c) = prm p := by
  unfold prm prf
  by_cases h : p = []
  · subst h
    have e : ∀ c, Qa0 [] c = [] := fun c => by unfold Qa0; split <;> rfl
    simp [e]
  · have h2 := Qnz np h (Qsp np h)
    simp only [if_neg h, if_neg h2]
    rw [Qadm np h]
    refine ⟨Q0c (Qcn np.s _), rfl, trivial, fun c hc => ?_⟩
    rw [if_neg (Qnz np h hc), Qwu np, Rat.mul_comm, Qrm np h hc]
theorem Qrn {p q : List RTm} {v : Int} {k : Nat} (hb : ∀ t ∈ p, RB k t) (hb2 : ∀ t ∈ q, RB k t) (hk1 : 1 ≤ k) (hk : k < 2 ^ 36) (hl : p.length < 2 ^ 40) (hl2 : q.length < 2 ^ 40) :
    Qe Tryz.prog 12 [PV.rpoly p, PV.rpoly q, .int .i64 v] (· = .bool true) := by
  refine Qg Qk Tryz.func12 rfl Qaff (by simp [c12]) fun C hP => ?_; simp only [c12]
  simp +decide (disch := first | omega | rfl | (simp +decide only [go_sem, ↓reduceIte] <;> rfl) | fail) only [go_sem, ↓reduceIte]
  refine Qbx hP (Qadl hb hb2 hk1 hk hl hl2) (by simp +decide (disch := first | omega | rfl | (simp +decide only [go_sem, ↓reduceIte, Qd, List.contains_cons, List.contains_nil, List.flatMap_cons, List.flatMap_nil, List.append_nil] <;> rfl) | fail) only [go_sem, ↓reduceIte, Qd, List.contains_cons, List.contains_nil, List.flatMap_cons, List.flatMap_nil, List.append_nil] <;> rfl) rfl ?_
  cases hs1 : Qee 5 4 4 p && Qee 5 4 4 q
  · simp +decide (disch := first | omega | rfl | (simp +decide only [go_sem, ↓reduceIte, Qd, List.contains_cons, List.contains_nil, List.flatMap_cons, List.flatMap_nil, List.append_nil] <;> rfl) | fail) only [go_sem, ↓reduceIte, Qd, List.contains_cons, List.contains_nil, List.flatMap_cons, List.flatMap_nil, List.append_nil]
    refine Qa hP Qfx rfl rfl rfl ?_
    simp +decide (disch := first | omega | rfl | (simp +decide only [go_sem, ↓reduceIte, Qd, List.contains_cons, List.contains_nil, List.flatMap_cons, List.flatMap_nil, List.append_nil] <;> rfl) | fail) only [go_sem, ↓reduceIte, Qd, List.contains_cons, List.contains_nil, List.flatMap_cons, List.flatMap_nil, List.append_nil]
    exact Qc rfl rfl
  rw [Bool.and_eq_true] at hs1
  have s1 := Qrj (e := 4) hb hs1.1
  have s2 := Qrj (e := 4) hb2 hs1.2
  rw [s1.eq, s2.eq]
  have nf := s1.va.nrm
  have ng := s2.va.nrm
  have bf := s1.b
  have bg := s2.b
  have lf := s1.ln
  have lg := s2.ln
  generalize p.map RTm.tm = f at *
  generalize q.map RTm.tm = g at *
  clear s1 s2 hs1 hb hb2
  by_cases hv : v < 0 ∨ 64 ≤ v
  · rcases hv with hv | hv
    · simp +decide (disch := first | omega | rfl | (simp +decide only [go_sem, ↓reduceIte, Qd, List.contains_cons, List.contains_nil, List.flatMap_cons, List.flatMap_nil, List.append_nil, hv] <;> rfl) | fail) only [go_sem, ↓reduceIte, Qd, List.contains_cons, List.contains_nil, List.flatMap_cons, List.flatMap_nil, List.append_nil, hv]
      refine Qa hP Qfx rfl rfl rfl ?_
      simp +decide (disch := first | omega | rfl | (simp +decide only [go_sem, ↓reduceIte, Qd, List.contains_cons, List.contains_nil, List.flatMap_cons, List.flatMap_nil, List.append_nil] <;> rfl) | fail) only [go_sem, ↓reduceIte, Qd, List.contains_cons, List.contains_nil, List.flatMap_cons, List.flatMap_nil, List.append_nil]
      exact Qc rfl rfl
    · have hv2 : ¬ v < 0 := by omega
      simp +decide (disch := first | omega | rfl | (simp +decide only [go_sem, ↓reduceIte, Qd, List.contains_cons, List.contains_nil, List.flatMap_cons, List.flatMap_nil, List.append_nil, hv, hv2] <;> rfl) | fail) only [go_sem, ↓reduceIte, Qd, List.contains_cons, List.contains_nil, List.flatMap_cons, List.flatMap_nil, List.append_nil, hv, hv2]
      refine Qa hP Qfx rfl rfl rfl ?_
      simp +decide (disch := first | omega | rfl | (simp +decide only [go_sem, ↓reduceIte, Qd, List.contains_cons, List.contains_nil, List.flatMap_cons, List.flatMap_nil, List.append_nil] <;> rfl) | fail) only [go_sem, ↓reduceIte, Qd, List.contains_cons, List.contains_nil, List.flatMap_cons, List.flatMap_nil, List.append_nil]
      exact Qc rfl rfl
  obtain ⟨n, rfl⟩ : ∃ n : Nat, v = n := ⟨v.toNat, by omega⟩
  have hn : n < 64 := by omega
  have hn1 : ¬ (n : Int) < 0 := by omega
  have hn2 : ¬ (64 : Int) ≤ n := by omega
  simp +decide (disch := first | omega | rfl | (simp +decide only [go_sem, ↓reduceIte, Qd, List.contains_cons, List.contains_nil, List.flatMap_cons, List.flatMap_nil, List.append_nil, hn1, hn2] <;> rfl) | fail) only [go_sem, ↓reduceIte, Qd, List.contains_cons, List.contains_nil, List.flatMap_cons, List.flatMap_nil, List.append_nil, hn1, hn2]
  refine Qa hP (Qt4 bf nf (by omega) (by omega)) rfl rfl rfl ?_
  rw [Qyj]
  have hlp : (Qfj f n).length ≤ 5 ∧ Qfv f n < ((Qfj f n).length : Nat) := by
    obtain ⟨h1, _, h3⟩ := Qkb f n
    simp only [Qfj, List.length_map, List.length_range]
    rcases h3 with h | ⟨t, ht, h⟩
    · omega
    · have := ((bf t ht).m.eN n).2; omega
  have hcs : ∀ m (h : m < (Qfj f n).length), (Qfj f n)[m] = Qa4 f n (m : Nat) := fun m h => by simp [Qfj]
  have hcb : ∀ c ∈ Qfj f n, PB 5 5 c ∧ c.length ≤ 5 := fun c hc => by
    have := Q3j bf n c hc
    exact ⟨this.1.mono (by omega) (by omega), by omega⟩
  have hj := Q0b nf bf hcs hlp.2
  generalize Qfj f n = l at *
  have hm := Nat.mul_le_mul_right (5 + 5) hlp.1
  have hm2 := Nat.mul_le_mul_right 5 hlp.1
  simp +decide (disch := first | omega | rfl | (simp +decide only [go_sem, ↓reduceIte, Qd, List.contains_cons, List.contains_nil, List.flatMap_cons, List.flatMap_nil, List.append_nil] <;> rfl) | fail) only [go_sem, ↓reduceIte, Qd, List.contains_cons, List.contains_nil, List.flatMap_cons, List.flatMap_nil, List.append_nil]
  refine Qa hP (Qwc (v := n) (K := 5) (E := 5) (L := 5) hcb hn (by omega) (by omega) (by omega) (by omega) (by omega)) rfl rfl rfl ?_
  rw [hj]
  simp +decide (disch := first | omega | rfl | (simp +decide only [go_sem, ↓reduceIte, Qd, List.contains_cons, List.contains_nil, List.flatMap_cons, List.flatMap_nil, List.append_nil] <;> rfl) | fail) only [go_sem, ↓reduceIte, Qd, List.contains_cons, List.contains_nil, List.flatMap_cons, List.flatMap_nil, List.append_nil]
  refine Qa hP (Qcz bf bf (by omega) (by omega) (by omega) (by omega)) rfl rfl rfl ?_
  rw [decide_eq_true (p := f = f) rfl]
  obtain ⟨pb1, pb2⟩ := Qim bf bg
  have k1 : f.length * g.length ≤ 5 * 5 := Nat.mul_le_mul lf lg
  have k2 := Nat.mul_le_mul_right (5 + 5) (show min f.length g.length ≤ 5 by omega)
  simp +decide (disch := first | omega | rfl | (simp +decide only [go_sem, ↓reduceIte, Qd, List.contains_cons, List.contains_nil, List.flatMap_cons, List.flatMap_nil, List.append_nil] <;> rfl) | fail) only [go_sem, ↓reduceIte, Qd, List.contains_cons, List.contains_nil, List.flatMap_cons, List.flatMap_nil, List.append_nil]
  refine Qa hP (Qfq bf bg (by omega) (by omega) (by omega) (by omega) (by omega) (by omega)) rfl rfl rfl ?_
  obtain ⟨a1, a2, a3, a4⟩ := Qtp bf nf lf
  obtain ⟨b1, b2, b3, b4⟩ := Qtp a1 a2 a3
  obtain ⟨c1, c2, c3, c4⟩ := Qadn nf
  have hq23 : rs (((-2 : Int) : Rat) / ((3 : Int) : Rat)) + 1 ≤ 5 := by decide +kernel
  have hq0 : ((-2 : Int) : Rat) / ((3 : Int) : Rat) ≠ 0 := by decide +kernel
  have c4' := c4 _ hq0
  have hone : rs ((1 : Int) : Rat) ≤ 1 := by have := Qpw; rw [show ((1 : Int) : Rat) = 1 from rfl]; omega
  simp +decide (disch := first | omega | rfl | (simp +decide only [go_sem, ↓reduceIte, Qd, List.contains_cons, List.contains_nil, List.flatMap_cons, List.flatMap_nil, List.append_nil] <;> rfl) | fail) only [go_sem, ↓reduceIte, Qd, List.contains_cons, List.contains_nil, List.flatMap_cons, List.flatMap_nil, List.append_nil]
  by_cases hg : g = []
  · subst hg
    refine Qa hP (Qwn) rfl rfl rfl ?_
    simp +decide (disch := first | omega | rfl | (simp +decide only [go_sem, ↓reduceIte, Qd, List.contains_cons, List.contains_nil, List.flatMap_cons, List.flatMap_nil, List.append_nil, show (false == false) = true from rfl] <;> rfl) | fail) only [go_sem, ↓reduceIte, Qd, List.contains_cons, List.contains_nil, List.flatMap_cons, List.flatMap_nil, List.append_nil, show (false == false) = true from rfl]
    refine Qa hP (Qi0 bf nf lf (by omega) (by omega)) rfl rfl rfl ?_
    simp +decide (disch := first | omega | rfl | (simp +decide only [go_sem, ↓reduceIte, Qd, List.contains_cons, List.contains_nil, List.flatMap_cons, List.flatMap_nil, List.append_nil] <;> rfl) | fail) only [go_sem, ↓reduceIte, Qd, List.contains_cons, List.contains_nil, List.flatMap_cons, List.flatMap_nil, List.append_nil]
    refine Qa hP (Qi0 a1 a2 a3 (by omega) (by omega)) rfl rfl rfl ?_
    rw [c1, c2]
    simp +decide (disch := first | omega | rfl | (simp +decide only [go_sem, ↓reduceIte, Qd, List.contains_cons, List.contains_nil, List.flatMap_cons, List.flatMap_nil, List.append_nil] <;> rfl) | fail) only [go_sem, ↓reduceIte, Qd, List.contains_cons, List.contains_nil, List.flatMap_cons, List.flatMap_nil, List.append_nil]
    refine Qa hP (Qgv (x := -2) (y := 3) (by omega) (by omega) (by omega)) rfl rfl rfl ?_
    simp +decide (disch := first | omega | rfl | (simp +decide only [go_sem, ↓reduceIte, Qd, List.contains_cons, List.contains_nil, List.flatMap_cons, List.flatMap_nil, List.append_nil] <;> rfl) | fail) only [go_sem, ↓reduceIte, Qd, List.contains_cons, List.contains_nil, List.flatMap_cons, List.flatMap_nil, List.append_nil]
    refine Qa hP (Qdl bf hq23 (by omega) (by omega) (by omega)) rfl rfl rfl ?_
    simp +decide (disch := first | omega | rfl | (simp +decide only [go_sem, ↓reduceIte, Qd, List.contains_cons, List.contains_nil, List.flatMap_cons, List.flatMap_nil, List.append_nil] <;> rfl) | fail) only [go_sem, ↓reduceIte, Qd, List.contains_cons, List.contains_nil, List.flatMap_cons, List.flatMap_nil, List.append_nil]
    refine Qa hP (Qi0 (Qh2 bf hq23) (Qcn nf.s _) (Nat.le_trans (Qe0 _ _) lf) (by omega) (by omega)) rfl rfl rfl ?_
    rw [c4']
    simp +decide (disch := first | omega | rfl | (simp +decide only [go_sem, ↓reduceIte, Qd, List.contains_cons, List.contains_nil, List.flatMap_cons, List.flatMap_nil, List.append_nil] <;> rfl) | fail) only [go_sem, ↓reduceIte, Qd, List.contains_cons, List.contains_nil, List.flatMap_cons, List.flatMap_nil, List.append_nil]
    refine Qa hP (Qdl (K := 37) (E := 4) (bf.mono (by omega) (by omega)) (by omega) (by omega) (by omega) (by omega)) rfl rfl rfl ?_
    rw [c3]
    simp +decide (disch := first | omega | rfl | (simp +decide only [go_sem, ↓reduceIte, Qd, List.contains_cons, List.contains_nil, List.flatMap_cons, List.flatMap_nil, List.append_nil] <;> rfl) | fail) only [go_sem, ↓reduceIte, Qd, List.contains_cons, List.contains_nil, List.flatMap_cons, List.flatMap_nil, List.append_nil]
    refine Qa hP (Qcz a1 a1 (by omega) (by omega) (by omega) (by omega)) rfl rfl rfl ?_
    rw [decide_eq_true (p := prm f = prm f) rfl]
    simp +decide (disch := first | omega | rfl | (simp +decide only [go_sem, ↓reduceIte, Qd, List.contains_cons, List.contains_nil, List.flatMap_cons, List.flatMap_nil, List.append_nil] <;> rfl) | fail) only [go_sem, ↓reduceIte, Qd, List.contains_cons, List.contains_nil, List.flatMap_cons, List.flatMap_nil, List.append_nil]
    refine Qa hP (Qcz a1 a1 (by omega) (by omega) (by omega) (by omega)) rfl rfl rfl ?_
    rw [decide_eq_true (p := prm f = prm f) rfl]
    simp +decide (disch := first | omega | rfl | (simp +decide only [go_sem, ↓reduceIte, Qd, List.contains_cons, List.contains_nil, List.flatMap_cons, List.flatMap_nil, List.append_nil] <;> rfl) | fail) only [go_sem, ↓reduceIte, Qd, List.contains_cons, List.contains_nil, List.flatMap_cons, List.flatMap_nil, List.append_nil]
    refine Qa hP (Qcz a1 a1 (by omega) (by omega) (by omega) (by omega)) rfl rfl rfl ?_
    rw [decide_eq_true (p := prm f = prm f) rfl]
    simp +decide (disch := first | omega | rfl | (simp +decide only [go_sem, ↓reduceIte, Qd, List.contains_cons, List.contains_nil, List.flatMap_cons, List.flatMap_nil, List.append_nil] <;> rfl) | fail) only [go_sem, ↓reduceIte, Qd, List.contains_cons, List.contains_nil, List.flatMap_cons, List.flatMap_nil, List.append_nil]
    refine Qa hP (Qfr (x := 1) (by omega) (by omega)) rfl rfl rfl ?_
    simp +decide (disch := first | omega | rfl | (simp +decide only [go_sem, ↓reduceIte, Qd, List.contains_cons, List.contains_nil, List.flatMap_cons, List.flatMap_nil, List.append_nil] <;> rfl) | fail) only [go_sem, ↓reduceIte, Qd, List.contains_cons, List.contains_nil, List.flatMap_cons, List.flatMap_nil, List.append_nil]
    refine Qa hP (Qgu (k := 1) hone hone (by omega)) rfl rfl rfl ?_
    rw [decide_eq_true (p := ((1 : Int) : Rat) = ((1 : Int) : Rat)) rfl]
    simp +decide (disch := first | omega | rfl | (simp +decide only [go_sem, ↓reduceIte, Qd, List.contains_cons, List.contains_nil, List.flatMap_cons, List.flatMap_nil, List.append_nil] <;> rfl) | fail) only [go_sem, ↓reduceIte, Qd, List.contains_cons, List.contains_nil, List.flatMap_cons, List.flatMap_nil, List.append_nil]
    refine Qa hP Qfx rfl rfl rfl ?_
    simp +decide (disch := first | omega | rfl | (simp +decide only [go_sem, ↓reduceIte, Qd, List.contains_cons, List.contains_nil, List.flatMap_cons, List.flatMap_nil, List.append_nil] <;> rfl) | fail) only [go_sem, ↓reduceIte, Qd, List.contains_cons, List.contains_nil, List.flatMap_cons, List.flatMap_nil, List.append_nil]
    exact Qc rfl rfl
  · have hg0 := List.length_pos_iff.2 hg
    have hg1 : 0 < (g.length : Int) := by omega
    refine Qa hP (Qwv nf ng bf bg lf lg hg) rfl rfl rfl ?_
    simp +decide (disch := first | omega | rfl | (simp +decide only [go_sem, ↓reduceIte, Qd, List.contains_cons, List.contains_nil, List.flatMap_cons, List.flatMap_nil, List.append_nil, hg1, show (true == true) = true from rfl] <;> rfl) | fail) only [go_sem, ↓reduceIte, Qd, List.contains_cons, List.contains_nil, List.flatMap_cons, List.flatMap_nil, List.append_nil, hg1, show (true == true) = true from rfl]
    refine Qa hP (Qcz bf bf (by omega) (by omega) (by omega) (by omega)) rfl rfl rfl ?_
    rw [decide_eq_true (p := f = f) rfl]
    simp +decide (disch := first | omega | rfl | (simp +decide only [go_sem, ↓reduceIte, Qd, List.contains_cons, List.contains_nil, List.flatMap_cons, List.flatMap_nil, List.append_nil, show (false == false) = true from rfl] <;> rfl) | fail) only [go_sem, ↓reduceIte, Qd, List.contains_cons, List.contains_nil, List.flatMap_cons, List.flatMap_nil, List.append_nil, show (false == false) = true from rfl]
    refine Qa hP (Qi0 bf nf lf (by omega) (by omega)) rfl rfl rfl ?_
    simp +decide (disch := first | omega | rfl | (simp +decide only [go_sem, ↓reduceIte, Qd, List.contains_cons, List.contains_nil, List.flatMap_cons, List.flatMap_nil, List.append_nil] <;> rfl) | fail) only [go_sem, ↓reduceIte, Qd, List.contains_cons, List.contains_nil, List.flatMap_cons, List.flatMap_nil, List.append_nil]
    refine Qa hP (Qi0 a1 a2 a3 (by omega) (by omega)) rfl rfl rfl ?_
    rw [c1, c2]
    simp +decide (disch := first | omega | rfl | (simp +decide only [go_sem, ↓reduceIte, Qd, List.contains_cons, List.contains_nil, List.flatMap_cons, List.flatMap_nil, List.append_nil] <;> rfl) | fail) only [go_sem, ↓reduceIte, Qd, List.contains_cons, List.contains_nil, List.flatMap_cons, List.flatMap_nil, List.append_nil]
    refine Qa hP (Qgv (x := -2) (y := 3) (by omega) (by omega) (by omega)) rfl rfl rfl ?_
    simp +decide (disch := first | omega | rfl | (simp +decide only [go_sem, ↓reduceIte, Qd, List.contains_cons, List.contains_nil, List.flatMap_cons, List.flatMap_nil, List.append_nil] <;> rfl) | fail) only [go_sem, ↓reduceIte, Qd, List.contains_cons, List.contains_nil, List.flatMap_cons, List.flatMap_nil, List.append_nil]
    refine Qa hP (Qdl bf hq23 (by omega) (by omega) (by omega)) rfl rfl rfl ?_
    simp +decide (disch := first | omega | rfl | (simp +decide only [go_sem, ↓reduceIte, Qd, List.contains_cons, List.contains_nil, List.flatMap_cons, List.flatMap_nil, List.append_nil] <;> rfl) | fail) only [go_sem, ↓reduceIte, Qd, List.contains_cons, List.contains_nil, List.flatMap_cons, List.flatMap_nil, List.append_nil]
    refine Qa hP (Qi0 (Qh2 bf hq23) (Qcn nf.s _) (Nat.le_trans (Qe0 _ _) lf) (by omega) (by omega)) rfl rfl rfl ?_
    rw [c4']
    simp +decide (disch := first | omega | rfl | (simp +decide only [go_sem, ↓reduceIte, Qd, List.contains_cons, List.contains_nil, List.flatMap_cons, List.flatMap_nil, List.append_nil] <;> rfl) | fail) only [go_sem, ↓reduceIte, Qd, List.contains_cons, List.contains_nil, List.flatMap_cons, List.flatMap_nil, List.append_nil]
    refine Qa hP (Qdl (K := 37) (E := 4) (bf.mono (by omega) (by omega)) (by omega) (by omega) (by omega) (by omega)) rfl rfl rfl ?_
    rw [c3]
    simp +decide (disch := first | omega | rfl | (simp +decide only [go_sem, ↓reduceIte, Qd, List.contains_cons, List.contains_nil, List.flatMap_cons, List.flatMap_nil, List.append_nil] <;> rfl) | fail) only [go_sem, ↓reduceIte, Qd, List.contains_cons, List.contains_nil, List.flatMap_cons, List.flatMap_nil, List.append_nil]
    refine Qa hP (Qcz a1 a1 (by omega) (by omega) (by omega) (by omega)) rfl rfl rfl ?_
    rw [decide_eq_true (p := prm f = prm f) rfl]
    simp +decide (disch := first | omega | rfl | (simp +decide only [go_sem, ↓reduceIte, Qd, List.contains_cons, List.contains_nil, List.flatMap_cons, List.flatMap_nil, List.append_nil] <;> rfl) | fail) only [go_sem, ↓reduceIte, Qd, List.contains_cons, List.contains_nil, List.flatMap_cons, List.flatMap_nil, List.append_nil]
    refine Qa hP (Qcz a1 a1 (by omega) (by omega) (by omega) (by omega)) rfl rfl rfl ?_
    rw [decide_eq_true (p := prm f = prm f) rfl]
    simp +decide (disch := first | omega | rfl | (simp +decide only [go_sem, ↓reduceIte, Qd, List.contains_cons, List.contains_nil, List.flatMap_cons, List.flatMap_nil, List.append_nil] <;> rfl) | fail) only [go_sem, ↓reduceIte, Qd, List.contains_cons, List.contains_nil, List.flatMap_cons, List.flatMap_nil, List.append_nil]
    refine Qa hP (Qcz a1 a1 (by omega) (by omega) (by omega) (by omega)) rfl rfl rfl ?_
    rw [decide_eq_true (p := prm f = prm f) rfl]
    simp +decide (disch := first | omega | rfl | (simp +decide only [go_sem, ↓reduceIte, Qd, List.contains_cons, List.contains_nil, List.flatMap_cons, List.flatMap_nil, List.append_nil] <;> rfl) | fail) only [go_sem, ↓reduceIte, Qd, List.contains_cons, List.contains_nil, List.flatMap_cons, List.flatMap_nil, List.append_nil]
    refine Qa hP (Qfr (x := 1) (by omega) (by omega)) rfl rfl rfl ?_
    simp +decide (disch := first | omega | rfl | (simp +decide only [go_sem, ↓reduceIte, Qd, List.contains_cons, List.contains_nil, List.flatMap_cons, List.flatMap_nil, List.append_nil] <;> rfl) | fail) only [go_sem, ↓reduceIte, Qd, List.contains_cons, List.contains_nil, List.flatMap_cons, List.flatMap_nil, List.append_nil]
    refine Qa hP (Qgu (k := 1) hone hone (by omega)) rfl rfl rfl ?_
    rw [decide_eq_true (p := ((1 : Int) : Rat) = ((1 : Int) : Rat)) rfl]
    simp +decide (disch := first | omega | rfl | (simp +decide only [go_sem, ↓reduceIte, Qd, List.contains_cons, List.contains_nil, List.flatMap_cons, List.flatMap_nil, List.append_nil] <;> rfl) | fail) only [go_sem, ↓reduceIte, Qd, List.contains_cons, List.contains_nil, List.flatMap_cons, List.flatMap_nil, List.append_nil]
    refine Qa hP Qfx rfl rfl rfl ?_
    simp +decide (disch := first | omega | rfl | (simp +decide only [go_sem, ↓reduceIte, Qd, List.contains_cons, List.contains_nil, List.flatMap_cons, List.flatMap_nil, List.append_nil] <;> rfl) | fail) only [go_sem, ↓reduceIte, Qd, List.contains_cons, List.contains_nil, List.flatMap_cons, List.flatMap_nil, List.append_nil]
    exact Qc rfl rfl
theorem Qsq {p q : List RTm} {v : Int} (h1 : Qt8 p) (h2 : Qt8 q) (hv : -9223372036854775808 ≤ v ∧ v ≤ 9223372036854775807) : Qe Tryz.prog 12 [PV.rpoly p, PV.rpoly q, .int .i64 v] (· = .bool true) :=
  Qrn (k := 1048576) (fun t ht => (h1.2 t ht).1) (fun t ht => (h2.2 t ht).1) (by omega) (by omega) (by have := h1.1; omega) (by have := h2.1; omega)
end Go.Proofs.YtmnkngmmfnncoaaGreat
namespace Go.Proofs.YtmnkngmmfnncoaaGreat
open Go Go.FW Go.ChangeShapes Go.WideShapes Go.ChangeAt Go.RowKit
set_option linter.unusedSimpArgs false
set_option linter.unusedVariables false
set_option maxRecDepth 100000
theorem Qmz (H : Type) (enc : TypeId × Value → H) (W : World) (base : Nat) (args : Array Value) (ds gs : List (DataW H)) (before : List MemPlace)
    (Qce : ∀ (j : Nat) t v, Tryz.f12.params[j]? = some t → args[j]? = some v → Value.okWide Tryz.prog W .any base t v)
    (hW : DataW.Whole enc Tryz.prog Tryz.f12.params.toList Rows.pseudoBackSpec.vars false W args.toList ds gs before) (hk : Rows.uptoSmall H (ds ++ gs) = true) :
    Calls Tryz.prog 12 args W fun e W' => ∃ v, e = .returned v ∧ Rows.pseudoBackSpec.post enc Tryz.prog Tryz.f12 false true false false W args v W' := by
  have hW' := hW
  obtain ⟨p, q, hA0, hV, rfl, hfz, hnd⟩ := hW
  have hA : DataW.TrodAll enc Tryz.prog W 0 (fun _ => true) true Tryz.f12.params.toList args.toList ds p := hA0
  rw [Tryz.params12] at hA Qce
  obtain ⟨v0, vs0, e0, ds0, p0, q0, hargs, rfl, rfl, h0, r0⟩ := trodAll_cons hA
  obtain ⟨v1, vs1, e1, ds1, p1, q1, rfl, rfl, rfl, h1, r1⟩ := trodAll_cons r0
  obtain ⟨v2, vs2, e2, ds2, p2, q2, rfl, rfl, rfl, h2, r2⟩ := trodAll_cons r1
  obtain ⟨rfl, rfl, rfl⟩ := trodAll_nil r2
  obtain rfl : args = #[v0, v1, v2] := by cases args; simp_all
  obtain ⟨rfl, rfl⟩ := trodVars_none hV
  have hb := Q6d hk
  simp only [List.append_nil, Rows.uptoBulkAll] at hb
  obtain ⟨a0, g0, b0⟩ := Qvw (Qce 0 _ v0 rfl rfl) h0 (by omega)
  obtain ⟨a1, g1, b1⟩ := Qvw (Qce 1 _ v1 rfl rfl) h1 (by omega)
  obtain ⟨a2, g2, b2⟩ := Qaa7 (Qce 2 _ v2 rfl rfl) h2 (by omega)
  exact Q2f hW' rfl (by kernel_rfl) (by kernel_rfl) rfl (Qsq b0 b1 b2) rfl
    (Q6e (vs := [v0, v1, v2]) (by
      intro i x hx v hv
      match i, hx, hv with
      | 0, hx, hv => simp at hx hv; subst hx hv; exact g0
      | 1, hx, hv => simp at hx hv; subst hx hv; exact g1
      | 2, hx, hv => simp at hx hv; subst hx hv; exact g2
      | i + 3, hx, hv => simp at hx) rfl)
theorem Qop (os : Os) (started : os.Started) (H : Type) (enc : TypeId × Value → H) (F : Stop.Interp) :
    ReturnsInHanded {} Tryz.checked os 12 .any ((Rows.OpenSpec.upto Rows.pseudoBackSpec).pre6 enc Tryz.prog Tryz.f12 Rows.pseudoBackUptoRow.domain false) (((Rows.OpenSpec.upto Rows.pseudoBackSpec).at F).post enc Tryz.prog Tryz.f12 false true false false) := by
  refine returnsInHanded_of_cond (C := Tryz.checked) (s := Rows.OpenSpec.upto Rows.pseudoBackSpec) (k := Rows.uptoSmall) rfl own started (by kernel_rfl) Tryz.func12
    (OpenSpec.witness (enc := enc) (C := Tryz.checked) (s := Rows.OpenSpec.upto Rows.pseudoBackSpec) (k := Rows.uptoSmall) rfl false ⟨#[], #[.slice none 0 0, .slice none 0 0, .int .i64 0], []⟩ 8 (by kernel_rfl) (by kernel_rfl) (by kernel_rfl)
      (x := ([.nil, .nil, .lit (.int .i64 0)], [], [])) (by kernel_rfl) rfl (by kernel_rfl)) ?_
  intro W base args ds gs before Qce hW _ hk _
  exact Qmz H enc W base args ds gs before Qce hW hk
theorem pseudoBack_proved : Rows.PseudoBackUptoSaid :=
  OpenClaim.holds_of_cond 12 Tryz.f12 rfl rfl rfl rfl rfl rfl rfl ⟨rfl, rfl, rfl, rfl, rfl⟩ rfl rfl rfl rfl rfl (by kernel_rfl) Tryz.func12 (by kernel_rfl)
    (of_decide_eq_true (by kernel_rfl)) (by unfold Func.isWrapper; first | (rw [if_pos (by decide +kernel)]; kernel_rfl) | (rw [if_neg (by decide +kernel)]; exact ⟨rfl, rfl⟩))
    (fun os started H enc _ F => Qop os started H enc F)
end Go.Proofs.YtmnkngmmfnncoaaGreat
