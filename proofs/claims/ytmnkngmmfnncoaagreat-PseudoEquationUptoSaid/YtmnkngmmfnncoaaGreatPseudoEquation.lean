/- After a pseudo-division the power of the initial times the dividend is the quotient times the divisor plus the remainder: the statement PseudoEquation, for arguments of any size up to the stated one. -/
import Derived.Test.YtmnkngmmfnncoaaGreatPseudoEquationPart13
set_option linter.unusedSimpArgs false
set_option linter.unnecessarySimpa false
set_option linter.unusedVariables false
namespace Go.Proofs.YtmnkngmmfnncoaaGreat
open Go Go.FW
set_option linter.unusedSimpArgs false
set_option linter.unusedVariables false
set_option maxRecDepth 100000
theorem Quh {f g : List Tm} {v : Int} (h : v < 0 ∨ 64 <= v) : Qe Tryz.prog 73 [PV.poly f, PV.poly g, .int .i64 v] (· = .tup [PV.poly [], PV.poly [], .int .i64 0, .int .i64 2]) := by
 refine Qg Qk Tryz.func73 rfl Qwk (by simp [c73]) fun C hP => ?_; simp only [c73]
 simp +decide (disch := first | omega | rfl | (simp +decide only [go_sem, ↓reduceIte] <;> rfl) | fail) only [go_sem, ↓reduceIte, Q2, Qam]
 refine Q6 (fun h1 => ?_) (fun h1 => ?_)
 ·simp +decide (disch := first | omega | rfl | (simp +decide only [go_sem, ↓reduceIte] <;> rfl) | fail) only [go_sem, ↓reduceIte, Q2, Qam]
  exact Qqb rfl rfl rfl rfl rfl Qc4 Qc4 (Qt _) (Qt _)
 simp +decide (disch := first | omega | rfl | (simp +decide only [go_sem, ↓reduceIte] <;> rfl) | fail) only [go_sem, ↓reduceIte, Q2, Qam]
 refine Qb (fun h2 => ?_) (fun h2 => by omega)
 simp +decide (disch := first | omega | rfl | (simp +decide only [go_sem, ↓reduceIte] <;> rfl) | fail) only [go_sem, ↓reduceIte, Q2, Qam]
 exact Qqb rfl rfl rfl rfl rfl Qc4 Qc4 (Qt _) (Qt _)
theorem Qs2 {f : List Tm} {v : Nat} (hv : v < 64) : Qe Tryz.prog 73 [PV.poly f, PV.poly [], .int .i64 v] (· = .tup [PV.poly [], PV.poly [], .int .i64 0, .int .i64 3]) := by
 refine Qg Qk Tryz.func73 rfl Qwk (by simp [c73]) fun C hP => ?_; simp only [c73]
 simp +decide (disch := first | omega | rfl | (simp +decide only [go_sem, ↓reduceIte] <;> rfl) | fail) only [go_sem, ↓reduceIte, Q2, Qam]
 refine Q6 (fun h1 => by omega) (fun _ => ?_)
 simp +decide (disch := first | omega | rfl | (simp +decide only [go_sem, ↓reduceIte] <;> rfl) | fail) only [go_sem, ↓reduceIte, Q2, Qam]
 refine Qb (fun h2 => by omega) (fun _ => ?_)
 simp +decide (disch := first | omega | rfl | (simp +decide only [go_sem, ↓reduceIte] <;> rfl) | fail) only [go_sem, ↓reduceIte, Q2, Qam]
 exact Qqb rfl rfl rfl rfl rfl Qc4 Qc4 (Qt _) (Qt _)
theorem Qr3 {f g : List Tm} {v d : Nat} (nf : Nrm f) (ng : Nrm g) (bf : PB 5 4 f) (bg : PB 5 4 g) (lf : f.length <= 5) (lg : g.length <= 5) (hv : v < 64) (hg0 : g ≠ []) (hd : Qai g v = d) :
  Qe Tryz.prog 73 [PV.poly f, PV.poly g, .int .i64 v] (· = Qem g v d 5 [] f 0) := by
 have hN : Qai f v < (5 : Nat) := Qsw (fun t ht => by have := (bf t ht).m.eN v; omega) (by omega)
 refine Qsz (K := 118882) (E := 972) (M := 5) nf ng (bg.mono (by omega) (by omega)) hv hg0 hd hN (Qnz bf (by omega) (by omega)) (fun k hk => ?_) lg (by omega) (by omega) (by omega) (by omega) (by omega) (by omega) (by omega)
 obtain ⟨_, h1, h2, _, _⟩ := Qqd (d := d) bf bg lf lg hv k
 obtain ⟨h3, h4, _, h5⟩ := d5 (k := k) (by omega)
 exact ⟨h1.mono (h5 hk) h4, h2.mono (h5 hk) h4⟩
theorem Qad2 {p q : List RTm} {k : Nat} (hb : ∀ t ∈ p, RB k t) (hb2 : ∀ t ∈ q, RB k t) (hk1 : 1 <= k) (hk : k < 2 ^ 36) (hl : p.length < 2 ^ 40) (hl2 : q.length < 2 ^ 40) :
  Qe Tryz.prog 64 [.sl 1 [PV.rpoly p, PV.rpoly q]] (· = .bool (Qen 5 4 4 p && Qen 5 4 4 q)) := by
 have := Q22 (ls := [p, q]) (k := k) (by simp; exact ⟨⟨hb, hl⟩, hb2, hl2⟩) hk1 hk (by simp)
 simpa using this
end Go.Proofs.YtmnkngmmfnncoaaGreat
namespace Go.Proofs.YtmnkngmmfnncoaaGreat
open Go Go.FW
set_option linter.unusedSimpArgs false
set_option linter.unusedVariables false
set_option maxRecDepth 100000
theorem Q3i {f g : List Tm} {v d : Nat} (nf : Nrm f) (ng : Nrm g) : ∀ k, Qad (Qb6 (Q7 g v d) k) f = Q3 (Qad (dvS g v d f k).1 g) (dvS g v d f k).2
 | 0 => by
  show Qad (Qd8 ((1 : Int) : Rat)) f = Q3 (Qad [] g) f
  rw [Qz5, Qfs]
  exact Q69 nf
 | k + 1 => by
  have ih := Q3i (v := v) (d := d) nf ng k
  obtain ⟨n1, n2⟩ := Qlm (v := v) (d := d) nf ng k
  have hst : dvS g v d f (k + 1) = (dvQ (dvS g v d f k).1 (dvS g v d f k).2 g v (Qai (dvS g v d f k).2 v).toNat d, dvR (dvS g v d f k).2 g v (Qai (dvS g v d f k).2 v).toNat d) := rfl
  rw [hst]
  have nc := Qci ng v d
  have npw := Qp9 nc k
  show Qad (Qad (Qb6 (Q7 g v d) k) (Q7 g v d)) f = Q3 (Qad (dvQ (dvS g v d f k).1 (dvS g v d f k).2 g v (Qai (dvS g v d f k).2 v).toNat d) g) (dvR (dvS g v d f k).2 g v (Qai (dvS g v d f k).2 v).toNat d)
  generalize (Qai (dvS g v d f k).2 v).toNat = n
  generalize (dvS g v d f k).1 = q at *
  generalize (dvS g v d f k).2 = r at *
  have nb : Nrm (dvB r v n d) := Qf0 (Qci n2 v n) v (n - d)
  unfold dvQ dvR
  rw [Qki npw nc, Qrl nc npw nf, ih]
  generalize dvB r v n d = b at *
  generalize Q7 g v d = c at *
  have nqg := Qau n1.s ng.s
  have ncq := Qau nc.s n1.s
  have nbg := Qau nb.s ng.s
  have ncr := Qau nc.s n2.s
  have ncqg := Qau ncq.s ng.s
  rw [Qtt ncq nb ng]
  have e1 : Qad c (Q3 (Qad q g) r) = Q3 (Qad c (Qad q g)) (Qad c r) := by
   have nq2 := Qdt nqg n2
   rw [Qki nc nq2, Qtt nqg n2 nc, Qki nqg nc, Qki n2 nc]
  rw [e1, <- Qrl nc n1 ng]
  generalize Qad (Qad c q) g = A at *
  generalize Qad b g = Y at *
  generalize Qad c r = X at *
  refine Qhi (Qdt ncqg ncr) (Qdt (Qdt ncqg nbg) (Qjq ncr nbg)) fun φ => ?_
  rw [Qe3 ncqg.c ncr.c, Qe3 (Qdt ncqg nbg).c (Qjq ncr nbg).c, Qe3 ncqg.c nbg.c, Qp8 φ ncr.c nbg]
  grind
theorem Qt0 {f g : List Tm} {v d : Nat} (nf : Nrm f) (ng : Nrm g) (hd : Qai g v = d) (hb : ∀ k, ∃ K E, PB K E (dvS g v d f k).2) : ∀ (fuel k : Nat), ((dvS g v d f k).2 = [] ∨ Qai (dvS g v d f k).2 v < fuel) ->
    Qem g v d fuel (dvS g v d f k).1 (dvS g v d f k).2 k = .tup [PV.poly [], PV.poly [], .int .i64 0, .int .i64 4] ∨
    ∃ j, k <= j /\ j <= k + fuel /\ ((dvS g v d f j).2 = [] ∨ Qai (dvS g v d f j).2 v < d) /\
      Qem g v d fuel (dvS g v d f k).1 (dvS g v d f k).2 k = .tup [PV.poly (dvS g v d f j).1, PV.poly (dvS g v d f j).2, .int .i64 j, .int .i64 0]
  | 0, k, h0 => by
    refine .inr ⟨k, Nat.le_refl _, by omega, ?_, rfl⟩
    rcases h0 with h | h
    · exact .inl h
    · left
      apply Classical.byContradiction
      intro hne
      obtain ⟨K, E, hp⟩ := hb k
      have := (Qhk hp hne v).1
      omega
  | fuel + 1, k, h0 => by
    by_cases h : (dvS g v d f k).2 = [] ∨ Qai (dvS g v d f k).2 v < d
    · exact .inr ⟨k, Nat.le_refl _, by omega, h, Qmu h _⟩
    · by_cases h2 : Qba (dvQ (dvS g v d f k).1 (dvS g v d f k).2 g v (Qai (dvS g v d f k).2 v).toNat d) = true ∨ Qba (dvR (dvS g v d f k).2 g v (Qai (dvS g v d f k).2 v).toNat d) = true
      · exact .inl (Qpi h h2)
      · rw [Qru h h2]
        obtain ⟨K, E, hp⟩ := hb k
        have hne : (dvS g v d f k).2 ≠ [] := fun e => h (.inl e)
        have hdeg :=    Q2s (    Qlm (v := v) (d := d) nf ng k).2 ng hp hne hd (by have : ¬  Qai (dvS g v d f k).2 v < d := fun e => h (.inr e)
                                                                                   omega)
        have hlt : Qai (dvS g v d f (k + 1)).2 v < fuel := by
          have e : (dvS g v d f (k + 1)).2 = dvR (dvS g v d f k).2 g v (Qai (dvS g v d f k).2 v).toNat d := rfl
          rw [e]
          rcases h0 with h0 | h0
          · exact absurd h0 hne
          · omega
        rcases Qt0 nf ng hd hb fuel (k + 1) (.inr hlt) with e | ⟨j, j1, j2, j3, e⟩
        · exact .inl e
        · exact .inr ⟨j, by omega, by omega, j3, e⟩
def pwK : Nat -> Nat
 | 0 => 5
 | k + 1 => 5 * (pwK k + 5)
theorem Qi2 {c : List Tm} (hc : PB 5 4 c) (hl : c.length <= 5) : ∀ i, PB (pwK i) (4 * i) (Qb6 c i) /\ (Qb6 c i).length <= 5 ^ i
 | 0 => by
  have e : Qb6 c 0 = [(1, [])] := by show Qd8 ((1 : Int) : Rat) = _; decide +kernel
  rw [e]
  exact ⟨Qhy (by decide +kernel), by simp⟩
 | i + 1 => by
  obtain ⟨h1, h2⟩ := Qi2 hc hl i
  obtain ⟨m1, m2⟩ := Qcu h1 hc
  have e := Nat.mul_le_mul_right (pwK i + 5) (show min (Qb6 c i).length c.length <= 5 by omega)
  refine ⟨m1.mono e (by omega), ?_⟩
  show (Qad (Qb6 c i) c).length <= _
  rw [Nat.pow_succ]
  exact Nat.le_trans m2 (Nat.mul_le_mul h2 hl)
theorem pw5 {i : Nat} (h : i <= 5) : pwK i <= 40000 /\ 5 ^ i <= 3125 := by
 have : i = 0 ∨ i = 1 ∨ i = 2 ∨ i = 3 ∨ i = 4 ∨ i = 5 := by omega
 rcases this with rfl | rfl | rfl | rfl | rfl | rfl <;> decide
theorem Qyr {c : List Tm} (hc : PB 5 4 c) (hl : c.length <= 5) : ∀ i, i <= 5 -> Qiy c i = false
 | 0, _ => rfl
 | i + 1, h => by
  rw [Qrn, Qyr hc hl i (by omega), Bool.false_or]
  obtain ⟨h1, h2⟩ := Qi2 hc hl (i + 1)
  have := pw5 h
  exact Qnz h1 (by omega) (by omega)
theorem Qxr {c : List Tm} (hc : PB 5 4 c) (hl : c.length <= 5) {j : Nat} (hj : j <= 5) : Qe Tryz.prog 74 [PV.poly c, .int .i64 j] (· = .tup [PV.poly (Qb6 c j), .int .i64 0]) := by
 have h := Qz0 (p := c) (n := j) (K := 40000) (E := 20) (L := 3125) (by omega) (hc.mono (by omega) (by omega)) (fun i hi => ?_) (by omega) (by omega) (by omega) (by omega) (by omega)
 ·rw [Qzz, if_neg (by rw [Qyr hc hl j hj]; simp)] at h
  exact h
 ·obtain ⟨h1, h2⟩ := Qi2 hc hl i
  have := pw5 (i := i) (by omega)
  exact ⟨h1.mono (by omega) (by omega), by omega⟩
theorem Qm8 {p q : List RTm} {v : Int} {k : Nat} (hb : ∀ t ∈ p, RB k t) (hb2 : ∀ t ∈ q, RB k t) (hk1 : 1 <= k) (hk : k < 2 ^ 36) (hl : p.length < 2 ^ 40) (hl2 : q.length < 2 ^ 40) :
  Qe Tryz.prog 13 [PV.rpoly p, PV.rpoly q, .int .i64 v] (· = .bool true) := by
 refine Qg Qk Tryz.func13 rfl Qafw (by simp [c13]) fun C hP => ?_; simp only [c13]
 simp +decide (disch := first | omega | rfl | (simp +decide only [go_sem, ↓reduceIte] <;> rfl) | fail) only [go_sem, ↓reduceIte, Q2, Qam]
 refine Qbz hP (Qad2 hb hb2 hk1 hk hl hl2) (by simp +decide (disch := first | omega | rfl | (simp +decide only [go_sem, ↓reduceIte, Qd, List.contains_cons, List.contains_nil, List.flatMap_cons, List.flatMap_nil, List.append_nil] <;> rfl) | fail) only [go_sem, ↓reduceIte, Q2, Qam, Qd, List.contains_cons, List.contains_nil, List.flatMap_cons, List.flatMap_nil, List.append_nil] <;> rfl) rfl ?_
 cases hs1 : Qen 5 4 4 p && Qen 5 4 4 q
 ·simp +decide (disch := first | omega | rfl | (simp +decide only [go_sem, ↓reduceIte, Qd, List.contains_cons, List.contains_nil, List.flatMap_cons, List.flatMap_nil, List.append_nil] <;> rfl) | fail) only [go_sem, ↓reduceIte, Q2, Qam, Qd, List.contains_cons, List.contains_nil, List.flatMap_cons, List.flatMap_nil, List.append_nil]
  refine Qa hP Qek rfl rfl rfl ?_
  simp +decide (disch := first | omega | rfl | (simp +decide only [go_sem, ↓reduceIte, Qd, List.contains_cons, List.contains_nil, List.flatMap_cons, List.flatMap_nil, List.append_nil] <;> rfl) | fail) only [go_sem, ↓reduceIte, Q2, Qam, Qd, List.contains_cons, List.contains_nil, List.flatMap_cons, List.flatMap_nil, List.append_nil]
  exact Qc rfl rfl
 rw [Bool.and_eq_true] at hs1
 have s1 := Qr0 (e := 4) hb hs1.1
 have s2 := Qr0 (e := 4) hb2 hs1.2
 rw [s1.eq, s2.eq]
 have nf := s1.va.nrm
 have ng := s2.va.nrm
 have bf := s1.b
 have bg := s2.b
 have lf := s1.ln
 have lg := s2.ln
 generalize p.map RTm.tm = f at *
 generalize q.map RTm.tm = g at *
 clear s1 s2 hs1 hb hb2
 simp +decide (disch := first | omega | rfl | (simp +decide only [go_sem, ↓reduceIte, Qd, List.contains_cons, List.contains_nil, List.flatMap_cons, List.flatMap_nil, List.append_nil] <;> rfl) | fail) only [go_sem, ↓reduceIte, Q2, Qam, Qd, List.contains_cons, List.contains_nil, List.flatMap_cons, List.flatMap_nil, List.append_nil]
 by_cases hv : v < 0 ∨ 64 <= v
 ·refine Qa hP (Quh hv) rfl rfl rfl ?_
  simp +decide (disch := first | omega | rfl | (simp +decide only [go_sem, ↓reduceIte, Qd, List.contains_cons, List.contains_nil, List.flatMap_cons, List.flatMap_nil, List.append_nil] <;> rfl) | fail) only [go_sem, ↓reduceIte, Q2, Qam, Qd, List.contains_cons, List.contains_nil, List.flatMap_cons, List.flatMap_nil, List.append_nil]
  rcases hv with hv | hv
  ·simp +decide (disch := first | omega | rfl | (simp +decide only [go_sem, ↓reduceIte, Qd, List.contains_cons, List.contains_nil, List.flatMap_cons, List.flatMap_nil, List.append_nil, hv, show (true == true) = true from rfl] <;> rfl) | fail) only [go_sem, ↓reduceIte, Q2, Qam, Qd, List.contains_cons, List.contains_nil, List.flatMap_cons, List.flatMap_nil, List.append_nil, hv, show (true == true) = true from rfl]
   refine Qa hP Qek rfl rfl rfl ?_
   simp +decide (disch := first | omega | rfl | (simp +decide only [go_sem, ↓reduceIte, Qd, List.contains_cons, List.contains_nil, List.flatMap_cons, List.flatMap_nil, List.append_nil] <;> rfl) | fail) only [go_sem, ↓reduceIte, Q2, Qam, Qd, List.contains_cons, List.contains_nil, List.flatMap_cons, List.flatMap_nil, List.append_nil]
   exact Qc rfl rfl
  ·have hv2 : ¬ v < 0 := by omega
   simp +decide (disch := first | omega | rfl | (simp +decide only [go_sem, ↓reduceIte, Qd, List.contains_cons, List.contains_nil, List.flatMap_cons, List.flatMap_nil, List.append_nil, hv, hv2, show (true == true) = true from rfl] <;> rfl) | fail) only [go_sem, ↓reduceIte, Q2, Qam, Qd, List.contains_cons, List.contains_nil, List.flatMap_cons, List.flatMap_nil, List.append_nil, hv, hv2, show (true == true) = true from rfl]
   refine Qa hP Qek rfl rfl rfl ?_
   simp +decide (disch := first | omega | rfl | (simp +decide only [go_sem, ↓reduceIte, Qd, List.contains_cons, List.contains_nil, List.flatMap_cons, List.flatMap_nil, List.append_nil] <;> rfl) | fail) only [go_sem, ↓reduceIte, Q2, Qam, Qd, List.contains_cons, List.contains_nil, List.flatMap_cons, List.flatMap_nil, List.append_nil]
   exact Qc rfl rfl
 obtain ⟨n, rfl⟩ : ∃ n : Nat, v = n := ⟨v.toNat, by omega⟩
 have hn : n < 64 := by omega
 have hn1 : ¬ (n : Int) < 0 := by omega
 have hn2 : ¬ (64 : Int) <= n := by omega
 by_cases hg : g = []
 ·subst hg
  refine Qa hP (Qs2 hn) rfl rfl rfl ?_
  simp +decide (disch := first | omega | rfl | (simp +decide only [go_sem, ↓reduceIte, Qd, List.contains_cons, List.contains_nil, List.flatMap_cons, List.flatMap_nil, List.append_nil, hn1, hn2, show (false == false) = true from rfl] <;> rfl) | fail) only [go_sem, ↓reduceIte, Q2, Qam, Qd, List.contains_cons, List.contains_nil, List.flatMap_cons, List.flatMap_nil, List.append_nil, hn1, hn2, show (false == false) = true from rfl]
  refine Qa hP Qek rfl rfl rfl ?_
  simp +decide (disch := first | omega | rfl | (simp +decide only [go_sem, ↓reduceIte, Qd, List.contains_cons, List.contains_nil, List.flatMap_cons, List.flatMap_nil, List.append_nil] <;> rfl) | fail) only [go_sem, ↓reduceIte, Q2, Qam, Qd, List.contains_cons, List.contains_nil, List.flatMap_cons, List.flatMap_nil, List.append_nil]
  exact Qc rfl rfl
 have hd0 := Qhk bg hg n
 obtain ⟨d, hd⟩ : ∃ d : Nat, Qai g n = d := ⟨(Qai g n).toNat, by omega⟩
 have h1 := Qr3 nf ng bf bg lf lg hn hg hd
 have hN : Qai f n < (5 : Nat) := Qsw (fun t ht => by have := (bf t ht).m.eN n; omega) (by omega)
 have hbb := fun k => Qqd (d := d) bf bg lf lg hn k
 rcases Qt0 (v := n) (d := d) nf ng hd (fun k => ⟨_, _, (hbb k).2.2.1⟩) 5 0 (.inr hN) with e | ⟨j, _, hj, hr, e⟩
 ·rw [show Qem g n d 5 [] f 0 = _ from e] at h1
  refine Qa hP h1 rfl rfl rfl ?_
  simp +decide (disch := first | omega | rfl | (simp +decide only [go_sem, ↓reduceIte, Qd, List.contains_cons, List.contains_nil, List.flatMap_cons, List.flatMap_nil, List.append_nil, hn1, hn2, show (false == false) = true from rfl] <;> rfl) | fail) only [go_sem, ↓reduceIte, Q2, Qam, Qd, List.contains_cons, List.contains_nil, List.flatMap_cons, List.flatMap_nil, List.append_nil, hn1, hn2, show (false == false) = true from rfl]
  refine Qa hP Qek rfl rfl rfl ?_
  simp +decide (disch := first | omega | rfl | (simp +decide only [go_sem, ↓reduceIte, Qd, List.contains_cons, List.contains_nil, List.flatMap_cons, List.flatMap_nil, List.append_nil] <;> rfl) | fail) only [go_sem, ↓reduceIte, Q2, Qam, Qd, List.contains_cons, List.contains_nil, List.flatMap_cons, List.flatMap_nil, List.append_nil]
  exact Qc rfl rfl
 rw [show Qem g n d 5 [] f 0 = _ from e] at h1
 refine Qa hP h1 rfl rfl rfl ?_
 obtain ⟨_, b1, b2, l1, l2⟩ := hbb j
 obtain ⟨h3, h4, h5, _⟩ := d5 (k := j) (by omega)
 have heq := Q3i (v := n) (d := d) nf ng j
 have b1' := b1.mono h3 h4
 have b2' := b2.mono h3 h4
 have nq := Qlm (v := n) (d := d) nf ng j
 clear h1 e hbb b1 b2
 generalize (dvS g n d f j).1 = x at *
 generalize (dvS g n d f j).2 = r at *
 simp +decide (disch := first | omega | rfl | (simp +decide only [go_sem, ↓reduceIte, Qd, List.contains_cons, List.contains_nil, List.flatMap_cons, List.flatMap_nil, List.append_nil] <;> rfl) | fail) only [go_sem, ↓reduceIte, Q2, Qam, Qd, List.contains_cons, List.contains_nil, List.flatMap_cons, List.flatMap_nil, List.append_nil]
 refine Qa hP (Qce bg (by omega)) rfl rfl rfl ?_
 rw [Qfc, hd]
 simp +decide (disch := first | omega | rfl | (simp +decide only [go_sem, ↓reduceIte, Qd, List.contains_cons, List.contains_nil, List.flatMap_cons, List.flatMap_nil, List.append_nil] <;> rfl) | fail) only [go_sem, ↓reduceIte, Q2, Qam, Qd, List.contains_cons, List.contains_nil, List.flatMap_cons, List.flatMap_nil, List.append_nil]
 refine Qa hP (Qug bg ng (by omega) (by omega)) rfl rfl rfl ?_
 rw [Qfc]
 have hlc : (Qih g n).length = d + 1 := by simp only [Qih, List.length_map, List.length_range, hd]; omega
 have hgc : ∀ h : d < (Qih g n).length, (Qih g n)[d]'h = Q7 g n d := fun h => by simp [Qih]
 generalize Qih g n = l at *
 have hgc := hgc (by omega)
 have hld : ((l.length : Int) = (d : Int) + 1) := by omega
 have hj0 : ¬ (j : Int) < 0 := by omega
 have hd0 : ¬ (d : Int) < 0 := by omega
 have hcb := Qgg bg n (d : Int)
 have hcl : (Q7 g n d).length <= 5 := Nat.le_trans (Qcw _ _ _) lg
 obtain ⟨w1, w2⟩ := Qi2 hcb hcl j
 obtain ⟨w3, w4⟩ := pw5 hj
 have nc := Qci ng n d
 have npw := Qp9 nc j
 have hpw := Qxr hcb hcl hj
 have w1' : PB 1188882 972 (Qb6 (Q7 g n d) j) := w1.mono (by omega) (by omega)
 obtain ⟨m1, m2⟩ := Qcu w1' (bf.mono (K' := 1188882) (E' := 972) (by omega) (by omega))
 have m1' := m1.mono (K' := 5 * (1188882 + 1188882)) (E' := 1944) (Nat.mul_le_mul_right _ (by omega)) (by omega)
 have m2' : (Qad (Qb6 (Q7 g n d) j) f).length <= 3125 * 5 := Nat.le_trans m2 (Nat.mul_le_mul (by omega) lf)
 obtain ⟨m3, m4⟩ := Qcu b1' (bg.mono (K' := 1188882) (E' := 972) (by omega) (by omega))
 have m3' := m3.mono (K' := 5 * (1188882 + 1188882)) (E' := 1944) (Nat.mul_le_mul_right _ (by omega)) (by omega)
 have m4' : (Qad x g).length <= 500000 * 5 := Nat.le_trans m4 (Nat.mul_le_mul (by omega) lg)
 have k1 : (Qb6 (Q7 g n d) j).length * f.length <= 3125 * 5 := Nat.mul_le_mul (by omega) lf
 have k2 : x.length * g.length <= 500000 * 5 := Nat.mul_le_mul (by omega) lg
 have k3 := Nat.mul_le_mul_right (1188882 + 1188882) (show min (Qb6 (Q7 g n d) j).length f.length <= 5 by omega)
 have k4 := Nat.mul_le_mul_right (1188882 + 1188882) (show min x.length g.length <= 5 by omega)
 have bf' : PB 1188882 972 f := bf.mono (by omega) (by omega)
 have bg' : PB 1188882 972 g := bg.mono (by omega) (by omega)
 have b2'' : PB (5 * (1188882 + 1188882)) 1944 r := b2'.mono (by omega) (by omega)
 have z1 : (Qb6 (Q7 g n d) j).length <= 2 ^ 30 := by omega
 have z2 : f.length <= 2 ^ 30 := by omega
 have z3 : x.length <= 2 ^ 30 := by omega
 have z4 : g.length <= 2 ^ 30 := by omega
 have z5 : r.length <= 2 ^ 36 := by omega
 simp +decide (disch := first | omega | rfl | (simp +decide only [go_sem, ↓reduceIte, Qd, List.contains_cons, List.contains_nil, List.flatMap_cons, List.flatMap_nil, List.append_nil, hld, hj0, hd0] <;> rfl) | fail) only [go_sem, ↓reduceIte, Q2, Qam, Qd, List.contains_cons, List.contains_nil, List.flatMap_cons, List.flatMap_nil, List.append_nil, hld, hj0, hd0]
 by_cases hr0 : r = []
 ·have hrl : ¬ (0 < (r.length : Int)) := by subst hr0; simp
  simp +decide (disch := first | omega | rfl | (simp +decide only [go_sem, ↓reduceIte, Qd, List.contains_cons, List.contains_nil, List.flatMap_cons, List.flatMap_nil, List.append_nil, hrl] <;> rfl) | fail) only [go_sem, ↓reduceIte, Q2, Qam, Qd, List.contains_cons, List.contains_nil, List.flatMap_cons, List.flatMap_nil, List.append_nil, hrl]
  simp +decide (disch := first | omega | rfl | (simp +decide only [go_sem, ↓reduceIte, Qd, List.contains_cons, List.contains_nil, List.flatMap_cons, List.flatMap_nil, List.append_nil, hld, hj0, hd0, hgc] <;> rfl) | fail) only [go_sem, ↓reduceIte, Q2, Qam, Qd, List.contains_cons, List.contains_nil, List.flatMap_cons, List.flatMap_nil, List.append_nil, hld, hj0, hd0, hgc]
  refine Qa hP hpw rfl rfl rfl ?_
  simp +decide (disch := first | omega | rfl | (simp +decide only [go_sem, ↓reduceIte, Qd, List.contains_cons, List.contains_nil, List.flatMap_cons, List.flatMap_nil, List.append_nil] <;> rfl) | fail) only [go_sem, ↓reduceIte, Q2, Qam, Qd, List.contains_cons, List.contains_nil, List.flatMap_cons, List.flatMap_nil, List.append_nil]
  refine Qa hP (Qb4 w1' bf' (by decide) z1 z2 (Nat.le_trans k1 (by decide)) (Nat.le_trans k3 (by decide)) (by decide)) rfl rfl rfl ?_
  simp +decide (disch := first | omega | rfl | (simp +decide only [go_sem, ↓reduceIte, Qd, List.contains_cons, List.contains_nil, List.flatMap_cons, List.flatMap_nil, List.append_nil] <;> rfl) | fail) only [go_sem, ↓reduceIte, Q2, Qam, Qd, List.contains_cons, List.contains_nil, List.flatMap_cons, List.flatMap_nil, List.append_nil]
  refine Qa hP (Qb4 b1' bg' (by decide) z3 z4 (Nat.le_trans k2 (by decide)) (Nat.le_trans k4 (by decide)) (by decide)) rfl rfl rfl ?_
  simp +decide (disch := first | omega | rfl | (simp +decide only [go_sem, ↓reduceIte, Qd, List.contains_cons, List.contains_nil, List.flatMap_cons, List.flatMap_nil, List.append_nil] <;> rfl) | fail) only [go_sem, ↓reduceIte, Q2, Qam, Qd, List.contains_cons, List.contains_nil, List.flatMap_cons, List.flatMap_nil, List.append_nil]
  refine Qa hP (Qfz m3' b2'' (by decide) (by decide) (Nat.le_trans m4' (by decide)) z5) rfl rfl rfl ?_
  rw [<- heq]
  simp +decide (disch := first | omega | rfl | (simp +decide only [go_sem, ↓reduceIte, Qd, List.contains_cons, List.contains_nil, List.flatMap_cons, List.flatMap_nil, List.append_nil] <;> rfl) | fail) only [go_sem, ↓reduceIte, Q2, Qam, Qd, List.contains_cons, List.contains_nil, List.flatMap_cons, List.flatMap_nil, List.append_nil]
  refine Qa hP (Qnv m1' m1' (by decide) (by decide) (Nat.le_trans m2' (by decide)) (Nat.le_trans m2' (by decide))) rfl rfl rfl ?_
  rw [decide_eq_true (p := Qad (Qb6 (Q7 g n d) j) f = Qad (Qb6 (Q7 g n d) j) f) rfl]
  simp +decide (disch := first | omega | rfl | (simp +decide only [go_sem, ↓reduceIte, Qd, List.contains_cons, List.contains_nil, List.flatMap_cons, List.flatMap_nil, List.append_nil] <;> rfl) | fail) only [go_sem, ↓reduceIte, Q2, Qam, Qd, List.contains_cons, List.contains_nil, List.flatMap_cons, List.flatMap_nil, List.append_nil]
  refine Qa hP Qek rfl rfl rfl ?_
  simp +decide (disch := first | omega | rfl | (simp +decide only [go_sem, ↓reduceIte, Qd, List.contains_cons, List.contains_nil, List.flatMap_cons, List.flatMap_nil, List.append_nil] <;> rfl) | fail) only [go_sem, ↓reduceIte, Q2, Qam, Qd, List.contains_cons, List.contains_nil, List.flatMap_cons, List.flatMap_nil, List.append_nil]
  exact Qc rfl rfl
 ·have hrl : 0 < (r.length : Int) := by have := List.length_pos_iff.2 hr0; omega
  have hrd : ¬ ((d : Int) <= Qai r n) := by
   rcases hr with h | h
   ·exact absurd h hr0
   ·omega
  simp +decide (disch := first | omega | rfl | (simp +decide only [go_sem, ↓reduceIte, Qd, List.contains_cons, List.contains_nil, List.flatMap_cons, List.flatMap_nil, List.append_nil, hrl] <;> rfl) | fail) only [go_sem, ↓reduceIte, Q2, Qam, Qd, List.contains_cons, List.contains_nil, List.flatMap_cons, List.flatMap_nil, List.append_nil, hrl]
  refine Qa hP (Qce b2' (by omega)) rfl rfl rfl ?_
  rw [Qfc]
  simp +decide (disch := first | omega | rfl | (simp +decide only [go_sem, ↓reduceIte, Qd, List.contains_cons, List.contains_nil, List.flatMap_cons, List.flatMap_nil, List.append_nil, hrd] <;> rfl) | fail) only [go_sem, ↓reduceIte, Q2, Qam, Qd, List.contains_cons, List.contains_nil, List.flatMap_cons, List.flatMap_nil, List.append_nil, hrd]
  simp +decide (disch := first | omega | rfl | (simp +decide only [go_sem, ↓reduceIte, Qd, List.contains_cons, List.contains_nil, List.flatMap_cons, List.flatMap_nil, List.append_nil, hld, hj0, hd0, hgc] <;> rfl) | fail) only [go_sem, ↓reduceIte, Q2, Qam, Qd, List.contains_cons, List.contains_nil, List.flatMap_cons, List.flatMap_nil, List.append_nil, hld, hj0, hd0, hgc]
  refine Qa hP hpw rfl rfl rfl ?_
  simp +decide (disch := first | omega | rfl | (simp +decide only [go_sem, ↓reduceIte, Qd, List.contains_cons, List.contains_nil, List.flatMap_cons, List.flatMap_nil, List.append_nil] <;> rfl) | fail) only [go_sem, ↓reduceIte, Q2, Qam, Qd, List.contains_cons, List.contains_nil, List.flatMap_cons, List.flatMap_nil, List.append_nil]
  refine Qa hP (Qb4 w1' bf' (by decide) z1 z2 (Nat.le_trans k1 (by decide)) (Nat.le_trans k3 (by decide)) (by decide)) rfl rfl rfl ?_
  simp +decide (disch := first | omega | rfl | (simp +decide only [go_sem, ↓reduceIte, Qd, List.contains_cons, List.contains_nil, List.flatMap_cons, List.flatMap_nil, List.append_nil] <;> rfl) | fail) only [go_sem, ↓reduceIte, Q2, Qam, Qd, List.contains_cons, List.contains_nil, List.flatMap_cons, List.flatMap_nil, List.append_nil]
  refine Qa hP (Qb4 b1' bg' (by decide) z3 z4 (Nat.le_trans k2 (by decide)) (Nat.le_trans k4 (by decide)) (by decide)) rfl rfl rfl ?_
  simp +decide (disch := first | omega | rfl | (simp +decide only [go_sem, ↓reduceIte, Qd, List.contains_cons, List.contains_nil, List.flatMap_cons, List.flatMap_nil, List.append_nil] <;> rfl) | fail) only [go_sem, ↓reduceIte, Q2, Qam, Qd, List.contains_cons, List.contains_nil, List.flatMap_cons, List.flatMap_nil, List.append_nil]
  refine Qa hP (Qfz m3' b2'' (by decide) (by decide) (Nat.le_trans m4' (by decide)) z5) rfl rfl rfl ?_
  rw [<- heq]
  simp +decide (disch := first | omega | rfl | (simp +decide only [go_sem, ↓reduceIte, Qd, List.contains_cons, List.contains_nil, List.flatMap_cons, List.flatMap_nil, List.append_nil] <;> rfl) | fail) only [go_sem, ↓reduceIte, Q2, Qam, Qd, List.contains_cons, List.contains_nil, List.flatMap_cons, List.flatMap_nil, List.append_nil]
  refine Qa hP (Qnv m1' m1' (by decide) (by decide) (Nat.le_trans m2' (by decide)) (Nat.le_trans m2' (by decide))) rfl rfl rfl ?_
  rw [decide_eq_true (p := Qad (Qb6 (Q7 g n d) j) f = Qad (Qb6 (Q7 g n d) j) f) rfl]
  simp +decide (disch := first | omega | rfl | (simp +decide only [go_sem, ↓reduceIte, Qd, List.contains_cons, List.contains_nil, List.flatMap_cons, List.flatMap_nil, List.append_nil] <;> rfl) | fail) only [go_sem, ↓reduceIte, Q2, Qam, Qd, List.contains_cons, List.contains_nil, List.flatMap_cons, List.flatMap_nil, List.append_nil]
  refine Qa hP Qek rfl rfl rfl ?_
  simp +decide (disch := first | omega | rfl | (simp +decide only [go_sem, ↓reduceIte, Qd, List.contains_cons, List.contains_nil, List.flatMap_cons, List.flatMap_nil, List.append_nil] <;> rfl) | fail) only [go_sem, ↓reduceIte, Q2, Qam, Qd, List.contains_cons, List.contains_nil, List.flatMap_cons, List.flatMap_nil, List.append_nil]
  exact Qc rfl rfl
theorem Qob {p q : List RTm} {v : Int} (h1 : Qul p) (h2 : Qul q) (hv : -9223372036854775808 <= v /\ v <= 9223372036854775807) : Qe Tryz.prog 13 [PV.rpoly p, PV.rpoly q, .int .i64 v] (· = .bool true) :=
 Qm8 (k := 1048576) (fun t ht => (h1.2 t ht).1) (fun t ht => (h2.2 t ht).1) (by omega) (by omega) (by have := h1.1; omega) (by have := h2.1; omega)
end Go.Proofs.YtmnkngmmfnncoaaGreat
namespace Go.Proofs.YtmnkngmmfnncoaaGreat
open Go Go.FW Go.ChangeShapes Go.WideShapes Go.ChangeAt Go.RowKit
set_option linter.unusedSimpArgs false
set_option linter.unusedVariables false
set_option maxRecDepth 100000
theorem Qjv (H : Type) (enc : TypeId × Value -> H) (W : World) (base : Nat) (args : Array Value) (ds gs : List (DataW H)) (before : List MemPlace)
  (Qcl : ∀ (j : Nat) t v, Tryz.f13.params[j]? = some t -> args[j]? = some v -> Value.okWide Tryz.prog W .any base t v)
  (hW : DataW.Whole enc Tryz.prog Tryz.f13.params.toList Rows.pseudoEquationSpec.vars false W args.toList ds gs before) (hk : Rows.uptoSmall H (ds ++ gs) = true) :
  Calls Tryz.prog 13 args W fun e W' => ∃ v, e = .returned v /\ Rows.pseudoEquationSpec.post enc Tryz.prog Tryz.f13 false true false false W args v W' := by
 have hW' := hW
 obtain ⟨p, q, hA0, hV, rfl, hfz, hnd⟩ := hW
 have hA : DataW.TrodAll enc Tryz.prog W 0 (fun _ => true) true Tryz.f13.params.toList args.toList ds p := hA0
 rw [Tryz.params13] at hA Qcl
 obtain ⟨v0, vs0, e0, ds0, p0, q0, hargs, rfl, rfl, h0, r0⟩ := trodAll_cons hA
 obtain ⟨v1, vs1, e1, ds1, p1, q1, rfl, rfl, rfl, h1, r1⟩ := trodAll_cons r0
 obtain ⟨v2, vs2, e2, ds2, p2, q2, rfl, rfl, rfl, h2, r2⟩ := trodAll_cons r1
 obtain ⟨rfl, rfl, rfl⟩ := trodAll_nil r2
 obtain rfl : args = #[v0, v1, v2] := by cases args; simp_all
 obtain ⟨rfl, rfl⟩ := trodVars_none hV
 have hb := Q6c hk
 simp only [List.append_nil, Rows.uptoBulkAll] at hb
 obtain ⟨a0, g0, b0⟩ := Qv8 (Qcl 0 _ v0 rfl rfl) h0 (by omega)
 obtain ⟨a1, g1, b1⟩ := Qv8 (Qcl 1 _ v1 rfl rfl) h1 (by omega)
 obtain ⟨a2, g2, b2⟩ := Qabb (Qcl 2 _ v2 rfl rfl) h2 (by omega)
 exact Q2f hW' rfl (by kernel_rfl) (by kernel_rfl) rfl (Qob b0 b1 b2) rfl
  (Q6d (vs := [v0, v1, v2]) (by
   intro i x hx v hv
   match i, hx, hv with
   | 0, hx, hv => simp at hx hv; subst hx hv; exact g0
   | 1, hx, hv => simp at hx hv; subst hx hv; exact g1
   | 2, hx, hv => simp at hx hv; subst hx hv; exact g2
   | i + 3, hx, hv => simp at hx) rfl)
theorem Qlo (os : Os) (started : os.Started) (H : Type) (enc : TypeId × Value -> H) (F : Stop.Interp) :
  ReturnsInHanded {} Tryz.checked os 13 .any ((Rows.OpenSpec.upto Rows.pseudoEquationSpec).pre6 enc Tryz.prog Tryz.f13 Rows.pseudoEquationUptoRow.domain false) (((Rows.OpenSpec.upto Rows.pseudoEquationSpec).at F).post enc Tryz.prog Tryz.f13 false true false false) := by
 refine returnsInHanded_of_cond (C := Tryz.checked) (s := Rows.OpenSpec.upto Rows.pseudoEquationSpec) (k := Rows.uptoSmall) rfl own started (by kernel_rfl) Tryz.func13
  (OpenSpec.witness (enc := enc) (C := Tryz.checked) (s := Rows.OpenSpec.upto Rows.pseudoEquationSpec) (k := Rows.uptoSmall) rfl false ⟨#[], #[.slice none 0 0, .slice none 0 0, .int .i64 0], []⟩ 8 (by kernel_rfl) (by kernel_rfl) (by kernel_rfl)
   (x := ([.nil, .nil, .lit (.int .i64 0)], [], [])) (by kernel_rfl) rfl (by kernel_rfl)) ?_
 intro W base args ds gs before Qcl hW _ hk _
 exact Qjv H enc W base args ds gs before Qcl hW hk
theorem pseudoEquation_proved : Rows.PseudoEquationUptoSaid :=
 OpenClaim.holds_of_cond 13 Tryz.f13 rfl rfl rfl rfl rfl rfl rfl ⟨rfl, rfl, rfl, rfl, rfl⟩ rfl rfl rfl rfl rfl (by kernel_rfl) Tryz.func13 (by kernel_rfl)
  (of_decide_eq_true (by kernel_rfl)) (by unfold Func.isWrapper; first | (rw [if_pos (by decide +kernel)]; kernel_rfl) | (rw [if_neg (by decide +kernel)]; exact ⟨rfl, rfl⟩))
  (fun os started H enc _ F => Qlo os started H enc F)
end Go.Proofs.YtmnkngmmfnncoaaGreat
