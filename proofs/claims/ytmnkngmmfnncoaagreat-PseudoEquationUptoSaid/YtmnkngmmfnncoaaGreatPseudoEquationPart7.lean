/- Part 7 of the proof of PseudoEquation: W2, W3, CS, S1, S2, S3, S4, S5, S6, S7, S8, S9, T1, T1b, T1c, T1d, U1, U2, P4, U3, CL, U4, U7, U8, U10, W4, W5, FwUD. Own lemmas; no conditions. -/
import Derived.Test.YtmnkngmmfnncoaaGreatPseudoEquationPart6
set_option linter.unusedSimpArgs false
set_option linter.unnecessarySimpa false
set_option linter.unusedVariables false
namespace Go.Proofs.YtmnkngmmfnncoaaGreat
open Go Go.FW
set_option linter.unusedSimpArgs false
set_option linter.unusedVariables false
set_option maxRecDepth 100000
theorem Qwo (v : Nat) (n : Int) (h : n = ((n.toNat : Nat) : Int)) : (List.replicate (v + 1) (0 : Int)).set v n = Qbl v n.toNat := by
 unfold Qbl
 rw [<- h]
 induction v with
 | zero => rfl
 | succ v ih => rw [List.replicate_succ, List.set_cons_succ, ih]; rfl
theorem Qsy {p : List Tm} {v n K E : Nat} (hp : PB K E p) (hv : v < 64) (hn : n <= E) (hK2 : 2 <= K) (hE : E <= 2 ^ 37) (hlp : p.length <= 2 ^ 30) (hK : K <= 2 ^ 32) :
  Qe Tryz.prog 137 [PV.poly p, .int .i64 v, .int .i64 n] (· = PV.poly (Qdu p v n)) := by
 have hlr : v < (List.replicate (v + 1) (0 : Int)).length := by simp
 have hone := Qsq
 have hpm : Qdu p v n = if n = 0 then p else Qad p [(1, Qbl v n)] := rfl
 refine Qg Qk Tryz.func137 rfl Qacm (by simp [Q7r]) fun C hP => ?_; simp only [Q7r]
 simp +decide (disch := first | omega | rfl | (simp +decide only [go_sem, ↓reduceIte] <;> rfl) | fail) only [go_sem, ↓reduceIte]
 refine Q6 (fun h1 => by omega) (fun _ => ?_)
 simp +decide (disch := first | omega | rfl | (simp +decide only [go_sem, ↓reduceIte] <;> rfl) | fail) only [go_sem, ↓reduceIte]
 refine Q6 (fun h1 => by omega) (fun _ => ?_)
 simp +decide (disch := first | omega | rfl | (simp +decide only [go_sem, ↓reduceIte] <;> rfl) | fail) only [go_sem, ↓reduceIte]
 refine Qb (fun h0 => ?_) (fun h0 => ?_)
 ·obtain rfl : n = 0 := by omega
  simp +decide (disch := first | omega | rfl | (simp +decide only [go_sem, ↓reduceIte] <;> rfl) | fail) only [go_sem, ↓reduceIte]
  exact Qc rfl rfl
 simp +decide (disch := first | omega | rfl | (simp +decide only [go_sem, ↓reduceIte] <;> rfl) | fail) only [go_sem, ↓reduceIte]
 rw [Qwo v n (by omega), Int.toNat_natCast]
 have hxl : (Qbl v n).length = v + 1 := by simp [Qbl]
 refine Qa hP (Qie (by omega) (by omega)) rfl rfl rfl ?_
 generalize hc : ((1 : Int) : Rat) = c
 have hc1 : c = 1 := hc.symm
 simp +decide (disch := first | omega | rfl | (simp +decide only [go_sem, ↓reduceIte] <;> rfl) | fail) only [go_sem, ↓reduceIte]
 rw [Qum (p := PV.rat c) (e := 1) (ty := 3) (fz := false) (xs := Qf2 (Qbl v n)) rfl (by simp +decide (disch := first | omega | rfl | (simp +decide only [go_sem, ↓reduceIte] <;> rfl) | fail) only [go_sem, ↓reduceIte]) (by simp [hxl, Qf2])]
 have hb1 : PB K E [(c, Qbl v n)] := fun t ht => by
  obtain rfl : t = (c, Qbl v n) := by simpa using ht
  exact ⟨by show rs c + 1 <= K; rw [hc1]; omega, (Qsx hv).mono hn, Qkk (by omega)⟩
 have hm1 : min p.length [(c, Qbl v n)].length * (K + K) <= 1 * (K + K) := Nat.mul_le_mul_right _ (by simp; omega)
 have hm2 : p.length * [(c, Qbl v n)].length <= p.length := by simp
 rw [if_neg (by omega), <- hc1] at hpm
 simp +decide (disch := first | omega | rfl | (simp +decide only [go_sem, ↓reduceIte] <;> rfl) | fail) only [go_sem, ↓reduceIte]
 refine Qbz hP (Qb4 hp hb1 hE hlp (by simp) (by omega) (by omega) (by omega)) (by simp +decide (disch := first | omega | rfl | (simp +decide only [go_sem, ↓reduceIte, Qd, List.contains_cons, List.contains_nil, List.flatMap_cons, List.flatMap_nil, List.append_nil] <;> rfl) | fail) only [go_sem, ↓reduceIte, Qd, List.contains_cons, List.contains_nil, List.flatMap_cons, List.flatMap_nil, List.append_nil] <;> rfl) rfl ?_
 simp +decide (disch := first | omega | rfl | (simp +decide only [go_sem, ↓reduceIte] <;> rfl) | fail) only [go_sem, ↓reduceIte]
 exact Qc (by rw [hpm]) rfl
end Go.Proofs.YtmnkngmmfnncoaaGreat
namespace Go.Proofs.YtmnkngmmfnncoaaGreat
open Go Go.FW
set_option linter.unusedSimpArgs false
set_option linter.unusedVariables false
set_option maxRecDepth 100000
theorem Qsz {f g : List Tm} {v d N K E M : Nat} (nf : Nrm f) (ng : Nrm g) (bg : PB K E g) (hv : v < 64) (hg0 : g ≠ []) (hd : Qai g v = d) (hN : Qai f v < N) (hfl : Qba f = false)
  (hb : ∀ k, k < N -> PB K E (dvS g v d f k).1 /\ PB K E (dvS g v d f k).2) (hgM : g.length <= M) (hM : M <= 2 ^ 16) (hK : M * (K + K + 2) + (M * (K + K + 2) + (K + 2)) <= 2 ^ 31) (hK2 : 2 <= K) (hM1 : 1 <= M) (hE : E <= 2 ^ 24) (hN1 : 0 < N) (hN2 : N <= 2 ^ 30) :
  Qe Tryz.prog 73 [PV.poly f, PV.poly g, .int .i64 v] (· = Qem g v d N [] f 0) := by
 have hlen : ∀ {p : List Tm}, Qba p = false -> p.length <= 4000 := fun {p} h => by
  unfold Qba at h
  simp only [Bool.or_eq_false_iff, decide_eq_false_iff_not] at h
  omega
 have hKM : K + K + 2 <= M * (K + K + 2) := by have := Nat.mul_le_mul_right (K + K + 2) hM1; omega
 have hKM2 : M * (K + K) <= M * (K + K + 2) := Nat.mul_le_mul_left _ (by omega)
 have hbf : PB K E f := (hb 0 hN1).2
 have hfm : ∀ t ∈ f, MB E t.2 := fun t ht => (hbf t ht).m
 have hfl' := hlen hfl
 have hcl : (Q7 g v d).length <= M := Nat.le_trans (Qcw _ _ _) hgM
 have hcb := Qgg bg v (d : Int)
 refine Qg Qk Tryz.func73 rfl Qwk (by simp [c73]) fun C hP => ?_; simp only [c73]
 simp +decide (disch := first | omega | rfl | (simp +decide only [go_sem, ↓reduceIte] <;> rfl) | fail) only [go_sem, ↓reduceIte, Q2, Qam]
 refine Q6 (fun h1 => by omega) (fun _ => ?_)
 simp +decide (disch := first | omega | rfl | (simp +decide only [go_sem, ↓reduceIte] <;> rfl) | fail) only [go_sem, ↓reduceIte, Q2, Qam]
 refine Qb (fun h1 => by omega) (fun _ => ?_)
 simp +decide (disch := first | omega | rfl | (simp +decide only [go_sem, ↓reduceIte] <;> rfl) | fail) only [go_sem, ↓reduceIte, Q2, Qam]
 refine Qb (fun h1 => absurd (List.length_eq_zero_iff.1 (by omega)) hg0) (fun _ => ?_)
 simp +decide (disch := first | omega | rfl | (simp +decide only [go_sem, ↓reduceIte] <;> rfl) | fail) only [go_sem, ↓reduceIte, Q2, Qam]
 refine Qa hP (Qin hfm (by omega)) rfl rfl rfl ?_
 rw [hfl]
 simp +decide (disch := first | omega | rfl | (simp +decide only [go_sem, ↓reduceIte] <;> rfl) | fail) only [go_sem, ↓reduceIte, Q2, Qam]
 refine Qa hP (Qce bg (by omega)) rfl rfl rfl ?_
 rw [Qfc, hd]
 simp +decide (disch := first | omega | rfl | (simp +decide only [go_sem, ↓reduceIte] <;> rfl) | fail) only [go_sem, ↓reduceIte, Q2, Qam]
 refine Qa hP (Qn1 bg (by omega)) rfl rfl rfl ?_
 rw [Qfc]
 simp +decide (disch := first | omega | rfl | (simp +decide only [go_sem, ↓reduceIte] <;> rfl) | fail) only [go_sem, ↓reduceIte, Q2, Qam]
 refine Qhg 6 4 (by simp +decide (disch := first | omega | rfl | (simp +decide only [go_sem, ↓reduceIte] <;> rfl) | fail) only [go_sem, ↓reduceIte, Q2, Qam]) ?_
 refine Qy (by repeat (first | exact Qv | exact Qp | exact Qq | exact Qr | apply Qo | apply Qu | apply Qz | apply Q8 | apply Q9 | apply Qn)) [(6, 9), (12, 13), (36, 89)] [] (fun m J hp => ∃ k, m = N - k /\ k <= N /\ ((dvS g v d f k).2 ≠ [] -> Qai (dvS g v d f k).2 v < N - k) /\ (∃ K' E', PB K' E' (dvS g v d f k).2 /\ E' <= 2 ^ 30) /\ Qba (dvS g v d f k).1 = false /\ Qba (dvS g v d f k).2 = false /\ Qem g v d (N - k) (dvS g v d f k).1 (dvS g v d f k).2 k = Qem g v d N [] f 0 /\
  J 6 = PV.poly (dvS g v d f k).1 /\ J 7 = PV.poly (dvS g v d f k).2 /\ J 8 = .int .i64 (k : Nat)) N ?_ ?_
 ·refine ⟨0, rfl, by omega, fun _ => by simpa [dvS] using hN, ⟨K, E, hbf, by omega⟩, rfl, hfl, rfl, ?_⟩
  simp +decide (disch := first | omega | rfl | (simp +decide only [go_sem, ↓reduceIte] <;> rfl) | fail) only [go_sem, ↓reduceIte, Q2, Qam]
  exact ⟨rfl, rfl, rfl⟩
 rintro _ J h ⟨k, rfl, hk, hdk, ⟨K', E', hbr, hE'⟩, hl1, hl2, hres, h6, h7, h8⟩
 obtain ⟨n1, n2⟩ := Qlm (v := v) (d := d) nf ng k
 have hst : dvS g v d f (k + 1) = (dvQ (dvS g v d f k).1 (dvS g v d f k).2 g v (Qai (dvS g v d f k).2 v).toNat d, dvR (dvS g v d f k).2 g v (Qai (dvS g v d f k).2 v).toNat d) := rfl
 have hbk := hb k
 generalize (dvS g v d f k).1 = q at *
 generalize (dvS g v d f k).2 = r at *
 have hql := hlen hl1
 have hrl := hlen hl2
 simp +decide (disch := first | omega | rfl | (simp +decide only [go_sem, ↓reduceIte, h6, h7, h8] <;> rfl) | fail) only [go_sem, ↓reduceIte, Q2, Qam, h6, h7, h8]
 refine Qar (fun hg => ?_) (fun hg => ?_)
 ·have hr0 : r ≠ [] := fun h => by rw [h] at hg; simp at hg
  have hrange := Qhk hbr hr0 v
  have hdk' := hdk hr0
  have hkN : k < N := by omega
  obtain ⟨b1, b2⟩ := hbk hkN
  obtain ⟨n, hn⟩ : ∃ n : Nat, Qai r v = n := ⟨(Qai r v).toNat, by omega⟩
  have hnE : n <= E := by have := (Qhk b2 hr0 v).2; omega
  simp +decide (disch := first | omega | rfl | (simp +decide only [go_sem, ↓reduceIte, h6, h7, h8] <;> rfl) | fail) only [go_sem, ↓reduceIte, Q2, Qam, h6, h7, h8]
  refine Qa hP (Qce b2 (by omega)) rfl rfl rfl ?_
  rw [Qfc, hn]
  simp +decide (disch := first | omega | rfl | (simp +decide only [go_sem, ↓reduceIte, h6, h7, h8] <;> rfl) | fail) only [go_sem, ↓reduceIte, Q2, Qam, h6, h7, h8]
  refine Qb (fun hc => ?_) (fun hc => ?_)
  ·have hdn : d <= n := by omega
   have e1 : (n : Int) - (d : Int) = ((n - d : Nat) : Int) := by omega
   have hdeg := Q2s n2 ng b2 hr0 hd (by omega)
   rw [hn, Int.toNat_natCast] at hst hdeg
   obtain ⟨q1, q2, q3, q4, q5, q6, q7, q8⟩ := Q7y (n := n) (d := d) b1 b2 bg hgM hv hnE
   have nb : Nrm (dvB r v n d) := Qf0 (Qci n2 v n) v (n - d)
   have hmr : min (Q7 g v d).length r.length * (K + K) <= M * (K + K) := Nat.mul_le_mul_right _ (by omega)
   have hmq : min (Q7 g v d).length q.length * (K + K) <= M * (K + K) := Nat.mul_le_mul_right _ (by omega)
   have hmb : min (dvB r v n d).length g.length * (K + 2 + (K + 2)) <= M * (K + K + 2) + M * 2 := by
    have := Nat.mul_le_mul_right (K + 2 + (K + 2)) (show min (dvB r v n d).length g.length <= M by omega)
    have e : K + 2 + (K + 2) = K + K + 2 + 2 := by omega
    rw [e] at this ⊢
    rw [<- Nat.mul_add]; exact this
   have hl1 : (Q7 g v d).length * r.length <= 2 ^ 16 * 4000 := Nat.mul_le_mul (by omega) hrl
   have hl2 : (Q7 g v d).length * q.length <= 2 ^ 16 * 4000 := Nat.mul_le_mul (by omega) hql
   have hl3 : (dvB r v n d).length * g.length <= 4000 * 2 ^ 16 := Nat.mul_le_mul (by omega) (by omega)
   have hl4 : M * r.length <= 2 ^ 16 * 4000 := Nat.mul_le_mul (by omega) hrl
   have hl5 : M * q.length <= 2 ^ 16 * 4000 := Nat.mul_le_mul (by omega) hql
   have hl6 : r.length * M <= 4000 * 2 ^ 16 := Nat.mul_le_mul hrl hM
   have hB : Qdu (Q7 r v n) v (n - d) = dvB r v n d := rfl
   simp +decide (disch := first | omega | rfl | (simp +decide only [go_sem, ↓reduceIte, h6, h7, h8] <;> rfl) | fail) only [go_sem, ↓reduceIte, Q2, Qam, h6, h7, h8]
   refine Qa hP (Qce b2 (by omega)) rfl rfl rfl ?_
   rw [Qfc, hn]
   simp +decide (disch := first | omega | rfl | (simp +decide only [go_sem, ↓reduceIte, h6, h7, h8] <;> rfl) | fail) only [go_sem, ↓reduceIte, Q2, Qam, h6, h7, h8]
   refine Qa hP (Qn1 b2 (by omega)) rfl rfl rfl ?_
   rw [Qfc]
   simp +decide (disch := first | omega | rfl | (simp +decide only [go_sem, ↓reduceIte, h6, h7, h8, e1] <;> rfl) | fail) only [go_sem, ↓reduceIte, Q2, Qam, h6, h7, h8, e1]
   refine Qa hP (Qsy (E := E) (K := K) (Qgg b2 v n) hv (by omega) hK2 (by omega) (by have := Qcw r v n; omega) (by omega)) rfl rfl rfl ?_
   rw [hB]
   simp +decide (disch := first | omega | rfl | (simp +decide only [go_sem, ↓reduceIte, h6, h7, h8] <;> rfl) | fail) only [go_sem, ↓reduceIte, Q2, Qam, h6, h7, h8]
   refine Qa hP (Qb4 hcb b1 (by omega) (by omega) (by omega) (by omega) (by omega) (by omega)) rfl rfl rfl ?_
   simp +decide (disch := first | omega | rfl | (simp +decide only [go_sem, ↓reduceIte, h6, h7, h8] <;> rfl) | fail) only [go_sem, ↓reduceIte, Q2, Qam, h6, h7, h8]
   refine Qa hP (Qfz (K := M * (K + K + 2)) (E := E + E) (q3.mono (by omega) (Nat.le_refl _)) (q1.mono (by omega) (Nat.le_refl _)) (by omega) (by omega) (by omega) (by omega)) rfl rfl rfl ?_
   rw [show Q3 (Qad (Q7 g v d) q) (dvB r v n d) = dvQ q r g v n d from rfl]
   simp +decide (disch := first | omega | rfl | (simp +decide only [go_sem, ↓reduceIte, h6, h7, h8] <;> rfl) | fail) only [go_sem, ↓reduceIte, Q2, Qam, h6, h7, h8]
   refine Qa hP (Qb4 hcb b2 (by omega) (by omega) (by omega) (by omega) (by omega) (by omega)) rfl rfl rfl ?_
   simp +decide (disch := first | omega | rfl | (simp +decide only [go_sem, ↓reduceIte, h6, h7, h8] <;> rfl) | fail) only [go_sem, ↓reduceIte, Q2, Qam, h6, h7, h8]
   refine Qa hP (Qb4 (q1.mono (Nat.le_refl _) (by omega)) (bg.mono (K' := K + 2) (E' := E + E) (by omega) (by omega)) (by omega) (by omega) (by omega) (by omega) (by omega) (by omega)) rfl rfl rfl ?_
   simp +decide (disch := first | omega | rfl | (simp +decide only [go_sem, ↓reduceIte, h6, h7, h8] <;> rfl) | fail) only [go_sem, ↓reduceIte, Q2, Qam, h6, h7, h8]
   refine Qa hP (Qgy (K := M * (K + K + 2)) (E := E + E + E) (q5.mono (by omega) (by omega)) q7 (by omega) (by omega) (by omega) (by omega) (by omega)) rfl rfl rfl ?_
   rw [show Qhf (Qad (Q7 g v d) r) (Qad (dvB r v n d) g) = dvR r g v n d from rfl]
   have bQ : PB (M * (K + K) + (K + 2)) (E + E) (dvQ q r g v n d) := Qlg _ _ q3 q1
   have lQ : (dvQ q r g v n d).length <= 2 ^ 33 := Nat.le_trans (Qf5 _ _) (by omega)
   have bR : PB (M * (K + K) + (M * (K + K + 2) + 2)) (E + E + E) (dvR r g v n d) := Qlg _ _ (q5.mono (Nat.le_refl _) (by omega)) (Qsr q7)
   have lR : (dvR r g v n d).length <= 2 ^ 33 := Nat.le_trans (Qf5 _ _) (by have := Qf7 (Qad (dvB r v n d) g) (-1); have e : (Qmf (Qad (dvB r v n d) g)).length = (Qc1 (Qad (dvB r v n d) g) (-1)).length := rfl; omega)
   have hns : ¬ (r = [] ∨ Qai r v < d) := fun h => h.elim hr0 (fun h => by omega)
   have hd1 := Qru (g := g) (k := k) (q := q) (fuel := N - (k + 1)) hns
   have hd2 := Qpi (g := g) (k := k) (q := q) (fuel := N - (k + 1)) hns
   rw [show N - (k + 1) + 1 = N - k by omega, hn, Int.toNat_natCast, hres] at hd1 hd2
   generalize dvQ q r g v n d = q' at *
   generalize dvR r g v n d = r' at *
   simp +decide (disch := first | omega | rfl | (simp +decide only [go_sem, ↓reduceIte, h6, h7, h8] <;> rfl) | fail) only [go_sem, ↓reduceIte, Q2, Qam, h6, h7, h8]
   refine Qa hP (Qin (fun t ht => (bQ t ht).m) (by omega)) rfl rfl rfl ?_
   cases hlq : Qba q'
   ·simp +decide (disch := first | omega | rfl | (simp +decide only [go_sem, ↓reduceIte, h6, h7, h8] <;> rfl) | fail) only [go_sem, ↓reduceIte, Q2, Qam, h6, h7, h8]
    refine Qa hP (Qin (fun t ht => (bR t ht).m) (by omega)) rfl rfl rfl ?_
    cases hlr : Qba r'
    ·simp +decide (disch := first | omega | rfl | (simp +decide only [go_sem, ↓reduceIte, h6, h7, h8] <;> rfl) | fail) only [go_sem, ↓reduceIte, Q2, Qam, h6, h7, h8]
     refine Qa hP (Qce bR (by omega)) rfl rfl rfl ?_
     rw [Qfc]
     have hd1' := hd1 (by simp [hlq, hlr])
     have hge : ¬ ((n : Int) <= Qai r' v) := by omega
     simp +decide (disch := first | omega | rfl | (simp +decide only [go_sem, ↓reduceIte, h6, h7, h8, hge] <;> rfl) | fail) only [go_sem, ↓reduceIte, Q2, Qam, h6, h7, h8, hge]
     refine Ql (N - (k + 1)) (by omega) ⟨k + 1, rfl, by omega, ?_⟩
     rw [hst]
     refine ⟨fun _ => ?_, ⟨_, _, bR, by omega⟩, hlq, hlr, hd1'.symm, ?_⟩
     ·show Qai r' v < (N : Int) - ((k + 1 : Nat) : Int)
      omega
     simp +decide (disch := first | omega | rfl | (simp +decide only [go_sem, ↓reduceIte] <;> rfl) | fail) only [go_sem, ↓reduceIte, Q2, Qam]
    ·have hd2' := hd2 (.inr hlr)
     simp +decide (disch := first | omega | rfl | (simp +decide only [go_sem, ↓reduceIte] <;> rfl) | fail) only [go_sem, ↓reduceIte, Q2, Qam]
     exact Qqb hd2' rfl rfl rfl rfl Qc4 Qc4 (Qt _) (Qt _)
   ·have hd2' := hd2 (.inl hlq)
    simp +decide (disch := first | omega | rfl | (simp +decide only [go_sem, ↓reduceIte] <;> rfl) | fail) only [go_sem, ↓reduceIte, Q2, Qam]
    exact Qqb hd2' rfl rfl rfl rfl Qc4 Qc4 (Qt _) (Qt _)
  ·have hd1 := Qmu (g := g) (q := q) (k := k) (show r = [] ∨ Qai r v < d from .inr (by omega)) (N - k)
   rw [hres] at hd1
   simp +decide (disch := first | omega | rfl | (simp +decide only [go_sem, ↓reduceIte, h6, h7, h8] <;> rfl) | fail) only [go_sem, ↓reduceIte, Q2, Qam, h6, h7, h8]
   exact Qqb hd1 rfl rfl rfl rfl (Qt _) (Qt _) (Qt _) (Qt _)
 ·have hr0 : r = [] := List.length_eq_zero_iff.1 (by omega)
  have hd1 := Qmu (g := g) (q := q) (k := k) (show r = [] ∨ Qai r v < d from .inl hr0) (N - k)
  rw [hres] at hd1
  simp +decide (disch := first | omega | rfl | (simp +decide only [go_sem, ↓reduceIte, h6, h7, h8] <;> rfl) | fail) only [go_sem, ↓reduceIte, Q2, Qam, h6, h7, h8]
  exact Qqb hd1 rfl rfl rfl rfl (Qt _) (Qt _) (Qt _) (Qt _)
end Go.Proofs.YtmnkngmmfnncoaaGreat
namespace Go.Proofs.YtmnkngmmfnncoaaGreat
open Go Go.FW
set_option maxRecDepth 100000
def Q7z : SFn := ⟨24, [.t 2], .seq (.rg (.o none (.mv 2 (.c .nilS)) .nil)) <| .seq (.rg (.o none (.mv 5 (.t 0)) <|
 .o none (.len 6 (.t 5)) <|
 .o none (.mv 3 (.t 6)) .nil)) <| .seq (.block 0 (.loop (.seq (.seq (.rg (.o none (.mv 7 (.t 3)) <|
 .o none (.bin 8 .gtr false (.t 7) (.c (.int .i64 0))) <|
 .o none (.mv 9 (.t 8)) <|
 .o (some (9, true)) (.mv 10 (.t 0)) <|
 .o (some (9, true)) (.mv 11 (.t 3)) <|
 .o (some (9, true)) (.bin 12 .sub false (.t 11) (.c (.int .i64 1))) <|
 .o (some (9, true)) (.idx 13 1 (.t 10) (.t 12)) <|
 .o (some (9, true)) (.ld 14 1 false (.t 13)) <|
 .o (some (9, true)) (.bin 15 .eql false (.t 14) (.c (.int .u16 0))) <|
 .o none (.pick 16 (.t 9) (.t 15) (.c (.bool false))) .nil)) <| .cond (.t 16) (.skip) (.exit 0)) <| .block 1 (.rg (.o none (.mv 17 (.t 3)) <|
 .o none (.bin 18 .sub false (.t 17) (.c (.int .i64 1))) <|
 .o none (.mv 3 (.t 18)) .nil))))) <| .seq (.rg (.o none (.mv 4 (.c .nilS)) .nil)) <| .seq (.rg (.o none (.mv 19 (.t 4)) <|
 .o none (.mv 20 (.t 0)) <|
 .o none (.mv 21 (.t 3)) <|
 .o none (.sl 22 1 (.t 20) none (some (.t 21)) none) <|
 .o none (.app 23 1 2 156 (.t 19) (.t 22)) <|
 .o none (.mv 2 (.t 23)) .nil)) <| .ret⟩
theorem Qacs : Qf Tryz.prog Tryz.f167 = some Q7z := by kernel_rfl
def Q70 : SFn := ⟨15, [.t 2], .seq (.rg (.o none (.mv 2 (.c .nilS)) .nil)) <| .seq (.rg (.o none (.mv 3 (.c .nilS)) .nil)) <| .seq (.block 0 (.loop (.seq (.seq (.rg (.o none (.mv 4 (.t 0)) <|
 .o none (.bin 5 .gtr false (.t 4) (.c (.int .u64 0))) .nil)) <| .cond (.t 5) (.skip) (.exit 0)) <| .block 1 (.seq (.rg (.o none (.mv 6 (.t 3)) <|
 .o none (.mv 7 (.t 0)) <|
 .o none (.bin 8 .rem false (.t 7) (.c (.int .u64 65536))) <|
 .o none (.conv 9 .u16 (.t 8)) <|
 .o none (.bs 10 1 156 [(.t 9)]) <|
 .o none (.app 11 1 2 156 (.t 6) (.t 10)) <|
 .o none (.mv 3 (.t 11)) .nil)) <| .rg (.o none (.mv 12 (.t 0)) <|
 .o none (.bin 13 .quo false (.t 12) (.c (.int .u64 65536))) <|
 .o none (.mv 0 (.t 13)) .nil))))) <| .seq (.rg (.o none (.mv 14 (.t 3)) <|
 .o none (.mv 2 (.t 14)) .nil)) <| .ret⟩
theorem Qact : Qf Tryz.prog Tryz.f106 = some Q70 := by kernel_rfl
def Q71 : SFn := ⟨21, [.t 2], .seq (.rg (.o none (.mv 2 (.c (.int .u64 0))) .nil)) <| .seq (.rg (.o none (.mv 3 (.c (.int .u64 0))) .nil)) <| .seq (.seq (.rg (.o none (.mv 5 (.t 0)) <|
 .o none (.len 6 (.t 5)) <|
 .o none (.bin 7 .sub false (.t 6) (.c (.int .i64 1))) <|
 .o none (.mv 4 (.t 7)) .nil)) <| .block 0 (.loop (.seq (.seq (.rg (.o none (.mv 8 (.t 4)) <|
 .o none (.bin 9 .geq false (.t 8) (.c (.int .i64 0))) .nil)) <| .cond (.t 9) (.skip) (.exit 0)) <| .seq (.block 1 (.rg (.o none (.mv 12 (.t 3)) <|
 .o none (.bin 13 .mul false (.t 12) (.c (.int .u64 65536))) <|
 .o none (.mv 14 (.t 0)) <|
 .o none (.mv 15 (.t 4)) <|
 .o none (.idx 16 1 (.t 14) (.t 15)) <|
 .o none (.ld 17 1 false (.t 16)) <|
 .o none (.conv 18 .u64 (.t 17)) <|
 .o none (.bin 19 .add false (.t 13) (.t 18)) <|
 .o none (.mv 3 (.t 19)) .nil))) <| .rg (.o none (.mv 10 (.t 4)) <|
 .o none (.bin 11 .sub false (.t 10) (.c (.int .i64 1))) <|
 .o none (.mv 4 (.t 11)) .nil)))) <| .seq (.rg (.o none (.mv 20 (.t 3)) <|
 .o none (.mv 2 (.t 20)) .nil)) <| .ret⟩
theorem Qacu : Qf Tryz.prog Tryz.f209 = some Q71 := by kernel_rfl
def Q72 : SFn := ⟨14, [.t 4], .seq (.rg (.o none (.mv 4 (.c (.int .i64 0))) .nil)) <| .seq (.seq (.rg (.o none (.mv 5 (.t 1)) <|
 .o none (.mv 6 (.t 0)) <|
 .o none (.len 7 (.t 6)) <|
 .o none (.bin 8 .lss false (.t 5) (.t 7)) .nil)) <| .cond (.t 8) (.seq (.rg (.o none (.mv 9 (.t 0)) <|
 .o none (.mv 10 (.t 1)) <|
 .o none (.idx 11 1 (.t 9) (.t 10)) <|
 .o none (.ld 12 1 false (.t 11)) <|
 .o none (.conv 13 .i64 (.t 12)) <|
 .o none (.mv 4 (.t 13)) .nil)) <| .ret) (.skip)) <| .seq (.rg (.o none (.mv 4 (.c (.int .i64 0))) .nil)) <| .ret⟩
theorem Qacv : Qf Tryz.prog Tryz.f206 = some Q72 := by kernel_rfl
def Q73 : SFn := ⟨30, [.t 4], .seq (.rg (.o none (.mv 4 (.c (.int .i64 0))) .nil)) <| .seq (.seq (.rg (.o none (.mv 6 (.t 0)) <|
 .o none (.len 7 (.t 6)) <|
 .o none (.mv 8 (.t 1)) <|
 .o none (.len 9 (.t 8)) <|
 .o none (.mx 10 (.t 7) (.t 9)) <|
 .o none (.bin 11 .sub false (.t 10) (.c (.int .i64 1))) <|
 .o none (.mv 5 (.t 11)) .nil)) <| .block 0 (.loop (.seq (.seq (.rg (.o none (.mv 12 (.t 5)) <|
 .o none (.bin 13 .geq false (.t 12) (.c (.int .i64 0))) .nil)) <| .cond (.t 13) (.skip) (.exit 0)) <| .seq (.block 1 (.seq (.seq (.rg (.o none (.mv 16 (.t 0)) <|
 .o none (.mv 17 (.t 5)) <|
 .o none (.call (some 18) false (.c (.fn 206 [] [])) [(.t 16), (.t 17)]) <|
 .o none (.mv 19 (.t 1)) <|
 .o none (.mv 20 (.t 5)) <|
 .o none (.call (some 21) false (.c (.fn 206 [] [])) [(.t 19), (.t 20)]) <|
 .o none (.bin 22 .lss false (.t 18) (.t 21)) .nil)) <| .cond (.t 22) (.seq (.rg (.o none (.mv 4 (.c (.int .i64 (-1)))) .nil)) <| .ret) (.skip)) <| .seq (.rg (.o none (.mv 23 (.t 0)) <|
 .o none (.mv 24 (.t 5)) <|
 .o none (.call (some 25) false (.c (.fn 206 [] [])) [(.t 23), (.t 24)]) <|
 .o none (.mv 26 (.t 1)) <|
 .o none (.mv 27 (.t 5)) <|
 .o none (.call (some 28) false (.c (.fn 206 [] [])) [(.t 26), (.t 27)]) <|
 .o none (.bin 29 .gtr false (.t 25) (.t 28)) .nil)) <| .cond (.t 29) (.seq (.rg (.o none (.mv 4 (.c (.int .i64 1))) .nil)) <| .ret) (.skip))) <| .rg (.o none (.mv 14 (.t 5)) <|
 .o none (.bin 15 .sub false (.t 14) (.c (.int .i64 1))) <|
 .o none (.mv 5 (.t 15)) .nil)))) <| .seq (.rg (.o none (.mv 4 (.c (.int .i64 0))) .nil)) <| .ret⟩
theorem Qacw : Qf Tryz.prog Tryz.f224 = some Q73 := by kernel_rfl
def Q74 : SFn := ⟨44, [.t 4], .seq (.rg (.o none (.mv 4 (.c .nilS)) .nil)) <| .seq (.rg (.o none (.mv 5 (.c .nilS)) .nil)) <| .seq (.rg (.o none (.mv 6 (.c (.int .i64 0))) .nil)) <| .seq (.seq (.rg (.o none (.mv 7 (.c (.int .i64 0))) .nil)) <| .block 0 (.loop (.seq (.seq (.rg (.o none (.mv 9 (.t 7)) <|
 .o none (.mv 10 (.t 0)) <|
 .o none (.len 11 (.t 10)) <|
 .o none (.bin 12 .lss false (.t 9) (.t 11)) <|
 .o none (.mv 13 (.t 12)) <|
 .o (some (13, false)) (.mv 14 (.t 7)) <|
 .o (some (13, false)) (.mv 15 (.t 1)) <|
 .o (some (13, false)) (.len 16 (.t 15)) <|
 .o (some (13, false)) (.bin 17 .lss false (.t 14) (.t 16)) <|
 .o none (.pick 18 (.t 13) (.c (.bool true)) (.t 17)) <|
 .o none (.mv 19 (.t 18)) <|
 .o (some (19, false)) (.mv 20 (.t 6)) <|
 .o (some (19, false)) (.bin 21 .gtr false (.t 20) (.c (.int .i64 0))) <|
 .o none (.pick 22 (.t 19) (.c (.bool true)) (.t 21)) .nil)) <| .cond (.t 22) (.skip) (.exit 0)) <| .seq (.block 1 (.seq (.rg (.o none (.mv 25 (.t 0)) <|
 .o none (.mv 26 (.t 7)) <|
 .o none (.call (some 27) false (.c (.fn 206 [] [])) [(.t 25), (.t 26)]) <|
 .o none (.mv 28 (.t 1)) <|
 .o none (.mv 29 (.t 7)) <|
 .o none (.call (some 30) false (.c (.fn 206 [] [])) [(.t 28), (.t 29)]) <|
 .o none (.bin 31 .add false (.t 27) (.t 30)) <|
 .o none (.mv 32 (.t 6)) <|
 .o none (.bin 33 .add false (.t 31) (.t 32)) <|
 .o none (.mv 8 (.t 33)) .nil)) <| .seq (.rg (.o none (.mv 34 (.t 5)) <|
 .o none (.mv 35 (.t 8)) <|
 .o none (.bin 36 .rem false (.t 35) (.c (.int .i64 65536))) <|
 .o none (.conv 37 .u16 (.t 36)) <|
 .o none (.bs 38 1 156 [(.t 37)]) <|
 .o none (.app 39 1 2 156 (.t 34) (.t 38)) <|
 .o none (.mv 5 (.t 39)) .nil)) <| .rg (.o none (.mv 40 (.t 8)) <|
 .o none (.bin 41 .quo false (.t 40) (.c (.int .i64 65536))) <|
 .o none (.mv 6 (.t 41)) .nil))) <| .rg (.o none (.mv 23 (.t 7)) <|
 .o none (.bin 24 .add false (.t 23) (.c (.int .i64 1))) <|
 .o none (.mv 7 (.t 24)) .nil)))) <| .seq (.rg (.o none (.mv 42 (.t 5)) <|
 .o none (.call (some 43) false (.c (.fn 167 [] [])) [(.t 42)]) <|
 .o none (.mv 4 (.t 43)) .nil)) <| .ret⟩
theorem Qacx : Qf Tryz.prog Tryz.f171 = some Q74 := by kernel_rfl
def Q75 : SFn := ⟨40, [.t 4, .t 5], .seq (.rg (.o none (.mv 4 (.c .nilS)) <|
 .o none (.mv 5 (.c (.int .i64 0))) .nil)) <| .seq (.seq (.rg (.o none (.mv 10 (.t 0)) <|
 .o none (.mv 11 (.t 1)) <|
 .o none (.call (some 12) false (.c (.fn 224 [] [])) [(.t 10), (.t 11)]) <|
 .o none (.bin 13 .lss false (.t 12) (.c (.int .i64 0))) .nil)) <| .cond (.t 13) (.seq (.rg (.o none (.mv 4 (.c .nilS)) <|
 .o none (.mv 5 (.c (.int .i64 2))) .nil)) <| .ret) (.skip)) <| .seq (.rg (.o none (.mv 6 (.c .nilS)) .nil)) <| .seq (.rg (.o none (.mv 7 (.c (.int .i64 0))) .nil)) <| .seq (.seq (.rg (.o none (.mv 8 (.c (.int .i64 0))) .nil)) <| .block 0 (.loop (.seq (.seq (.rg (.o none (.mv 14 (.t 8)) <|
 .o none (.mv 15 (.t 0)) <|
 .o none (.len 16 (.t 15)) <|
 .o none (.bin 17 .lss false (.t 14) (.t 16)) .nil)) <| .cond (.t 17) (.skip) (.exit 0)) <| .seq (.block 1 (.seq (.rg (.o none (.mv 20 (.t 0)) <|
 .o none (.mv 21 (.t 8)) <|
 .o none (.call (some 22) false (.c (.fn 206 [] [])) [(.t 20), (.t 21)]) <|
 .o none (.mv 23 (.t 1)) <|
 .o none (.mv 24 (.t 8)) <|
 .o none (.call (some 25) false (.c (.fn 206 [] [])) [(.t 23), (.t 24)]) <|
 .o none (.bin 26 .sub false (.t 22) (.t 25)) <|
 .o none (.mv 27 (.t 7)) <|
 .o none (.bin 28 .sub false (.t 26) (.t 27)) <|
 .o none (.mv 9 (.t 28)) .nil)) <| .seq (.rg (.o none (.mv 7 (.c (.int .i64 0))) .nil)) <| .seq (.seq (.rg (.o none (.mv 29 (.t 9)) <|
 .o none (.bin 30 .lss false (.t 29) (.c (.int .i64 0))) .nil)) <| .cond (.t 30) (.seq (.rg (.o none (.mv 31 (.t 9)) <|
 .o none (.bin 32 .add false (.t 31) (.c (.int .i64 65536))) <|
 .o none (.mv 9 (.t 32)) .nil)) <| .rg (.o none (.mv 7 (.c (.int .i64 1))) .nil)) (.skip)) <| .rg (.o none (.mv 33 (.t 6)) <|
 .o none (.mv 34 (.t 9)) <|
 .o none (.conv 35 .u16 (.t 34)) <|
 .o none (.bs 36 1 156 [(.t 35)]) <|
 .o none (.app 37 1 2 156 (.t 33) (.t 36)) <|
 .o none (.mv 6 (.t 37)) .nil))) <| .rg (.o none (.mv 18 (.t 8)) <|
 .o none (.bin 19 .add false (.t 18) (.c (.int .i64 1))) <|
 .o none (.mv 8 (.t 19)) .nil)))) <| .seq (.rg (.o none (.mv 38 (.t 6)) <|
 .o none (.call (some 39) false (.c (.fn 167 [] [])) [(.t 38)]) <|
 .o none (.mv 4 (.t 39)) <|
 .o none (.mv 5 (.c (.int .i64 0))) .nil)) <| .ret⟩
theorem Qacy : Qf Tryz.prog Tryz.f208 = some Q75 := by kernel_rfl
def Q76 : SFn := ⟨65, [.t 4], .seq (.rg (.o none (.mv 4 (.c .nilS)) .nil)) <| .seq (.rg (.o none (.mv 10 (.t 0)) <|
 .o none (.len 11 (.t 10)) <|
 .o none (.mv 12 (.t 1)) <|
 .o none (.len 13 (.t 12)) <|
 .o none (.bin 14 .add false (.t 11) (.t 13)) <|
 .o none (.bin 15 .add false (.t 14) (.c (.int .i64 1))) <|
 .o none (.mk 16 1 2 156 (.int .u16 0) (.t 15) (.t 15)) <|
 .o none (.mv 5 (.t 16)) .nil)) <| .seq (.seq (.rg (.o none (.mv 6 (.c (.int .i64 0))) .nil)) <| .block 0 (.loop (.seq (.seq (.rg (.o none (.mv 17 (.t 6)) <|
 .o none (.mv 18 (.t 0)) <|
 .o none (.len 19 (.t 18)) <|
 .o none (.bin 20 .lss false (.t 17) (.t 19)) .nil)) <| .cond (.t 20) (.skip) (.exit 0)) <| .seq (.block 1 (.seq (.rg (.o none (.mv 7 (.c (.int .u64 0))) .nil)) <| .seq (.rg (.o none (.mv 8 (.c (.int .i64 0))) .nil)) <| .block 2 (.loop (.seq (.seq (.rg (.o none (.mv 23 (.t 8)) <|
 .o none (.mv 24 (.t 1)) <|
 .o none (.len 25 (.t 24)) <|
 .o none (.bin 26 .lss false (.t 23) (.t 25)) <|
 .o none (.mv 27 (.t 26)) <|
 .o (some (27, false)) (.mv 28 (.t 7)) <|
 .o (some (27, false)) (.bin 29 .gtr false (.t 28) (.c (.int .u64 0))) <|
 .o none (.pick 30 (.t 27) (.c (.bool true)) (.t 29)) .nil)) <| .cond (.t 30) (.skip) (.exit 2)) <| .seq (.block 3 (.seq (.rg (.o none (.mv 33 (.t 5)) <|
 .o none (.mv 34 (.t 6)) <|
 .o none (.mv 35 (.t 8)) <|
 .o none (.bin 36 .add false (.t 34) (.t 35)) <|
 .o none (.idx 37 1 (.t 33) (.t 36)) <|
 .o none (.ld 38 1 false (.t 37)) <|
 .o none (.conv 39 .u64 (.t 38)) <|
 .o none (.mv 40 (.t 0)) <|
 .o none (.mv 41 (.t 6)) <|
 .o none (.idx 42 1 (.t 40) (.t 41)) <|
 .o none (.ld 43 1 false (.t 42)) <|
 .o none (.conv 44 .u64 (.t 43)) <|
 .o none (.mv 45 (.t 1)) <|
 .o none (.mv 46 (.t 8)) <|
 .o none (.mv 51 (.t 7)) <|
 .o none (.call (some 47) true (.c (.fn 206 [] [])) [(.t 45), (.t 46)]) <|
 .o none (.conv 48 .u64 (.t 47)) <|
 .o none (.bin 49 .mul false (.t 44) (.t 48)) <|
 .o none (.bin 50 .add false (.t 39) (.t 49)) <|
 .o none (.bin 52 .add false (.t 50) (.t 51)) <|
 .o none (.mv 9 (.t 52)) .nil)) <| .seq (.rg (.o none (.mv 53 (.t 5)) <|
 .o none (.mv 54 (.t 6)) <|
 .o none (.mv 55 (.t 8)) <|
 .o none (.bin 56 .add false (.t 54) (.t 55)) <|
 .o none (.mv 57 (.t 9)) <|
 .o none (.bin 58 .rem false (.t 57) (.c (.int .u64 65536))) <|
 .o none (.conv 59 .u16 (.t 58)) <|
 .o none (.idx 60 1 (.t 53) (.t 56)) <|
 .o none (.st 1 (.t 60) (.t 59)) .nil)) <| .rg (.o none (.mv 61 (.t 9)) <|
 .o none (.bin 62 .quo false (.t 61) (.c (.int .u64 65536))) <|
 .o none (.mv 7 (.t 62)) .nil))) <| .rg (.o none (.mv 31 (.t 8)) <|
 .o none (.bin 32 .add false (.t 31) (.c (.int .i64 1))) <|
 .o none (.mv 8 (.t 32)) .nil))))) <| .rg (.o none (.mv 21 (.t 6)) <|
 .o none (.bin 22 .add false (.t 21) (.c (.int .i64 1))) <|
 .o none (.mv 6 (.t 22)) .nil)))) <| .seq (.rg (.o none (.mv 63 (.t 5)) <|
 .o none (.call (some 64) false (.c (.fn 167 [] [])) [(.t 63)]) <|
 .o none (.mv 4 (.t 64)) .nil)) <| .ret⟩
theorem Qacz : Qf Tryz.prog Tryz.f160 = some Q76 := by kernel_rfl
def Q77 : SFn := ⟨27, [.t 4], .seq (.rg (.o none (.mv 4 (.c (.int .u64 0))) .nil)) <| .seq (.rg (.o none (.mv 5 (.c (.int .u64 0))) <|
 .o none (.mv 6 (.c (.int .u64 65535))) .nil)) <| .seq (.block 0 (.loop (.seq (.seq (.rg (.o none (.mv 8 (.t 5)) <|
 .o none (.mv 9 (.t 6)) <|
 .o none (.bin 10 .lss false (.t 8) (.t 9)) .nil)) <| .cond (.t 10) (.skip) (.exit 0)) <| .block 1 (.seq (.rg (.o none (.mv 11 (.t 5)) <|
 .o none (.mv 12 (.t 6)) <|
 .o none (.bin 13 .add false (.t 11) (.t 12)) <|
 .o none (.bin 14 .add false (.t 13) (.c (.int .u64 1))) <|
 .o none (.bin 15 .quo false (.t 14) (.c (.int .u64 2))) <|
 .o none (.mv 7 (.t 15)) .nil)) <| .seq (.rg (.o none (.mv 16 (.t 1)) <|
 .o none (.mv 17 (.t 7)) <|
 .o none (.call (some 18) false (.c (.fn 106 [] [])) [(.t 17)]) <|
 .o none (.call (some 19) false (.c (.fn 160 [] [])) [(.t 16), (.t 18)]) <|
 .o none (.mv 20 (.t 0)) <|
 .o none (.call (some 21) false (.c (.fn 224 [] [])) [(.t 19), (.t 20)]) <|
 .o none (.bin 22 .leq false (.t 21) (.c (.int .i64 0))) .nil)) <| .cond (.t 22) (.rg (.o none (.mv 23 (.t 7)) <|
 .o none (.mv 5 (.t 23)) .nil)) (.rg (.o none (.mv 24 (.t 7)) <|
 .o none (.bin 25 .sub false (.t 24) (.c (.int .u64 1))) <|
 .o none (.mv 6 (.t 25)) .nil)))))) <| .seq (.rg (.o none (.mv 26 (.t 5)) <|
 .o none (.mv 4 (.t 26)) .nil)) <| .ret⟩
theorem Qac0 : Qf Tryz.prog Tryz.f210 = some Q77 := by kernel_rfl
def Q78 : SFn := ⟨73, [.t 4, .t 5, .t 6], .seq (.rg (.o none (.mv 4 (.c .nilS)) <|
 .o none (.mv 5 (.c .nilS)) <|
 .o none (.mv 6 (.c (.int .i64 0))) .nil)) <| .seq (.rg (.o none (.mv 11 (.t 0)) <|
 .o none (.call (some 12) false (.c (.fn 167 [] [])) [(.t 11)]) <|
 .o none (.mv 13 (.t 1)) <|
 .o none (.call (some 14) false (.c (.fn 167 [] [])) [(.t 13)]) <|
 .o none (.mv 0 (.t 12)) <|
 .o none (.mv 1 (.t 14)) .nil)) <| .seq (.seq (.rg (.o none (.mv 15 (.t 1)) <|
 .o none (.len 16 (.t 15)) <|
 .o none (.bin 17 .eql false (.t 16) (.c (.int .i64 0))) .nil)) <| .cond (.t 17) (.seq (.rg (.o none (.mv 4 (.c .nilS)) <|
 .o none (.mv 5 (.c .nilS)) <|
 .o none (.mv 6 (.c (.int .i64 3))) .nil)) <| .ret) (.skip)) <| .seq (.seq (.rg (.o none (.mv 18 (.t 0)) <|
 .o none (.len 19 (.t 18)) <|
 .o none (.bin 20 .leq false (.t 19) (.c (.int .i64 4))) <|
 .o none (.mv 21 (.t 20)) <|
 .o (some (21, true)) (.mv 22 (.t 1)) <|
 .o (some (21, true)) (.len 23 (.t 22)) <|
 .o (some (21, true)) (.bin 24 .leq false (.t 23) (.c (.int .i64 4))) <|
 .o none (.pick 25 (.t 21) (.t 24) (.c (.bool false))) .nil)) <| .cond (.t 25) (.seq (.rg (.o none (.mv 26 (.t 0)) <|
 .o none (.call (some 27) false (.c (.fn 209 [] [])) [(.t 26)]) <|
 .o none (.mv 28 (.t 1)) <|
 .o none (.call (some 29) false (.c (.fn 209 [] [])) [(.t 28)]) <|
 .o none (.bin 30 .quo false (.t 27) (.t 29)) <|
 .o none (.call (some 31) false (.c (.fn 106 [] [])) [(.t 30)]) <|
 .o none (.mv 32 (.t 0)) <|
 .o none (.call (some 33) false (.c (.fn 209 [] [])) [(.t 32)]) <|
 .o none (.mv 34 (.t 1)) <|
 .o none (.call (some 35) false (.c (.fn 209 [] [])) [(.t 34)]) <|
 .o none (.bin 36 .rem false (.t 33) (.t 35)) <|
 .o none (.call (some 37) false (.c (.fn 106 [] [])) [(.t 36)]) <|
 .o none (.mv 4 (.t 31)) <|
 .o none (.mv 5 (.t 37)) <|
 .o none (.mv 6 (.c (.int .i64 0))) .nil)) <| .ret) (.skip)) <| .seq (.rg (.o none (.mv 7 (.c .nilS)) <|
 .o none (.mv 8 (.c .nilS)) .nil)) <| .seq (.seq (.rg (.o none (.mv 38 (.t 0)) <|
 .o none (.len 39 (.t 38)) <|
 .o none (.bin 40 .sub false (.t 39) (.c (.int .i64 1))) <|
 .o none (.mv 9 (.t 40)) .nil)) <| .block 0 (.loop (.seq (.seq (.rg (.o none (.mv 41 (.t 9)) <|
 .o none (.bin 42 .geq false (.t 41) (.c (.int .i64 0))) .nil)) <| .cond (.t 42) (.skip) (.exit 0)) <| .seq (.block 1 (.seq (.rg (.o none (.mv 45 (.t 0)) <|
 .o none (.mv 46 (.t 9)) <|
 .o none (.idx 47 1 (.t 45) (.t 46)) <|
 .o none (.ld 48 1 false (.t 47)) <|
 .o none (.bs 49 1 156 [(.t 48)]) <|
 .o none (.mv 50 (.t 8)) <|
 .o none (.app 51 1 2 156 (.t 49) (.t 50)) <|
 .o none (.call (some 52) false (.c (.fn 167 [] [])) [(.t 51)]) <|
 .o none (.mv 8 (.t 52)) .nil)) <| .seq (.rg (.o none (.mv 53 (.t 8)) <|
 .o none (.mv 54 (.t 1)) <|
 .o none (.call (some 55) false (.c (.fn 210 [] [])) [(.t 53), (.t 54)]) <|
 .o none (.mv 10 (.t 55)) .nil)) <| .seq (.rg (.o none (.mv 56 (.t 10)) <|
 .o none (.conv 57 .u16 (.t 56)) <|
 .o none (.bs 58 1 156 [(.t 57)]) <|
 .o none (.mv 59 (.t 7)) <|
 .o none (.app 60 1 2 156 (.t 58) (.t 59)) <|
 .o none (.mv 7 (.t 60)) .nil)) <| .rg (.o none (.mv 62 (.t 8)) <|
 .o none (.mv 63 (.t 1)) <|
 .o none (.mv 64 (.t 10)) <|
 .o none (.call (some 65) false (.c (.fn 106 [] [])) [(.t 64)]) <|
 .o none (.call (some 66) false (.c (.fn 160 [] [])) [(.t 63), (.t 65)]) <|
 .o none (.call (some 67) false (.c (.fn 208 [] [])) [(.t 62), (.t 66)]) <|
 .o none (.mv 61 (.t 67)) <|
 .o none (.ext 68 (.t 61) 0) <|
 .o none (.ext 69 (.t 61) 1) <|
 .o none (.mv 8 (.t 68)) .nil))) <| .rg (.o none (.mv 43 (.t 9)) <|
 .o none (.bin 44 .sub false (.t 43) (.c (.int .i64 1))) <|
 .o none (.mv 9 (.t 44)) .nil)))) <| .seq (.rg (.o none (.mv 70 (.t 7)) <|
 .o none (.call (some 71) false (.c (.fn 167 [] [])) [(.t 70)]) <|
 .o none (.mv 72 (.t 8)) <|
 .o none (.mv 4 (.t 71)) <|
 .o none (.mv 5 (.t 72)) <|
 .o none (.mv 6 (.c (.int .i64 0))) .nil)) <| .ret⟩
theorem Qac1 : Qf Tryz.prog Tryz.f168 = some Q78 := by kernel_rfl
def Q79 : SFn := ⟨25, [.t 4], .seq (.rg (.o none (.mv 4 (.c .nilS)) .nil)) <| .seq (.rg (.o none (.mv 8 (.t 0)) <|
 .o none (.call (some 9) false (.c (.fn 167 [] [])) [(.t 8)]) <|
 .o none (.mv 10 (.t 1)) <|
 .o none (.call (some 11) false (.c (.fn 167 [] [])) [(.t 10)]) <|
 .o none (.mv 0 (.t 9)) <|
 .o none (.mv 1 (.t 11)) .nil)) <| .seq (.block 0 (.loop (.seq (.seq (.rg (.o none (.mv 12 (.t 1)) <|
 .o none (.len 13 (.t 12)) <|
 .o none (.bin 14 .gtr false (.t 13) (.c (.int .i64 0))) .nil)) <| .cond (.t 14) (.skip) (.exit 0)) <| .block 1 (.seq (.rg (.o none (.mv 16 (.t 0)) <|
 .o none (.mv 17 (.t 1)) <|
 .o none (.call (some 18) false (.c (.fn 168 [] [])) [(.t 16), (.t 17)]) <|
 .o none (.mv 15 (.t 18)) <|
 .o none (.ext 19 (.t 15) 0) <|
 .o none (.ext 20 (.t 15) 1) <|
 .o none (.ext 21 (.t 15) 2) <|
 .o none (.mv 5 (.t 19)) <|
 .o none (.mv 6 (.t 20)) <|
 .o none (.mv 7 (.t 21)) .nil)) <| .rg (.o none (.mv 22 (.t 1)) <|
 .o none (.mv 23 (.t 6)) <|
 .o none (.mv 0 (.t 22)) <|
 .o none (.mv 1 (.t 23)) .nil))))) <| .seq (.rg (.o none (.mv 24 (.t 0)) <|
 .o none (.mv 4 (.t 24)) .nil)) <| .ret⟩
theorem Qac2 : Qf Tryz.prog Tryz.f120 = some Q79 := by kernel_rfl
def Q8a : SFn := ⟨15, [.t 2], .seq (.rg (.o none (.mv 2 (.c (.bool false))) .nil)) <| .seq (.rg (.o none (.mv 3 (.t 0)) <|
 .o none (.len 4 (.t 3)) <|
 .o none (.bin 5 .eql false (.t 4) (.c (.int .i64 0))) <|
 .o none (.mv 6 (.t 5)) <|
 .o (some (6, false)) (.mv 7 (.t 0)) <|
 .o (some (6, false)) (.mv 8 (.t 0)) <|
 .o (some (6, false)) (.len 9 (.t 8)) <|
 .o (some (6, false)) (.bin 10 .sub false (.t 9) (.c (.int .i64 1))) <|
 .o (some (6, false)) (.idx 11 1 (.t 7) (.t 10)) <|
 .o (some (6, false)) (.ld 12 1 false (.t 11)) <|
 .o (some (6, false)) (.bin 13 .neq false (.t 12) (.c (.int .u16 0))) <|
 .o none (.pick 14 (.t 6) (.c (.bool true)) (.t 13)) <|
 .o none (.mv 2 (.t 14)) .nil)) <| .ret⟩
theorem Qac3 : Qf Tryz.prog Tryz.f119 = some Q8a := by kernel_rfl
def c88 : SFn := ⟨26, [.t 4], .seq (.rg (.o none (.mv 4 (.c (.bool false))) .nil)) <| .seq (.seq (.rg (.o none (.mv 6 (.t 0)) <|
 .o none (.len 7 (.t 6)) <|
 .o none (.mv 8 (.t 1)) <|
 .o none (.len 9 (.t 8)) <|
 .o none (.bin 10 .neq false (.t 7) (.t 9)) .nil)) <| .cond (.t 10) (.seq (.rg (.o none (.mv 4 (.c (.bool false))) .nil)) <| .ret) (.skip)) <| .seq (.seq (.rg (.o none (.mv 5 (.c (.int .i64 0))) .nil)) <| .block 0 (.loop (.seq (.seq (.rg (.o none (.mv 11 (.t 5)) <|
 .o none (.mv 12 (.t 0)) <|
 .o none (.len 13 (.t 12)) <|
 .o none (.bin 14 .lss false (.t 11) (.t 13)) .nil)) <| .cond (.t 14) (.skip) (.exit 0)) <| .seq (.block 1 (.seq (.rg (.o none (.mv 17 (.t 0)) <|
 .o none (.mv 18 (.t 5)) <|
 .o none (.idx 19 1 (.t 17) (.t 18)) <|
 .o none (.ld 20 1 false (.t 19)) <|
 .o none (.mv 21 (.t 1)) <|
 .o none (.mv 22 (.t 5)) <|
 .o none (.idx 23 1 (.t 21) (.t 22)) <|
 .o none (.ld 24 1 false (.t 23)) <|
 .o none (.bin 25 .neq false (.t 20) (.t 24)) .nil)) <| .cond (.t 25) (.seq (.rg (.o none (.mv 4 (.c (.bool false))) .nil)) <| .ret) (.skip))) <| .rg (.o none (.mv 15 (.t 5)) <|
 .o none (.bin 16 .add false (.t 15) (.c (.int .i64 1))) <|
 .o none (.mv 5 (.t 16)) .nil)))) <| .seq (.rg (.o none (.mv 4 (.c (.bool true))) .nil)) <| .ret⟩
theorem Qaf0 : Qf Tryz.prog Tryz.f88 = some c88 := by kernel_rfl
def Q8b : SFn := ⟨17, [.t 2], .seq (.rg (.o none (.box 1 2 30 (.t 0)) <|
 .o none (.mv 2 (.c (.bool false))) .nil)) <| .seq (.rg (.o none (.fld 3 1 (.t 1)) <|
 .o none (.ld 4 1 false (.t 3)) <|
 .o none (.call (some 5) false (.c (.fn 119 [] [])) [(.t 4)]) <|
 .o none (.mv 6 (.t 5)) <|
 .o (some (6, true)) (.fld 7 0 (.t 1)) <|
 .o (some (6, true)) (.ld 8 1 false (.t 7)) <|
 .o (some (6, true)) (.mv 9 (.t 8)) <|
 .o (some (9, true)) (.fld 10 1 (.t 1)) <|
 .o (some (9, true)) (.ld 11 1 false (.t 10)) <|
 .o (some (9, true)) (.len 12 (.t 11)) <|
 .o (some (9, true)) (.bin 13 .eql false (.t 12) (.c (.int .i64 0))) <|
 .o (some (6, true)) (.pick 14 (.t 9) (.t 13) (.c (.bool false))) <|
 .o (some (6, true)) (.un 15 .not (.t 14)) <|
 .o none (.pick 16 (.t 6) (.t 15) (.c (.bool false))) <|
 .o none (.mv 2 (.t 16)) .nil)) <| .ret⟩
theorem Qac4 : Qf Tryz.prog Tryz.f118 = some Q8b := by kernel_rfl
def Q8c : SFn := ⟨15, [.cell 4 2 true], .seq (.rg (.o none (.alloc 4 2 30 (.agg [(.bool false), .nilS])) .nil)) <| .seq (.rg (.o none (.mv 5 (.t 1)) <|
 .o none (.call (some 6) false (.c (.fn 167 [] [])) [(.t 5)]) <|
 .o none (.mv 1 (.t 6)) .nil)) <| .seq (.rg (.o none (.mv 7 (.t 0)) <|
 .o none (.mv 8 (.t 7)) <|
 .o (some (8, true)) (.mv 9 (.t 1)) <|
 .o (some (8, true)) (.len 10 (.t 9)) <|
 .o (some (8, true)) (.bin 11 .gtr false (.t 10) (.c (.int .i64 0))) <|
 .o none (.pick 12 (.t 8) (.t 11) (.c (.bool false))) <|
 .o none (.mv 13 (.t 1)) <|
 .o none (.bld 14 [(.bool false), .nilS] [(0, 1, (.t 12)), (1, 1, (.t 13))]) <|
 .o none (.st 2 (.t 4) (.t 14)) .nil)) <| .ret⟩
theorem Qac5 : Qf Tryz.prog Tryz.f170 = some Q8c := by kernel_rfl
def Q8d : SFn := ⟨8, [.cell 2 2 true], .seq (.rg (.o none (.box 1 2 30 (.t 0)) <|
 .o none (.alloc 2 2 30 (.agg [(.bool false), .nilS])) .nil)) <| .seq (.rg (.o none (.fld 3 0 (.t 1)) <|
 .o none (.ld 4 1 false (.t 3)) <|
 .o none (.fld 5 1 (.t 1)) <|
 .o none (.ld 6 1 false (.t 5)) <|
 .o none (.call (some 7) false (.c (.fn 170 [] [])) [(.t 4), (.t 6)]) <|
 .o none (.st 2 (.t 2) (.t 7)) .nil)) <| .ret⟩
theorem Qac6 : Qf Tryz.prog Tryz.f169 = some Q8d := by kernel_rfl
def Q8e : SFn := ⟨17, [.cell 2 2 true], .seq (.rg (.o none (.alloc 2 2 30 (.agg [(.bool false), .nilS])) .nil)) <| .seq (.seq (.rg (.o none (.mv 3 (.t 0)) <|
 .o none (.bin 4 .lss false (.t 3) (.c (.int .i64 0))) .nil)) <| .cond (.t 4) (.seq (.rg (.o none (.mv 5 (.t 0)) <|
 .o none (.bin 6 .add false (.t 5) (.c (.int .i64 1))) <|
 .o none (.un 7 .neg (.t 6)) <|
 .o none (.conv 8 .u64 (.t 7)) <|
 .o none (.call (some 9) false (.c (.fn 106 [] [])) [(.t 8)]) <|
 .o none (.call (some 10) false (.c (.fn 106 [] [])) [(.c (.int .u64 1))]) <|
 .o none (.call (some 11) false (.c (.fn 171 [] [])) [(.t 9), (.t 10)]) <|
 .o none (.call (some 12) false (.c (.fn 170 [] [])) [(.c (.bool true)), (.t 11)]) <|
 .o none (.st 2 (.t 2) (.t 12)) .nil)) <| .ret) (.skip)) <| .seq (.rg (.o none (.mv 13 (.t 0)) <|
 .o none (.conv 14 .u64 (.t 13)) <|
 .o none (.call (some 15) false (.c (.fn 106 [] [])) [(.t 14)]) <|
 .o none (.call (some 16) false (.c (.fn 170 [] [])) [(.c (.bool false)), (.t 15)]) <|
 .o none (.st 2 (.t 2) (.t 16)) .nil)) <| .ret⟩
theorem Qac7 : Qf Tryz.prog Tryz.f105 = some Q8e := by kernel_rfl
def Q8f : SFn := ⟨11, [.t 2], .seq (.rg (.o none (.box 1 2 30 (.t 0)) <|
 .o none (.mv 2 (.c (.int .i64 0))) .nil)) <| .seq (.rg (.o none (.ld 3 2 true (.t 1)) <|
 .o none (.call (some 4) false (.c (.fn 169 [] [])) [(.t 3)]) <|
 .o none (.st 2 (.t 1) (.t 4)) .nil)) <| .seq (.seq (.rg (.o none (.fld 5 1 (.t 1)) <|
 .o none (.ld 6 1 false (.t 5)) <|
 .o none (.len 7 (.t 6)) <|
 .o none (.bin 8 .eql false (.t 7) (.c (.int .i64 0))) .nil)) <| .cond (.t 8) (.seq (.rg (.o none (.mv 2 (.c (.int .i64 0))) .nil)) <| .ret) (.skip)) <| .seq (.seq (.rg (.o none (.fld 9 0 (.t 1)) <|
 .o none (.ld 10 1 false (.t 9)) .nil)) <| .cond (.t 10) (.seq (.rg (.o none (.mv 2 (.c (.int .i64 (-1)))) .nil)) <| .ret) (.skip)) <| .seq (.rg (.o none (.mv 2 (.c (.int .i64 1))) .nil)) <| .ret⟩
theorem Qac8 : Qf Tryz.prog Tryz.f156 = some Q8f := by kernel_rfl
def Q8g : SFn := ⟨38, [.t 4], .seq (.rg (.o none (.box 2 2 30 (.t 0)) <|
 .o none (.box 3 2 30 (.t 1)) <|
 .o none (.mv 4 (.c (.int .i64 0))) .nil)) <| .seq (.rg (.o none (.ld 5 2 true (.t 2)) <|
 .o none (.ld 7 2 true (.t 3)) <|
 .o none (.call (some 6) true (.c (.fn 169 [] [])) [(.t 5)]) <|
 .o none (.call (some 8) true (.c (.fn 169 [] [])) [(.t 7)]) <|
 .o none (.st 2 (.t 2) (.t 6)) <|
 .o none (.st 2 (.t 3) (.t 8)) .nil)) <| .seq (.block 0 (.seq (.rg (.o none (.fld 10 0 (.t 2)) <|
 .o none (.ld 11 1 false (.t 10)) <|
 .o none (.mv 12 (.t 11)) <|
 .o (some (12, true)) (.fld 13 0 (.t 3)) <|
 .o (some (12, true)) (.ld 14 1 false (.t 13)) <|
 .o (some (12, true)) (.un 15 .not (.t 14)) <|
 .o none (.pick 16 (.t 12) (.t 15) (.c (.bool false))) <|
 .o none (.mv 9 (.t 16)) .nil)) <| .cond (.t 9) (.seq (.rg (.o none (.mv 4 (.c (.int .i64 (-1)))) .nil)) <| .ret) (.seq (.rg (.o none (.fld 18 0 (.t 3)) <|
 .o none (.ld 19 1 false (.t 18)) <|
 .o none (.mv 20 (.t 19)) <|
 .o (some (20, true)) (.fld 21 0 (.t 2)) <|
 .o (some (20, true)) (.ld 22 1 false (.t 21)) <|
 .o (some (20, true)) (.un 23 .not (.t 22)) <|
 .o none (.pick 24 (.t 20) (.t 23) (.c (.bool false))) <|
 .o none (.mv 17 (.t 24)) .nil)) <| .cond (.t 17) (.seq (.rg (.o none (.mv 4 (.c (.int .i64 1))) .nil)) <| .ret) (.seq (.rg (.o none (.fld 26 0 (.t 2)) <|
 .o none (.ld 27 1 false (.t 26)) <|
 .o none (.mv 25 (.t 27)) .nil)) <| .cond (.t 25) (.seq (.rg (.o none (.fld 28 1 (.t 3)) <|
 .o none (.ld 29 1 false (.t 28)) <|
 .o none (.fld 30 1 (.t 2)) <|
 .o none (.ld 31 1 false (.t 30)) <|
 .o none (.call (some 32) false (.c (.fn 224 [] [])) [(.t 29), (.t 31)]) <|
 .o none (.mv 4 (.t 32)) .nil)) <| .ret) (.skip))))) <| .seq (.rg (.o none (.fld 33 1 (.t 2)) <|
 .o none (.ld 34 1 false (.t 33)) <|
 .o none (.fld 35 1 (.t 3)) <|
 .o none (.ld 36 1 false (.t 35)) <|
 .o none (.call (some 37) false (.c (.fn 224 [] [])) [(.t 34), (.t 36)]) <|
 .o none (.mv 4 (.t 37)) .nil)) <| .ret⟩
theorem Qac9 : Qf Tryz.prog Tryz.f201 = some Q8g := by kernel_rfl
def Q8h : SFn := ⟨9, [.cell 2 2 true], .seq (.rg (.o none (.box 1 2 30 (.t 0)) <|
 .o none (.alloc 2 2 30 (.agg [(.bool false), .nilS])) .nil)) <| .seq (.rg (.o none (.fld 3 0 (.t 1)) <|
 .o none (.ld 4 1 false (.t 3)) <|
 .o none (.un 5 .not (.t 4)) <|
 .o none (.fld 6 1 (.t 1)) <|
 .o none (.ld 7 1 false (.t 6)) <|
 .o none (.call (some 8) false (.c (.fn 170 [] [])) [(.t 5), (.t 7)]) <|
 .o none (.st 2 (.t 2) (.t 8)) .nil)) <| .ret⟩
theorem Qada : Qf Tryz.prog Tryz.f158 = some Q8h := by kernel_rfl
def Q8i : SFn := ⟨48, [.cell 4 2 true], .seq (.rg (.o none (.box 2 2 30 (.t 0)) <|
 .o none (.box 3 2 30 (.t 1)) <|
 .o none (.alloc 4 2 30 (.agg [(.bool false), .nilS])) .nil)) <| .seq (.seq (.rg (.o none (.fld 9 0 (.t 2)) <|
 .o none (.ld 10 1 false (.t 9)) <|
 .o none (.fld 11 0 (.t 3)) <|
 .o none (.ld 12 1 false (.t 11)) <|
 .o none (.bin 13 .eql true (.t 10) (.t 12)) .nil)) <| .cond (.t 13) (.seq (.rg (.o none (.fld 14 0 (.t 2)) <|
 .o none (.ld 15 1 false (.t 14)) <|
 .o none (.fld 16 1 (.t 2)) <|
 .o none (.ld 17 1 false (.t 16)) <|
 .o none (.fld 18 1 (.t 3)) <|
 .o none (.ld 19 1 false (.t 18)) <|
 .o none (.call (some 20) true (.c (.fn 171 [] [])) [(.t 17), (.t 19)]) <|
 .o none (.call (some 21) true (.c (.fn 170 [] [])) [(.t 15), (.t 20)]) <|
 .o none (.st 2 (.t 4) (.t 21)) .nil)) <| .ret) (.skip)) <| .seq (.seq (.rg (.o none (.fld 23 1 (.t 2)) <|
 .o none (.ld 24 1 false (.t 23)) <|
 .o none (.fld 25 1 (.t 3)) <|
 .o none (.ld 26 1 false (.t 25)) <|
 .o none (.call (some 27) false (.c (.fn 208 [] [])) [(.t 24), (.t 26)]) <|
 .o none (.mv 22 (.t 27)) <|
 .o none (.ext 28 (.t 22) 0) <|
 .o none (.ext 29 (.t 22) 1) <|
 .o none (.mv 5 (.t 28)) <|
 .o none (.mv 6 (.t 29)) .nil)) <| .seq (.rg (.o none (.mv 30 (.t 6)) <|
 .o none (.bin 31 .eql false (.t 30) (.c (.int .i64 0))) .nil)) <| .cond (.t 31) (.seq (.rg (.o none (.fld 32 0 (.t 2)) <|
 .o none (.ld 33 1 false (.t 32)) <|
 .o none (.mv 34 (.t 5)) <|
 .o none (.call (some 35) false (.c (.fn 170 [] [])) [(.t 33), (.t 34)]) <|
 .o none (.st 2 (.t 4) (.t 35)) .nil)) <| .ret) (.skip)) <| .seq (.rg (.o none (.fld 37 1 (.t 3)) <|
 .o none (.ld 38 1 false (.t 37)) <|
 .o none (.fld 39 1 (.t 2)) <|
 .o none (.ld 40 1 false (.t 39)) <|
 .o none (.call (some 41) false (.c (.fn 208 [] [])) [(.t 38), (.t 40)]) <|
 .o none (.mv 36 (.t 41)) <|
 .o none (.ext 42 (.t 36) 0) <|
 .o none (.ext 43 (.t 36) 1) <|
 .o none (.mv 7 (.t 42)) <|
 .o none (.mv 8 (.t 43)) .nil)) <| .seq (.rg (.o none (.fld 44 0 (.t 3)) <|
 .o none (.ld 45 1 false (.t 44)) <|
 .o none (.mv 46 (.t 7)) <|
 .o none (.call (some 47) false (.c (.fn 170 [] [])) [(.t 45), (.t 46)]) <|
 .o none (.st 2 (.t 4) (.t 47)) .nil)) <| .ret⟩
theorem Qadb : Qf Tryz.prog Tryz.f166 = some Q8i := by kernel_rfl
def Q8j : SFn := ⟨16, [.cell 4 2 true], .seq (.rg (.o none (.box 2 2 30 (.t 0)) <|
 .o none (.box 3 2 30 (.t 1)) <|
 .o none (.alloc 4 2 30 (.agg [(.bool false), .nilS])) .nil)) <| .seq (.rg (.o none (.fld 5 0 (.t 2)) <|
 .o none (.ld 6 1 false (.t 5)) <|
 .o none (.fld 7 0 (.t 3)) <|
 .o none (.ld 8 1 false (.t 7)) <|
 .o none (.bin 9 .neq true (.t 6) (.t 8)) <|
 .o none (.fld 10 1 (.t 2)) <|
 .o none (.ld 11 1 false (.t 10)) <|
 .o none (.fld 12 1 (.t 3)) <|
 .o none (.ld 13 1 false (.t 12)) <|
 .o none (.call (some 14) true (.c (.fn 160 [] [])) [(.t 11), (.t 13)]) <|
 .o none (.call (some 15) true (.c (.fn 170 [] [])) [(.t 9), (.t 14)]) <|
 .o none (.st 2 (.t 4) (.t 15)) .nil)) <| .ret⟩
theorem Qadc : Qf Tryz.prog Tryz.f159 = some Q8j := by kernel_rfl
def c45 : SFn := ⟨27, [.t 2], .seq (.rg (.o none (.box 1 3 32 (.t 0)) <|
 .o none (.mv 2 (.c (.bool false))) .nil)) <| .seq (.rg (.o none (.fld 3 0 (.t 1)) <|
 .o none (.ld 4 2 true (.t 3)) <|
 .o none (.call (some 5) false (.c (.fn 118 [] [])) [(.t 4)]) <|
 .o none (.mv 6 (.t 5)) <|
 .o (some (6, true)) (.fld 7 2 (.t 1)) <|
 .o (some (6, true)) (.ld 8 1 false (.t 7)) <|
 .o (some (6, true)) (.call (some 9) false (.c (.fn 119 [] [])) [(.t 8)]) <|
 .o none (.pick 10 (.t 6) (.t 9) (.c (.bool false))) <|
 .o none (.mv 11 (.t 10)) <|
 .o (some (11, true)) (.fld 12 0 (.t 1)) <|
 .o (some (11, true)) (.fld 13 1 (.t 12)) <|
 .o (some (11, true)) (.ld 14 1 false (.t 13)) <|
 .o (some (11, true)) (.fld 15 2 (.t 1)) <|
 .o (some (11, true)) (.ld 16 1 false (.t 15)) <|
 .o (some (11, true)) (.call (some 17) false (.c (.fn 120 [] [])) [(.t 14), (.t 16)]) <|
 .o (some (11, true)) (.call (some 18) false (.c (.fn 106 [] [])) [(.c (.int .u64 1))]) <|
 .o (some (11, true)) (.call (some 19) false (.c (.fn 88 [] [])) [(.t 17), (.t 18)]) <|
 .o none (.pick 20 (.t 11) (.t 19) (.c (.bool false))) <|
 .o none (.mv 21 (.t 20)) <|
 .o (some (21, true)) (.fld 22 2 (.t 1)) <|
 .o (some (21, true)) (.ld 23 1 false (.t 22)) <|
 .o (some (21, true)) (.len 24 (.t 23)) <|
 .o (some (21, true)) (.bin 25 .gtr false (.t 24) (.c (.int .i64 0))) <|
 .o none (.pick 26 (.t 21) (.t 25) (.c (.bool false))) <|
 .o none (.mv 2 (.t 26)) .nil)) <| .ret⟩
theorem Qaf1 : Qf Tryz.prog Tryz.f45 = some c45 := by kernel_rfl
def Q8k : SFn := ⟨44, [.cell 4 3 true], .seq (.rg (.o none (.box 2 2 30 (.t 0)) <|
 .o none (.alloc 4 3 32 (.agg [(.bool false), .nilS, .nilS])) .nil)) <| .seq (.seq (.rg (.o none (.mv 12 (.t 1)) <|
 .o none (.call (some 13) false (.c (.fn 167 [] [])) [(.t 12)]) <|
 .o none (.len 14 (.t 13)) <|
 .o none (.bin 15 .eql false (.t 14) (.c (.int .i64 0))) .nil)) <| .cond (.t 15) (.seq (.rg (.o none (.call (some 16) false (.c (.fn 106 [] [])) [(.c (.int .u64 1))]) <|
 .o none (.bld 17 [(.bool false), .nilS, .nilS] [(2, 1, (.t 16))]) <|
 .o none (.st 3 (.t 4) (.t 17)) .nil)) <| .ret) (.skip)) <| .seq (.rg (.o none (.fld 18 1 (.t 2)) <|
 .o none (.ld 19 1 false (.t 18)) <|
 .o none (.mv 20 (.t 1)) <|
 .o none (.call (some 21) false (.c (.fn 120 [] [])) [(.t 19), (.t 20)]) <|
 .o none (.mv 5 (.t 21)) .nil)) <| .seq (.rg (.o none (.fld 23 1 (.t 2)) <|
 .o none (.ld 24 1 false (.t 23)) <|
 .o none (.mv 25 (.t 5)) <|
 .o none (.call (some 26) false (.c (.fn 168 [] [])) [(.t 24), (.t 25)]) <|
 .o none (.mv 22 (.t 26)) <|
 .o none (.ext 27 (.t 22) 0) <|
 .o none (.ext 28 (.t 22) 1) <|
 .o none (.ext 29 (.t 22) 2) <|
 .o none (.mv 6 (.t 27)) <|
 .o none (.mv 7 (.t 28)) <|
 .o none (.mv 8 (.t 29)) .nil)) <| .seq (.rg (.o none (.mv 31 (.t 1)) <|
 .o none (.mv 32 (.t 5)) <|
 .o none (.call (some 33) false (.c (.fn 168 [] [])) [(.t 31), (.t 32)]) <|
 .o none (.mv 30 (.t 33)) <|
 .o none (.ext 34 (.t 30) 0) <|
 .o none (.ext 35 (.t 30) 1) <|
 .o none (.ext 36 (.t 30) 2) <|
 .o none (.mv 9 (.t 34)) <|
 .o none (.mv 10 (.t 35)) <|
 .o none (.mv 11 (.t 36)) .nil)) <| .seq (.rg (.o none (.fld 37 0 (.t 2)) <|
 .o none (.ld 38 1 false (.t 37)) <|
 .o none (.mv 39 (.t 6)) <|
 .o none (.bld 40 [(.bool false), .nilS] [(0, 1, (.t 38)), (1, 1, (.t 39))]) <|
 .o none (.call (some 41) false (.c (.fn 169 [] [])) [(.t 40)]) <|
 .o none (.mv 42 (.t 9)) <|
 .o none (.bld 43 [(.bool false), .nilS, .nilS] [(0, 2, (.t 41)), (2, 1, (.t 42))]) <|
 .o none (.st 3 (.t 4) (.t 43)) .nil)) <| .ret⟩
theorem Qadd : Qf Tryz.prog Tryz.f104 = some Q8k := by kernel_rfl
def Q8l : SFn := ⟨8, [.cell 2 3 true], .seq (.rg (.o none (.box 1 3 32 (.t 0)) <|
 .o none (.alloc 2 3 32 (.agg [(.bool false), .nilS, .nilS])) .nil)) <| .seq (.rg (.o none (.fld 3 0 (.t 1)) <|
 .o none (.ld 4 2 true (.t 3)) <|
 .o none (.fld 5 2 (.t 1)) <|
 .o none (.ld 6 1 false (.t 5)) <|
 .o none (.call (some 7) false (.c (.fn 104 [] [])) [(.t 4), (.t 6)]) <|
 .o none (.st 3 (.t 2) (.t 7)) .nil)) <| .ret⟩
theorem Qade : Qf Tryz.prog Tryz.f157 = some Q8l := by kernel_rfl
def Q8m : SFn := ⟨18, [.cell 4 3 true, .t 5], .seq (.rg (.o none (.box 2 2 30 (.t 0)) <|
 .o none (.box 3 2 30 (.t 1)) <|
 .o none (.alloc 4 3 32 (.agg [(.bool false), .nilS, .nilS])) <|
 .o none (.mv 5 (.c (.int .i64 0))) .nil)) <| .seq (.seq (.rg (.o none (.ld 6 2 true (.t 3)) <|
 .o none (.call (some 7) false (.c (.fn 156 [] [])) [(.t 6)]) <|
 .o none (.bin 8 .eql false (.t 7) (.c (.int .i64 0))) .nil)) <| .cond (.t 8) (.seq (.rg (.o none (.bld 9 [(.bool false), .nilS, .nilS] []) <|
 .o none (.st 3 (.t 4) (.t 9)) <|
 .o none (.mv 5 (.c (.int .i64 3))) .nil)) <| .ret) (.skip)) <| .seq (.seq (.rg (.o none (.fld 10 0 (.t 3)) <|
 .o none (.ld 11 1 false (.t 10)) .nil)) <| .cond (.t 11) (.rg (.o none (.ld 12 2 true (.t 2)) <|
 .o none (.call (some 13) false (.c (.fn 158 [] [])) [(.t 12)]) <|
 .o none (.st 2 (.t 2) (.t 13)) .nil)) (.skip)) <| .seq (.rg (.o none (.ld 14 2 true (.t 2)) <|
 .o none (.fld 15 1 (.t 3)) <|
 .o none (.ld 16 1 false (.t 15)) <|
 .o none (.call (some 17) false (.c (.fn 104 [] [])) [(.t 14), (.t 16)]) <|
 .o none (.st 3 (.t 4) (.t 17)) <|
 .o none (.mv 5 (.c (.int .i64 0))) .nil)) <| .ret⟩
theorem Qadf : Qf Tryz.prog Tryz.f147 = some Q8m := by kernel_rfl
def c34 : SFn := ⟨7, [.cell 2 3 true], .seq (.rg (.o none (.alloc 2 3 32 (.agg [(.bool false), .nilS, .nilS])) .nil)) <| .seq (.rg (.o none (.mv 3 (.t 0)) <|
 .o none (.call (some 4) false (.c (.fn 105 [] [])) [(.t 3)]) <|
 .o none (.call (some 5) false (.c (.fn 106 [] [])) [(.c (.int .u64 1))]) <|
 .o none (.call (some 6) false (.c (.fn 104 [] [])) [(.t 4), (.t 5)]) <|
 .o none (.st 3 (.t 2) (.t 6)) .nil)) <| .ret⟩
theorem Qaf2 : Qf Tryz.prog Tryz.f34 = some c34 := by kernel_rfl
def Q8n : SFn := ⟨5, [.cell 2 2 true], .seq (.rg (.o none (.alloc 2 2 30 (.agg [(.bool false), .nilS])) .nil)) <| .seq (.rg (.o none (.mv 3 (.t 0)) <|
 .o none (.bld 4 [(.bool false), .nilS] [(1, 1, (.t 3))]) <|
 .o none (.st 2 (.t 2) (.t 4)) .nil)) <| .ret⟩
theorem Qadg : Qf Tryz.prog Tryz.f161 = some Q8n := by kernel_rfl
def c81 : SFn := ⟨7, [.t 2], .seq (.rg (.o none (.box 1 3 32 (.t 0)) <|
 .o none (.mv 2 (.c (.int .i64 0))) .nil)) <| .seq (.rg (.o none (.ld 3 3 true (.t 1)) <|
 .o none (.call (some 4) false (.c (.fn 157 [] [])) [(.t 3)]) <|
 .o none (.fldv 5 0 2 true (.t 4)) <|
 .o none (.call (some 6) false (.c (.fn 156 [] [])) [(.t 5)]) <|
 .o none (.mv 2 (.t 6)) .nil)) <| .ret⟩
theorem Qaf3 : Qf Tryz.prog Tryz.f81 = some c81 := by kernel_rfl
def Q8o : SFn := ⟨22, [.t 4], .seq (.rg (.o none (.box 2 3 32 (.t 0)) <|
 .o none (.box 3 3 32 (.t 1)) <|
 .o none (.mv 4 (.c (.int .i64 0))) .nil)) <| .seq (.rg (.o none (.ld 5 3 true (.t 2)) <|
 .o none (.ld 7 3 true (.t 3)) <|
 .o none (.call (some 6) true (.c (.fn 157 [] [])) [(.t 5)]) <|
 .o none (.call (some 8) true (.c (.fn 157 [] [])) [(.t 7)]) <|
 .o none (.st 3 (.t 2) (.t 6)) <|
 .o none (.st 3 (.t 3) (.t 8)) .nil)) <| .seq (.rg (.o none (.fld 9 0 (.t 2)) <|
 .o none (.ld 10 2 true (.t 9)) <|
 .o none (.fld 11 2 (.t 3)) <|
 .o none (.ld 12 1 false (.t 11)) <|
 .o none (.fld 15 0 (.t 3)) <|
 .o none (.ld 16 2 true (.t 15)) <|
 .o none (.fld 17 2 (.t 2)) <|
 .o none (.ld 18 1 false (.t 17)) <|
 .o none (.call (some 13) true (.c (.fn 161 [] [])) [(.t 12)]) <|
 .o none (.call (some 14) true (.c (.fn 159 [] [])) [(.t 10), (.t 13)]) <|
 .o none (.call (some 19) true (.c (.fn 161 [] [])) [(.t 18)]) <|
 .o none (.call (some 20) true (.c (.fn 159 [] [])) [(.t 16), (.t 19)]) <|
 .o none (.call (some 21) true (.c (.fn 201 [] [])) [(.t 14), (.t 20)]) <|
 .o none (.mv 4 (.t 21)) .nil)) <| .ret⟩
theorem Qadh : Qf Tryz.prog Tryz.f148 = some Q8o := by kernel_rfl
def c72 : SFn := ⟨9, [.t 4], .seq (.rg (.o none (.box 2 3 32 (.t 0)) <|
 .o none (.box 3 3 32 (.t 1)) <|
 .o none (.mv 4 (.c (.bool false))) .nil)) <| .seq (.rg (.o none (.ld 5 3 true (.t 2)) <|
 .o none (.ld 6 3 true (.t 3)) <|
 .o none (.call (some 7) false (.c (.fn 148 [] [])) [(.t 5), (.t 6)]) <|
 .o none (.bin 8 .eql false (.t 7) (.c (.int .i64 0))) <|
 .o none (.mv 4 (.t 8)) .nil)) <| .ret⟩
theorem Qaf4 : Qf Tryz.prog Tryz.f72 = some c72 := by kernel_rfl
def Q8p : SFn := ⟨28, [.cell 4 3 true], .seq (.rg (.o none (.box 2 3 32 (.t 0)) <|
 .o none (.box 3 3 32 (.t 1)) <|
 .o none (.alloc 4 3 32 (.agg [(.bool false), .nilS, .nilS])) .nil)) <| .seq (.rg (.o none (.ld 5 3 true (.t 2)) <|
 .o none (.ld 7 3 true (.t 3)) <|
 .o none (.call (some 6) true (.c (.fn 157 [] [])) [(.t 5)]) <|
 .o none (.call (some 8) true (.c (.fn 157 [] [])) [(.t 7)]) <|
 .o none (.st 3 (.t 2) (.t 6)) <|
 .o none (.st 3 (.t 3) (.t 8)) .nil)) <| .seq (.rg (.o none (.fld 9 0 (.t 2)) <|
 .o none (.ld 10 2 true (.t 9)) <|
 .o none (.fld 11 2 (.t 3)) <|
 .o none (.ld 12 1 false (.t 11)) <|
 .o none (.fld 15 0 (.t 3)) <|
 .o none (.ld 16 2 true (.t 15)) <|
 .o none (.fld 17 2 (.t 2)) <|
 .o none (.ld 18 1 false (.t 17)) <|
 .o none (.fld 22 2 (.t 2)) <|
 .o none (.ld 23 1 false (.t 22)) <|
 .o none (.fld 24 2 (.t 3)) <|
 .o none (.ld 25 1 false (.t 24)) <|
 .o none (.call (some 13) true (.c (.fn 161 [] [])) [(.t 12)]) <|
 .o none (.call (some 14) true (.c (.fn 159 [] [])) [(.t 10), (.t 13)]) <|
 .o none (.call (some 19) true (.c (.fn 161 [] [])) [(.t 18)]) <|
 .o none (.call (some 20) true (.c (.fn 159 [] [])) [(.t 16), (.t 19)]) <|
 .o none (.call (some 21) true (.c (.fn 166 [] [])) [(.t 14), (.t 20)]) <|
 .o none (.call (some 26) true (.c (.fn 160 [] [])) [(.t 23), (.t 25)]) <|
 .o none (.call (some 27) true (.c (.fn 104 [] [])) [(.t 21), (.t 26)]) <|
 .o none (.st 3 (.t 4) (.t 27)) .nil)) <| .ret⟩
theorem Qadi : Qf Tryz.prog Tryz.f101 = some Q8p := by kernel_rfl
def c83 : SFn := ⟨16, [.cell 4 3 true], .seq (.rg (.o none (.box 2 3 32 (.t 0)) <|
 .o none (.box 3 3 32 (.t 1)) <|
 .o none (.alloc 4 3 32 (.agg [(.bool false), .nilS, .nilS])) .nil)) <| .seq (.rg (.o none (.fld 5 0 (.t 2)) <|
 .o none (.ld 6 2 true (.t 5)) <|
 .o none (.fld 7 0 (.t 3)) <|
 .o none (.ld 8 2 true (.t 7)) <|
 .o none (.fld 10 2 (.t 2)) <|
 .o none (.ld 11 1 false (.t 10)) <|
 .o none (.fld 12 2 (.t 3)) <|
 .o none (.ld 13 1 false (.t 12)) <|
 .o none (.call (some 9) true (.c (.fn 159 [] [])) [(.t 6), (.t 8)]) <|
 .o none (.call (some 14) true (.c (.fn 160 [] [])) [(.t 11), (.t 13)]) <|
 .o none (.call (some 15) true (.c (.fn 104 [] [])) [(.t 9), (.t 14)]) <|
 .o none (.st 3 (.t 4) (.t 15)) .nil)) <| .ret⟩
theorem Qaf5 : Qf Tryz.prog Tryz.f83 = some c83 := by kernel_rfl
end Go.Proofs.YtmnkngmmfnncoaaGreat
namespace Go.Proofs.YtmnkngmmfnncoaaGreat
open Go Go.FW
set_option linter.unusedSimpArgs false
set_option linter.unusedVariables false
set_option maxRecDepth 100000
theorem Qbm {l : List Nat} (hv : Qi l) (hl : l.length < 2 ^ 42) : Qe Tryz.prog 167 [PV.nat l] (· = PV.num (val l)) := by
 have hcut := Qla hv
 refine Qg Qk Tryz.func167 rfl Qacs (by simp [Q7z]) fun C hP => ?_; simp only [Q7z]
 simp +decide (disch := first | omega | rfl | (simp +decide only [go_sem, ↓reduceIte] <;> rfl) | fail) only [go_sem, ↓reduceIte]
 refine Qy (by repeat (first | exact Qv | exact Qp | exact Qq | exact Qr | apply Qo | apply Qu | apply Qz | apply Q8 | apply Q9 | apply Qn | apply Qaf)) [(3, 3), (7, 18)] [] (fun m J hp => m <= l.length /\ cut l m = dig (val l) /\ J 3 = .int .i64 m /\ hp = hp0) l.length ?_ ?_
 ·refine ⟨Nat.le_refl _, hcut, ?_⟩
  simp +decide (disch := first | omega | rfl | (simp +decide only [go_sem, ↓reduceIte] <;> rfl) | fail) only [go_sem, ↓reduceIte]
 rintro n J _ ⟨hn, hc, h3, rfl⟩
 simp +decide (disch := first | omega | rfl | (simp +decide only [go_sem, ↓reduceIte, h3] <;> rfl) | fail) only [go_sem, ↓reduceIte, h3]
 refine Qar (fun hg => ?_) (fun hg => ?_)
 ·obtain _ | n := n
  ·omega
  have e : ((n + 1 : Nat) : Int) - 1 = n := by omega
  simp only [cut] at hc
  simp +decide (disch := first | omega | rfl | (simp +decide only [go_sem, ↓reduceIte, h3, e] <;> rfl) | fail) only [go_sem, ↓reduceIte, h3, e]
  refine Qb (fun hz => ?_) (fun hz => ?_)
  ·rw [if_pos (by grind)] at hc
   simp +decide (disch := first | omega | rfl | (simp +decide only [go_sem, ↓reduceIte, h3, e] <;> rfl) | fail) only [go_sem, ↓reduceIte, h3, e]
   refine Ql n (by omega) ⟨by omega, hc, ?_⟩
   simp +decide (disch := first | omega | rfl | (simp +decide only [go_sem, ↓reduceIte] <;> rfl) | fail) only [go_sem, ↓reduceIte]
  ·rw [if_neg (by grind)] at hc
   have hlt : (l.take (n + 1)).length < 2 ^ 42 := by rw [List.length_take]; omega
   simp +decide (disch := first | omega | rfl | (simp +decide only [go_sem, ↓reduceIte, h3, e, Qd, List.contains_cons, List.contains_nil, List.flatMap_cons, List.flatMap_nil, List.append_nil] <;> rfl) | fail) only [go_sem, ↓reduceIte, h3, e, Qd, List.contains_cons, List.contains_nil, List.flatMap_cons, List.flatMap_nil, List.append_nil]
   exact Qc (by rw [List.take_of_length_le (by simp), hc]) rfl
 ·obtain rfl : n = 0 := by omega
  simp +decide (disch := first | omega | rfl | (simp +decide only [go_sem, ↓reduceIte, h3, List.take_zero, List.map_nil, List.length_nil] <;> rfl) | fail) only [go_sem, ↓reduceIte, h3, List.take_zero, List.map_nil, List.length_nil]
  rw [Qiu (ys := []) rfl (by omega) (by simp) (by simp)]
  simp +decide (disch := first | omega | rfl | (simp +decide only [go_sem, ↓reduceIte, Qd, List.contains_cons, List.contains_nil, List.flatMap_cons, List.flatMap_nil, List.append_nil] <;> rfl) | fail) only [go_sem, ↓reduceIte, Qd, List.contains_cons, List.contains_nil, List.flatMap_cons, List.flatMap_nil, List.append_nil]
  exact Qc (by show _ = PV.nat (dig (val l)); rw [<- hc]; rfl) rfl
theorem Qcx {n : Nat} (hn : n < 18446744073709551616) : Qe Tryz.prog 106 [.int .u64 n] (· = PV.num n) := by
 have hlen := Qdr hn
 unfold nl at hlen
 refine Qg Qk Tryz.func106 rfl Qact (by simp [Q70]) fun C hP => ?_; simp only [Q70]
 simp +decide (disch := first | omega | rfl | (simp +decide only [go_sem, ↓reduceIte] <;> rfl) | fail) only [go_sem, ↓reduceIte]
 refine Qi6 3 900 1 156 (by omega) (by simp +decide (disch := first | omega | rfl | (simp +decide only [go_sem, ↓reduceIte] <;> rfl) | fail) only [go_sem, ↓reduceIte]) ?_
 refine Qy (by repeat (first | exact Qv | exact Qp | exact Qq | exact Qr | apply Qo | apply Qu | apply Qz | apply Q8 | apply Q9 | apply Qn | apply Qaf)) [(0, 0), (3, 13)] [10, 11, 900] (fun m J hp => ∃ done : List Nat, dig n = done ++ dig m /\ m <= n /\ J 0 = .int .u64 m /\ J 3 = .ms 900 done.length /\ hp 900 = some ⟨1, 156, Qa2 done, false⟩) n ?_ ?_
 ·refine ⟨[], rfl, Nat.le_refl _, ?_⟩
  simp +decide (disch := first | omega | rfl | (simp +decide only [go_sem, ↓reduceIte] <;> rfl) | fail) only [go_sem, ↓reduceIte]
 rintro m J hp ⟨done, hd, hm, h0, h3, hh⟩
 rw [hd, List.length_append] at hlen
 simp +decide (disch := first | omega | rfl | (simp +decide only [go_sem, ↓reduceIte, h0, h3] <;> rfl) | fail) only [go_sem, ↓reduceIte, h0, h3]
 refine Qb (fun hz => ?_) (fun hz => ?_)
 ·have hne : m ≠ 0 := by omega
  have hd2 : dig n = (done ++ [m % 65536]) ++ dig (m / 65536) := by rw [hd, Qgh hne]; simp
  simp +decide (disch := first | omega | rfl | (simp +decide only [go_sem, ↓reduceIte, h0, h3, Nat.mod_mod] <;> rfl) | fail) only [go_sem, ↓reduceIte, h0, h3, Nat.mod_mod]
  rw [Qak (f := fun (x : Nat) => .int .u16 x) (y := m % 65536) (xs := done) (ty' := 156) (fz := false) (by simp +decide (disch := first | omega | rfl | (simp +decide only [go_sem, ↓reduceIte, hh] <;> rfl) | fail) only [go_sem, ↓reduceIte, hh]) (by simp +decide (disch := first | omega | rfl | (simp +decide only [go_sem, ↓reduceIte] <;> rfl) | fail) only [go_sem, ↓reduceIte] <;> rfl) (by omega) rfl (by omega) (by omega)]
  simp +decide (disch := first | omega | rfl | (simp +decide only [go_sem, ↓reduceIte, h0, h3] <;> rfl) | fail) only [go_sem, ↓reduceIte, h0, h3]
  refine Ql (m / 65536) (by omega) ⟨done ++ [m % 65536], hd2, by omega, ?_⟩
  simp +decide (disch := first | omega | rfl | (simp +decide only [go_sem, ↓reduceIte, h0, h3] <;> rfl) | fail) only [go_sem, ↓reduceIte, h0, h3]
  simp
 ·obtain rfl : m = 0 := by omega
  rw [Qa1, List.append_nil] at hd
  simp +decide (disch := first | omega | rfl | (simp +decide only [go_sem, ↓reduceIte, h3, hh, Qd, List.contains_cons, List.contains_nil, List.flatMap_cons, List.flatMap_nil, List.append_nil] <;> rfl) | fail) only [go_sem, ↓reduceIte, h3, hh, Qd, List.contains_cons, List.contains_nil, List.flatMap_cons, List.flatMap_nil, List.append_nil]
  exact Qc (by show _ = PV.nat (dig n); rw [hd, List.take_of_length_le (by simp)]) rfl
theorem Qbh {a : List Nat} {i : Nat} (ha : Qi a) (hl : a.length < 2 ^ 43) : Qe Tryz.prog 206 [PV.nat a, .int .i64 i] (· = .int .i64 (dg a i : Nat)) := by
 refine Qg Qk Tryz.func206 rfl Qacv (by simp [Q72]) fun C hP => ?_; simp only [Q72]
 simp +decide (disch := first | omega | rfl | (simp +decide only [go_sem, ↓reduceIte] <;> rfl) | fail) only [go_sem, ↓reduceIte]
 refine Qb (fun hi => ?_) (fun hi => ?_)
 ·have hi' : i < a.length := by omega
  have hai := Qag ha hi'
  have hg : dg a i = a[i] := Qbd hi'
  simp +decide (disch := first | omega | rfl | (simp +decide only [go_sem, ↓reduceIte] <;> rfl) | fail) only [go_sem, ↓reduceIte]
  exact Qc (by rw [hg]) rfl
 ·simp +decide (disch := first | omega | rfl | (simp +decide only [go_sem, ↓reduceIte] <;> rfl) | fail) only [go_sem, ↓reduceIte]
  exact Qc (by rw [dg, Qbe (by omega)]; rfl) rfl
theorem Qf8 {a : List Nat} (ha : Qi a) (hl : a.length <= 4) : Qe Tryz.prog 209 [PV.nat a] (· = .int .u64 (val a : Nat)) := by
 have hlt : ∀ k, val (a.drop k) < 18446744073709551616 := fun k => by
  have h1 := Qe6 (Qgp ha k)
  have : 65536 ^ (a.drop k).length <= 65536 ^ 4 := Nat.pow_le_pow_right (by omega) (by rw [List.length_drop]; omega)
  omega
 refine Qg Qk Tryz.func209 rfl Qacu (by simp [Q71]) fun C hP => ?_; simp only [Q71]
 simp +decide (disch := first | omega | rfl | (simp +decide only [go_sem, ↓reduceIte] <;> rfl) | fail) only [go_sem, ↓reduceIte]
 refine Qy (by repeat (first | exact Qv | exact Qp | exact Qq | exact Qr | apply Qo | apply Qu | apply Qz | apply Q8 | apply Q9 | apply Qn | apply Qaf)) [(3, 4), (8, 19)] [] (fun k J hp => k <= a.length /\ J 3 = .int .u64 (val (a.drop k) : Nat) /\ J 4 = .int .i64 ((k : Int) - 1)) a.length ?_ ?_
 ·refine ⟨Nat.le_refl _, ?_⟩
  simp +decide (disch := first | omega | rfl | (simp +decide only [go_sem, ↓reduceIte] <;> rfl) | fail) only [go_sem, ↓reduceIte]
  simp [val]
 rintro k J h ⟨hk, h3, h4⟩
 simp +decide (disch := first | omega | rfl | (simp +decide only [go_sem, ↓reduceIte, h3, h4] <;> rfl) | fail) only [go_sem, ↓reduceIte, h3, h4]
 refine Qb (fun hg => ?_) (fun hg => ?_)
 ·obtain _ | n := k
  ·omega
  have hn : n < a.length := by omega
  have han := Qag ha hn
  have e : ((n + 1 : Nat) : Int) - 1 = n := by omega
  have hv := Qcc hn
  have h1 := hlt n
  generalize hxx : a[n] = x at *
  have e2 : val (a.drop (n + 1)) * 65536 + x = val (a.drop n) := by omega
  simp +decide (disch := first | omega | rfl | (simp +decide only [go_sem, ↓reduceIte, h3, h4, e, hxx, e2] <;> rfl) | fail) only [go_sem, ↓reduceIte, h3, h4, e, hxx, e2]
  refine Ql n (by omega) ⟨by omega, ?_⟩
  simp +decide (disch := first | omega | rfl | (simp +decide only [go_sem, ↓reduceIte] <;> rfl) | fail) only [go_sem, ↓reduceIte]
 ·obtain rfl : k = 0 := by omega
  simp +decide (disch := first | omega | rfl | (simp +decide only [go_sem, ↓reduceIte, h3, List.drop_zero] <;> rfl) | fail) only [go_sem, ↓reduceIte, h3, List.drop_zero]
  exact Qc rfl rfl
theorem Qhx {a b : List Nat} (ha : Qi a) (hb : Qi b) (hla : a.length < 2 ^ 42) (hlb : b.length < 2 ^ 42) : Qe Tryz.prog 224 [PV.nat a, PV.nat b] (· = .int .i64 (Qdf (val a) (val b))) := by
 refine Qg Qk Tryz.func224 rfl Qacw (by simp [Q73]) fun C hP => ?_; simp only [Q73]
 simp +decide (disch := first | omega | rfl | (simp +decide only [go_sem, ↓reduceIte, Qsp] <;> rfl) | fail) only [go_sem, ↓reduceIte, Qsp]
 refine Qy (by repeat (first | exact Qv | exact Qp | exact Qq | exact Qr | apply Qo | apply Qu | apply Qz | apply Q8 | apply Q9 | apply Qn | apply Qaf)) [(4, 5), (12, 29)] [] (fun k J hp => k <= max a.length b.length /\ val (a.drop k) = val (b.drop k) /\ J 5 = .int .i64 ((k : Int) - 1)) (max a.length b.length) ?_ ?_
 ·refine ⟨Nat.le_refl _, ?_, ?_⟩
  ·rw [List.drop_of_length_le (by omega), List.drop_of_length_le (by omega)]
  ·simp +decide (disch := first | omega | rfl | (simp +decide only [go_sem, ↓reduceIte] <;> rfl) | fail) only [go_sem, ↓reduceIte]
 rintro k J h ⟨hk, hv, h5⟩
 simp +decide (disch := first | omega | rfl | (simp +decide only [go_sem, ↓reduceIte, h5] <;> rfl) | fail) only [go_sem, ↓reduceIte, h5]
 refine Qb (fun hg => ?_) (fun hg => ?_)
 ·obtain _ | n := k
  ·omega
  have e : ((n + 1 : Nat) : Int) - 1 = n := by omega
  have e1 := Qgi a n
  have e2 := Qgi b n
  have d1 := Qmh ha n
  have d2 := Qmh hb n
  simp +decide (disch := first | omega | rfl | (simp +decide only [go_sem, ↓reduceIte, h5, e] <;> rfl) | fail) only [go_sem, ↓reduceIte, h5, e]
  refine Qa hP (Qbh ha (by omega)) rfl rfl rfl ?_
  simp +decide (disch := first | omega | rfl | (simp +decide only [go_sem, ↓reduceIte, h5, e] <;> rfl) | fail) only [go_sem, ↓reduceIte, h5, e]
  refine Qa hP (Qbh hb (by omega)) rfl rfl rfl ?_
  simp +decide (disch := first | omega | rfl | (simp +decide only [go_sem, ↓reduceIte, h5, e] <;> rfl) | fail) only [go_sem, ↓reduceIte, h5, e]
  refine Qb (fun hc => ?_) (fun hc => ?_)
  ·have hlt := Qpd (a := a) (b := b) ha (i := n) (by omega)
   simp +decide (disch := first | omega | rfl | (simp +decide only [go_sem, ↓reduceIte] <;> rfl) | fail) only [go_sem, ↓reduceIte]
   exact Qc (by rw [Qse hlt]) rfl
  simp +decide (disch := first | omega | rfl | (simp +decide only [go_sem, ↓reduceIte, h5, e] <;> rfl) | fail) only [go_sem, ↓reduceIte, h5, e]
  refine Qa hP (Qbh ha (by omega)) rfl rfl rfl ?_
  simp +decide (disch := first | omega | rfl | (simp +decide only [go_sem, ↓reduceIte, h5, e] <;> rfl) | fail) only [go_sem, ↓reduceIte, h5, e]
  refine Qa hP (Qbh hb (by omega)) rfl rfl rfl ?_
  simp +decide (disch := first | omega | rfl | (simp +decide only [go_sem, ↓reduceIte, h5, e] <;> rfl) | fail) only [go_sem, ↓reduceIte, h5, e]
  refine Qb (fun hc2 => ?_) (fun hc2 => ?_)
  ·have hlt := Qpd (a := b) (b := a) hb (i := n) (by omega)
   simp +decide (disch := first | omega | rfl | (simp +decide only [go_sem, ↓reduceIte] <;> rfl) | fail) only [go_sem, ↓reduceIte]
   exact Qc (by rw [Qsf hlt]) rfl
  ·simp +decide (disch := first | omega | rfl | (simp +decide only [go_sem, ↓reduceIte, h5, e] <;> rfl) | fail) only [go_sem, ↓reduceIte, h5, e]
   refine Ql n (by omega) ⟨by omega, by omega, ?_⟩
   simp +decide (disch := first | omega | rfl | (simp +decide only [go_sem, ↓reduceIte] <;> rfl) | fail) only [go_sem, ↓reduceIte]
 ·obtain rfl : k = 0 := by omega
  simp +decide (disch := first | omega | rfl | (simp +decide only [go_sem, ↓reduceIte] <;> rfl) | fail) only [go_sem, ↓reduceIte]
  exact Qc (by rw [Qxy (by simpa using hv)]) rfl
end Go.Proofs.YtmnkngmmfnncoaaGreat
namespace Go.Proofs.YtmnkngmmfnncoaaGreat
open Go Go.FW
set_option linter.unusedSimpArgs false
set_option linter.unusedVariables false
set_option maxRecDepth 100000
theorem Qm4 {a : List Nat} (ha : Qi a) (hl : a.length < 2 ^ 43) : Qe Tryz.prog 119 [PV.nat a] (· = .bool (decide (a.getLast? ≠ some 0))) := by
 refine Qg Qk Tryz.func119 rfl Qac3 (by simp [Q8a]) fun C hP => ?_; simp only [Q8a]
 simp +decide (disch := first | omega | rfl | (simp +decide only [go_sem, ↓reduceIte] <;> rfl) | fail) only [go_sem, ↓reduceIte]
 refine Q6 (fun h0 => ?_) (fun h0 => ?_)
 ·have : a = [] := List.length_eq_zero_iff.1 (by omega)
  subst this
  simp +decide (disch := first | omega | rfl | (simp +decide only [go_sem, ↓reduceIte] <;> rfl) | fail) only [go_sem, ↓reduceIte]
  exact Qc (by simp) rfl
 ·obtain ⟨k, hk⟩ : ∃ k, a.length = k + 1 := ⟨a.length - 1, by omega⟩
  have hlast := Qvz hk
  have e : ((k + 1 : Nat) : Int) - 1 = k := by omega
  generalize hy : a[k]'(by omega) = y at *
  simp +decide (disch := first | omega | rfl | (simp +decide only [go_sem, ↓reduceIte, hk, e, hy] <;> rfl) | fail) only [go_sem, ↓reduceIte, hk, e, hy]
  refine Qc (congrArg PV.bool ?_) rfl
  rw [hlast]
  exact decide_eq_decide.2 ⟨fun h h' => h (by injection h' with h'; rw [h']; rfl), fun h h' => h (by rw [show y = 0 by omega])⟩
theorem Qwp {a b : List Nat} (hla : a.length < 2 ^ 43) (hlb : b.length < 2 ^ 43) : Qe Tryz.prog 88 [PV.nat a, PV.nat b] (· = .bool (decide (a = b))) := by
 refine Qg Qk Tryz.func88 rfl Qaf0 (by simp [c88]) fun C hP => ?_; simp only [c88]
 simp +decide (disch := first | omega | rfl | (simp +decide only [go_sem, ↓reduceIte] <;> rfl) | fail) only [go_sem, ↓reduceIte]
 refine Qb (fun h0 => ?_) (fun h0 => ?_)
 ·simp +decide (disch := first | omega | rfl | (simp +decide only [go_sem, ↓reduceIte] <;> rfl) | fail) only [go_sem, ↓reduceIte]
  exact Qc (congrArg PV.bool (by rw [decide_eq_false]; rintro rfl; exact h0 rfl)) rfl
 have hlen : a.length = b.length := by omega
 simp +decide (disch := first | omega | rfl | (simp +decide only [go_sem, ↓reduceIte] <;> rfl) | fail) only [go_sem, ↓reduceIte]
 refine Qy (by repeat (first | exact Qv | exact Qp | exact Qq | exact Qr | apply Qo | apply Qu | apply Qz | apply Q8 | apply Q9 | apply Qn | apply Qaf)) [(4, 5), (11, 25)] [] (fun n J hp => ∃ i, n = a.length - i /\ i <= a.length /\ a.take i = b.take i /\ J 5 = .int .i64 (i : Nat)) a.length ?_ ?_
 ·refine ⟨0, rfl, by omega, by simp, ?_⟩
  simp +decide (disch := first | omega | rfl | (simp +decide only [go_sem, ↓reduceIte] <;> rfl) | fail) only [go_sem, ↓reduceIte]
  rfl
 rintro _ J h ⟨i, rfl, hi, he, h5⟩
 simp +decide (disch := first | omega | rfl | (simp +decide only [go_sem, ↓reduceIte, h5] <;> rfl) | fail) only [go_sem, ↓reduceIte, h5]
 refine Qb (fun hg => ?_) (fun hg => ?_)
 ·have hi' : i < a.length := by omega
  have hib : i < b.length := by omega
  have ta := List.take_succ_eq_append_getElem hi'
  have tb := List.take_succ_eq_append_getElem hib
  have hne : a = b -> a[i] = b[i] := fun h => by subst h; rfl
  generalize hx : a[i] = x at *
  generalize hy : b[i] = y at *
  simp +decide (disch := first | omega | rfl | (simp +decide only [go_sem, ↓reduceIte, h5, hx, hy] <;> rfl) | fail) only [go_sem, ↓reduceIte, h5, hx, hy]
  refine Qb (fun hc => ?_) (fun hc => ?_)
  ·simp +decide (disch := first | omega | rfl | (simp +decide only [go_sem, ↓reduceIte] <;> rfl) | fail) only [go_sem, ↓reduceIte]
   exact Qc (congrArg PV.bool (by rw [decide_eq_false]; intro h; exact hc (by rw [hne h]))) rfl
  ·simp +decide (disch := first | omega | rfl | (simp +decide only [go_sem, ↓reduceIte, h5] <;> rfl) | fail) only [go_sem, ↓reduceIte, h5]
   refine Ql (a.length - (i + 1)) (by omega) ⟨i + 1, rfl, by omega, by rw [ta, tb, he, show x = y by omega], ?_⟩
   simp +decide (disch := first | omega | rfl | (simp +decide only [go_sem, ↓reduceIte] <;> rfl) | fail) only [go_sem, ↓reduceIte]
 ·obtain rfl : i = a.length := by omega
  rw [List.take_length, hlen, List.take_length] at he
  simp +decide (disch := first | omega | rfl | (simp +decide only [go_sem, ↓reduceIte] <;> rfl) | fail) only [go_sem, ↓reduceIte]
  exact Qc (congrArg PV.bool (by rw [he]; simp)) rfl
theorem Qpj {a b : List Nat} (ha : Qi a) (hb : Qi b) (hla : a.length < 2 ^ 40) (hlb : b.length < 2 ^ 40) : Qe Tryz.prog 171 [PV.nat a, PV.nat b] (· = PV.num (val a + val b)) := by
 refine Qg Qk Tryz.func171 rfl Qacx (by simp [Q74]) fun C hP => ?_; simp only [Q74]
 simp +decide (disch := first | omega | rfl | (simp +decide only [go_sem, ↓reduceIte] <;> rfl) | fail) only [go_sem, ↓reduceIte]
 refine Qi6 5 900 1 156 (by omega) (by simp +decide (disch := first | omega | rfl | (simp +decide only [go_sem, ↓reduceIte] <;> rfl) | fail) only [go_sem, ↓reduceIte]) ?_
 refine Qy (by repeat (first | exact Qv | exact Qp | exact Qq | exact Qr | apply Qo | apply Qu | apply Qz | apply Q8 | apply Q9 | apply Qn | apply Qaf)) [(5, 41)] [38, 39, 900] (fun m J hp => ∃ (i c : Nat) (out : List Nat), m = 2 * (max a.length b.length - i) + c /\ c <= 1 /\ i <= max a.length b.length + 1 /\ (i <= max a.length b.length ∨ c = 0) /\ out.length = i /\ Qi out /\ val out + 65536 ^ i * (c + val (a.drop i) + val (b.drop i)) = val a + val b /\ J 5 = .ms 900 out.length /\ J 6 = .int .i64 c /\ J 7 = .int .i64 i /\ hp 900 = some ⟨1, 156, Qa2 out, false⟩) (2 * max a.length b.length) ?_ ?_
 ·refine ⟨0, 0, [], rfl, by omega, by omega, by omega, rfl, Qcg, by simp [val], ?_⟩
  simp +decide (disch := first | omega | rfl | (simp +decide only [go_sem, ↓reduceIte] <;> rfl) | fail) only [go_sem, ↓reduceIte]
  simp
 rintro _ J h ⟨i, c, out, rfl, hc, hi, hi2, hol, hout, hv, h5, h6, h7, hh⟩
 have e1 := Qgi a i
 have e2 := Qgi b i
 have d1 := Qmh ha i
 have d2 := Qmh hb i
 simp +decide (disch := first | omega | rfl | (simp +decide only [go_sem, ↓reduceIte, h5, h6, h7] <;> rfl) | fail) only [go_sem, ↓reduceIte, h5, h6, h7]
 refine Q6 (fun hg => ?_) (fun hg => ?_)
 ·have hlt : i < max a.length b.length := by omega
  have hs1 : (dg a i + dg b i + c) / 65536 <= 1 := by omega
  have hstep : val (out ++ [(dg a i + dg b i + c) % 65536]) + 65536 ^ (i + 1) * ((dg a i + dg b i + c) / 65536 + val (a.drop (i + 1)) + val (b.drop (i + 1))) = val a + val b := by
   rw [Qmj, hol, Nat.pow_succ, <- hv, e1, e2]
   have := Nat.div_add_mod (dg a i + dg b i + c) 65536
   generalize 65536 ^ i = P at *
   generalize (dg a i + dg b i + c) / 65536 = q at *
   generalize (dg a i + dg b i + c) % 65536 = r at *
   have e : c + (dg a i + 65536 * val (a.drop (i + 1))) + (dg b i + 65536 * val (b.drop (i + 1))) = r + 65536 * (q + val (a.drop (i + 1)) + val (b.drop (i + 1))) := by omega
   rw [e, Nat.mul_add P, Nat.mul_assoc]; omega
  simp +decide (disch := first | omega | rfl | (simp +decide only [go_sem, ↓reduceIte, h5, h6, h7] <;> rfl) | fail) only [go_sem, ↓reduceIte, h5, h6, h7]
  refine Qa hP (Qbh ha (by omega)) rfl rfl rfl ?_
  simp +decide (disch := first | omega | rfl | (simp +decide only [go_sem, ↓reduceIte, h5, h6, h7] <;> rfl) | fail) only [go_sem, ↓reduceIte, h5, h6, h7]
  refine Qa hP (Qbh hb (by omega)) rfl rfl rfl ?_
  simp +decide (disch := first | omega | rfl | (simp +decide only [go_sem, ↓reduceIte, h5, h6, h7, Nat.mod_mod] <;> rfl) | fail) only [go_sem, ↓reduceIte, h5, h6, h7, Nat.mod_mod]
  rw [Qak (f := fun (x : Nat) => .int .u16 x) (y := (dg a i + dg b i + c) % 65536) (xs := out) (ty' := 156) (fz := false) (by simp +decide (disch := first | omega | rfl | (simp +decide only [go_sem, ↓reduceIte, hh] <;> rfl) | fail) only [go_sem, ↓reduceIte, hh]) (by simp +decide (disch := first | omega | rfl | (simp +decide only [go_sem, ↓reduceIte] <;> rfl) | fail) only [go_sem, ↓reduceIte] <;> rfl) (by omega) rfl (by omega) (by omega)]
  simp +decide (disch := first | omega | rfl | (simp +decide only [go_sem, ↓reduceIte, h5, h6, h7] <;> rfl) | fail) only [go_sem, ↓reduceIte, h5, h6, h7]
  refine Ql (2 * (max a.length b.length - (i + 1)) + (dg a i + dg b i + c) / 65536) ?_ ⟨i + 1, (dg a i + dg b i + c) / 65536, out ++ [(dg a i + dg b i + c) % 65536], rfl, hs1, by omega, ?_, by simp [hol], ?_, hstep, ?_⟩
  ·by_cases hlt : i < max a.length b.length
   ·omega
   ·have z1 : dg a i = 0 := by rw [dg, Qbe (by omega)]
    have z2 : dg b i = 0 := by rw [dg, Qbe (by omega)]
    rw [z1, z2]; omega
  ·by_cases hlt : i < max a.length b.length
   ·omega
   ·have z1 : dg a i = 0 := by rw [dg, Qbe (by omega)]
    have z2 : dg b i = 0 := by rw [dg, Qbe (by omega)]
    rw [z1, z2]; omega
  ·rw [Qbk]; exact ⟨hout, by intro z hz; simp at hz; omega⟩
  ·simp +decide (disch := first | omega | rfl | (simp +decide only [go_sem, ↓reduceIte] <;> rfl) | fail) only [go_sem, ↓reduceIte]
   simp
 simp +decide (disch := first | omega | rfl | (simp +decide only [go_sem, ↓reduceIte, h5, h6, h7] <;> rfl) | fail) only [go_sem, ↓reduceIte, h5, h6, h7]
 refine Q6 (fun hg2 => ?_) (fun hg2 => ?_)
 ·have hlt : i < max a.length b.length := by omega
  have hs1 : (dg a i + dg b i + c) / 65536 <= 1 := by omega
  have hstep : val (out ++ [(dg a i + dg b i + c) % 65536]) + 65536 ^ (i + 1) * ((dg a i + dg b i + c) / 65536 + val (a.drop (i + 1)) + val (b.drop (i + 1))) = val a + val b := by
   rw [Qmj, hol, Nat.pow_succ, <- hv, e1, e2]
   have := Nat.div_add_mod (dg a i + dg b i + c) 65536
   generalize 65536 ^ i = P at *
   generalize (dg a i + dg b i + c) / 65536 = q at *
   generalize (dg a i + dg b i + c) % 65536 = r at *
   have e : c + (dg a i + 65536 * val (a.drop (i + 1))) + (dg b i + 65536 * val (b.drop (i + 1))) = r + 65536 * (q + val (a.drop (i + 1)) + val (b.drop (i + 1))) := by omega
   rw [e, Nat.mul_add P, Nat.mul_assoc]; omega
  simp +decide (disch := first | omega | rfl | (simp +decide only [go_sem, ↓reduceIte, h5, h6, h7] <;> rfl) | fail) only [go_sem, ↓reduceIte, h5, h6, h7]
  refine Qa hP (Qbh ha (by omega)) rfl rfl rfl ?_
  simp +decide (disch := first | omega | rfl | (simp +decide only [go_sem, ↓reduceIte, h5, h6, h7] <;> rfl) | fail) only [go_sem, ↓reduceIte, h5, h6, h7]
  refine Qa hP (Qbh hb (by omega)) rfl rfl rfl ?_
  simp +decide (disch := first | omega | rfl | (simp +decide only [go_sem, ↓reduceIte, h5, h6, h7, Nat.mod_mod] <;> rfl) | fail) only [go_sem, ↓reduceIte, h5, h6, h7, Nat.mod_mod]
  rw [Qak (f := fun (x : Nat) => .int .u16 x) (y := (dg a i + dg b i + c) % 65536) (xs := out) (ty' := 156) (fz := false) (by simp +decide (disch := first | omega | rfl | (simp +decide only [go_sem, ↓reduceIte, hh] <;> rfl) | fail) only [go_sem, ↓reduceIte, hh]) (by simp +decide (disch := first | omega | rfl | (simp +decide only [go_sem, ↓reduceIte] <;> rfl) | fail) only [go_sem, ↓reduceIte] <;> rfl) (by omega) rfl (by omega) (by omega)]
  simp +decide (disch := first | omega | rfl | (simp +decide only [go_sem, ↓reduceIte, h5, h6, h7] <;> rfl) | fail) only [go_sem, ↓reduceIte, h5, h6, h7]
  refine Ql (2 * (max a.length b.length - (i + 1)) + (dg a i + dg b i + c) / 65536) ?_ ⟨i + 1, (dg a i + dg b i + c) / 65536, out ++ [(dg a i + dg b i + c) % 65536], rfl, hs1, by omega, ?_, by simp [hol], ?_, hstep, ?_⟩
  ·by_cases hlt : i < max a.length b.length
   ·omega
   ·have z1 : dg a i = 0 := by rw [dg, Qbe (by omega)]
    have z2 : dg b i = 0 := by rw [dg, Qbe (by omega)]
    rw [z1, z2]; omega
  ·by_cases hlt : i < max a.length b.length
   ·omega
   ·have z1 : dg a i = 0 := by rw [dg, Qbe (by omega)]
    have z2 : dg b i = 0 := by rw [dg, Qbe (by omega)]
    rw [z1, z2]; omega
  ·rw [Qbk]; exact ⟨hout, by intro z hz; simp at hz; omega⟩
  ·simp +decide (disch := first | omega | rfl | (simp +decide only [go_sem, ↓reduceIte] <;> rfl) | fail) only [go_sem, ↓reduceIte]
   simp
 simp +decide (disch := first | omega | rfl | (simp +decide only [go_sem, ↓reduceIte, h5, h6, h7] <;> rfl) | fail) only [go_sem, ↓reduceIte, h5, h6, h7]
 refine Qb (fun hg3 => ?_) (fun hg3 => ?_)
 ·have hib : i <= max a.length b.length := by omega
  have hs1 : (dg a i + dg b i + c) / 65536 <= 1 := by omega
  have hstep : val (out ++ [(dg a i + dg b i + c) % 65536]) + 65536 ^ (i + 1) * ((dg a i + dg b i + c) / 65536 + val (a.drop (i + 1)) + val (b.drop (i + 1))) = val a + val b := by
   rw [Qmj, hol, Nat.pow_succ, <- hv, e1, e2]
   have := Nat.div_add_mod (dg a i + dg b i + c) 65536
   generalize 65536 ^ i = P at *
   generalize (dg a i + dg b i + c) / 65536 = q at *
   generalize (dg a i + dg b i + c) % 65536 = r at *
   have e : c + (dg a i + 65536 * val (a.drop (i + 1))) + (dg b i + 65536 * val (b.drop (i + 1))) = r + 65536 * (q + val (a.drop (i + 1)) + val (b.drop (i + 1))) := by omega
   rw [e, Nat.mul_add P, Nat.mul_assoc]; omega
  simp +decide (disch := first | omega | rfl | (simp +decide only [go_sem, ↓reduceIte, h5, h6, h7] <;> rfl) | fail) only [go_sem, ↓reduceIte, h5, h6, h7]
  refine Qa hP (Qbh ha (by omega)) rfl rfl rfl ?_
  simp +decide (disch := first | omega | rfl | (simp +decide only [go_sem, ↓reduceIte, h5, h6, h7] <;> rfl) | fail) only [go_sem, ↓reduceIte, h5, h6, h7]
  refine Qa hP (Qbh hb (by omega)) rfl rfl rfl ?_
  simp +decide (disch := first | omega | rfl | (simp +decide only [go_sem, ↓reduceIte, h5, h6, h7, Nat.mod_mod] <;> rfl) | fail) only [go_sem, ↓reduceIte, h5, h6, h7, Nat.mod_mod]
  rw [Qak (f := fun (x : Nat) => .int .u16 x) (y := (dg a i + dg b i + c) % 65536) (xs := out) (ty' := 156) (fz := false) (by simp +decide (disch := first | omega | rfl | (simp +decide only [go_sem, ↓reduceIte, hh] <;> rfl) | fail) only [go_sem, ↓reduceIte, hh]) (by simp +decide (disch := first | omega | rfl | (simp +decide only [go_sem, ↓reduceIte] <;> rfl) | fail) only [go_sem, ↓reduceIte] <;> rfl) (by omega) rfl (by omega) (by omega)]
  simp +decide (disch := first | omega | rfl | (simp +decide only [go_sem, ↓reduceIte, h5, h6, h7] <;> rfl) | fail) only [go_sem, ↓reduceIte, h5, h6, h7]
  refine Ql (2 * (max a.length b.length - (i + 1)) + (dg a i + dg b i + c) / 65536) ?_ ⟨i + 1, (dg a i + dg b i + c) / 65536, out ++ [(dg a i + dg b i + c) % 65536], rfl, hs1, by omega, ?_, by simp [hol], ?_, hstep, ?_⟩
  ·by_cases hlt : i < max a.length b.length
   ·omega
   ·have z1 : dg a i = 0 := by rw [dg, Qbe (by omega)]
    have z2 : dg b i = 0 := by rw [dg, Qbe (by omega)]
    rw [z1, z2]; omega
  ·by_cases hlt : i < max a.length b.length
   ·omega
   ·have z1 : dg a i = 0 := by rw [dg, Qbe (by omega)]
    have z2 : dg b i = 0 := by rw [dg, Qbe (by omega)]
    rw [z1, z2]; omega
  ·rw [Qbk]; exact ⟨hout, by intro z hz; simp at hz; omega⟩
  ·simp +decide (disch := first | omega | rfl | (simp +decide only [go_sem, ↓reduceIte] <;> rfl) | fail) only [go_sem, ↓reduceIte]
   simp
 ·obtain rfl : c = 0 := by omega
  rw [List.drop_of_length_le (by omega), List.drop_of_length_le (by omega)] at hv
  simp only [val, Nat.add_zero, Nat.mul_zero] at hv
  simp +decide (disch := first | omega | rfl | (simp +decide only [go_sem, ↓reduceIte, h5, hh] <;> rfl) | fail) only [go_sem, ↓reduceIte, h5, hh]
  refine Qfn hP (Qbm hout (by omega)) (by simp +decide (disch := first | omega | rfl | (simp +decide only [go_sem, ↓reduceIte, hh, Qd, List.contains_cons, List.contains_nil, List.flatMap_cons, List.flatMap_nil, List.append_nil] <;> rfl) | fail) only [go_sem, ↓reduceIte, hh, Qd, List.contains_cons, List.contains_nil, List.flatMap_cons, List.flatMap_nil, List.append_nil]; simp [List.take_of_length_le]) rfl fun hp' => ?_
  simp +decide (disch := first | omega | rfl | (simp +decide only [go_sem, ↓reduceIte] <;> rfl) | fail) only [go_sem, ↓reduceIte]
  exact Qc (by rw [hv]) rfl
end Go.Proofs.YtmnkngmmfnncoaaGreat
namespace Go.Proofs.YtmnkngmmfnncoaaGreat
open Go Go.FW
set_option linter.unusedSimpArgs false
set_option linter.unusedVariables false
set_option maxRecDepth 100000
theorem Qkz {a b : List Nat} (ha : Qi a) (hb : Qi b) (hla : a.length < 2 ^ 40) (hlb : b.length < 2 ^ 40) : Qe Tryz.prog 208 [PV.nat a, PV.nat b] (· = if val a < val b then .tup [PV.num 0, .int .i64 2] else .tup [PV.num (val a - val b), .int .i64 0]) := by
 refine Qg Qk Tryz.func208 rfl Qacy (by simp [Q75]) fun C hP => ?_; simp only [Q75]
 simp +decide (disch := first | omega | rfl | (simp +decide only [go_sem, ↓reduceIte] <;> rfl) | fail) only [go_sem, ↓reduceIte]
 refine Qa hP (Qhx ha hb (by omega) (by omega)) rfl rfl rfl ?_
 simp +decide (disch := first | omega | rfl | (simp +decide only [go_sem, ↓reduceIte] <;> rfl) | fail) only [go_sem, ↓reduceIte]
 refine Qb (fun hc => ?_) (fun hc => ?_)
 ·rw [if_pos (Ql8.1 hc)]
  simp +decide (disch := first | omega | rfl | (simp +decide only [go_sem, ↓reduceIte] <;> rfl) | fail) only [go_sem, ↓reduceIte]
  exact Qfe rfl rfl rfl Qg8 (Qt _)
 have hge : ¬ val a < val b := fun h => hc (Ql8.2 h)
 rw [if_neg hge]
 simp +decide (disch := first | omega | rfl | (simp +decide only [go_sem, ↓reduceIte] <;> rfl) | fail) only [go_sem, ↓reduceIte]
 refine Qi6 6 900 1 156 (by omega) (by simp +decide (disch := first | omega | rfl | (simp +decide only [go_sem, ↓reduceIte] <;> rfl) | fail) only [go_sem, ↓reduceIte]) ?_
 refine Qy (by repeat (first | exact Qv | exact Qp | exact Qq | exact Qr | apply Qo | apply Qu | apply Qz | apply Q8 | apply Q9 | apply Qn | apply Qaf)) [(6, 9), (14, 37)] [36, 37, 900] (fun m J hp => ∃ (i c : Nat) (out : List Nat), m = a.length - i /\ c <= 1 /\ i <= a.length /\ out.length = i /\ Qi out /\ val (a.take i) + 65536 ^ i * c = val out + val (b.take i) /\ J 6 = .ms 900 out.length /\ J 7 = .int .i64 c /\ J 8 = .int .i64 i /\ hp 900 = some ⟨1, 156, Qa2 out, false⟩) a.length ?_ ?_
 ·refine ⟨0, 0, [], rfl, by omega, by omega, rfl, Qcg, by simp [val], ?_⟩
  simp +decide (disch := first | omega | rfl | (simp +decide only [go_sem, ↓reduceIte] <;> rfl) | fail) only [go_sem, ↓reduceIte]
  simp
 rintro _ J h ⟨i, c, out, rfl, hc1, hi, hol, hout, hv, h6, h7, h8, hh⟩
 simp +decide (disch := first | omega | rfl | (simp +decide only [go_sem, ↓reduceIte, h6, h7, h8] <;> rfl) | fail) only [go_sem, ↓reduceIte, h6, h7, h8]
 refine Qb (fun hg => ?_) (fun hg => ?_)
 ·have hi' : i < a.length := by omega
  have e1 := Qlh a i
  have e2 := Qlh b i
  have d1 := Qmh ha i
  have d2 := Qmh hb i
  simp +decide (disch := first | omega | rfl | (simp +decide only [go_sem, ↓reduceIte, h6, h7, h8] <;> rfl) | fail) only [go_sem, ↓reduceIte, h6, h7, h8]
  refine Qa hP (Qbh ha (by omega)) rfl rfl rfl ?_
  simp +decide (disch := first | omega | rfl | (simp +decide only [go_sem, ↓reduceIte, h6, h7, h8] <;> rfl) | fail) only [go_sem, ↓reduceIte, h6, h7, h8]
  refine Qa hP (Qbh hb (by omega)) rfl rfl rfl ?_
  simp +decide (disch := first | omega | rfl | (simp +decide only [go_sem, ↓reduceIte, h6, h7, h8] <;> rfl) | fail) only [go_sem, ↓reduceIte, h6, h7, h8]
  have step : ∀ (d c' : Nat), d < 65536 -> c' <= 1 -> dg a i + 65536 * c' = d + dg b i + c -> val (a.take (i + 1)) + 65536 ^ (i + 1) * c' = val (out ++ [d]) + val (b.take (i + 1)) := fun d c' _ _ h3 => by
   rw [Qmj, hol, e1, e2, Nat.pow_succ]
   generalize 65536 ^ i = P at *
   have : P * (dg a i + 65536 * c') = P * (d + dg b i + c) := by rw [h3]
   rw [Nat.mul_add, <- Nat.mul_assoc, Nat.mul_add, Nat.mul_add] at this
   omega
  refine Qb (fun hd => ?_) (fun hd => ?_)
  ·obtain ⟨d, hd1⟩ : ∃ d : Nat, (dg a i : Int) - (dg b i : Int) - (c : Int) + 65536 = d := ⟨((dg a i : Int) - (dg b i : Int) - (c : Int) + 65536).toNat, by omega⟩
   have hst := step d 1 (by omega) (by omega) (by omega)
   simp +decide (disch := first | omega | rfl | (simp +decide only [go_sem, ↓reduceIte, h6, h7, h8, hd1] <;> rfl) | fail) only [go_sem, ↓reduceIte, h6, h7, h8, hd1]
   rw [Qak (f := fun (x : Nat) => .int .u16 x) (y := d) (xs := out) (ty' := 156) (fz := false) (by simp +decide (disch := first | omega | rfl | (simp +decide only [go_sem, ↓reduceIte, hh] <;> rfl) | fail) only [go_sem, ↓reduceIte, hh]) (by simp +decide (disch := first | omega | rfl | (simp +decide only [go_sem, ↓reduceIte, Nat.mod_eq_of_lt (by omega : d < 65536)] <;> rfl) | fail) only [go_sem, ↓reduceIte, Nat.mod_eq_of_lt (by omega : d < 65536)]) (by omega) rfl (by omega) (by omega)]
   simp +decide (disch := first | omega | rfl | (simp +decide only [go_sem, ↓reduceIte, h6, h7, h8] <;> rfl) | fail) only [go_sem, ↓reduceIte, h6, h7, h8]
   refine Ql (a.length - (i + 1)) (by omega) ⟨i + 1, 1, out ++ [d], rfl, by omega, by omega, by simp [hol], ?_, hst, ?_⟩
   ·rw [Qbk]; exact ⟨hout, by intro z hz; simp at hz; omega⟩
   ·simp +decide (disch := first | omega | rfl | (simp +decide only [go_sem, ↓reduceIte] <;> rfl) | fail) only [go_sem, ↓reduceIte]
    simp
  ·obtain ⟨d, hd1⟩ : ∃ d : Nat, (dg a i : Int) - (dg b i : Int) - (c : Int) = d := ⟨((dg a i : Int) - (dg b i : Int) - (c : Int)).toNat, by omega⟩
   have hst := step d 0 (by omega) (by omega) (by omega)
   simp +decide (disch := first | omega | rfl | (simp +decide only [go_sem, ↓reduceIte, h6, h7, h8, hd1] <;> rfl) | fail) only [go_sem, ↓reduceIte, h6, h7, h8, hd1]
   rw [Qak (f := fun (x : Nat) => .int .u16 x) (y := d) (xs := out) (ty' := 156) (fz := false) (by simp +decide (disch := first | omega | rfl | (simp +decide only [go_sem, ↓reduceIte, hh] <;> rfl) | fail) only [go_sem, ↓reduceIte, hh]) (by simp +decide (disch := first | omega | rfl | (simp +decide only [go_sem, ↓reduceIte, Nat.mod_eq_of_lt (by omega : d < 65536)] <;> rfl) | fail) only [go_sem, ↓reduceIte, Nat.mod_eq_of_lt (by omega : d < 65536)]) (by omega) rfl (by omega) (by omega)]
   simp +decide (disch := first | omega | rfl | (simp +decide only [go_sem, ↓reduceIte, h6, h7, h8] <;> rfl) | fail) only [go_sem, ↓reduceIte, h6, h7, h8]
   refine Ql (a.length - (i + 1)) (by omega) ⟨i + 1, 0, out ++ [d], rfl, by omega, by omega, by simp [hol], ?_, hst, ?_⟩
   ·rw [Qbk]; exact ⟨hout, by intro z hz; simp at hz; omega⟩
   ·simp +decide (disch := first | omega | rfl | (simp +decide only [go_sem, ↓reduceIte] <;> rfl) | fail) only [go_sem, ↓reduceIte]
    simp
 ·obtain rfl : i = a.length := by omega
  have hbz : val (b.drop a.length) = 0 := Qhs (by have := Qe6 ha; omega)
  have hbs := Qmi b a.length
  rw [hbz, Nat.mul_zero, Nat.add_zero] at hbs
  rw [List.take_length, <- hbs] at hv
  have hvo := Qe6 hout
  rw [hol] at hvo
  have hc0 : c = 0 := by
   match c, hc1 with
   | 0, _ => rfl
   | 1, _ => exfalso; have := Qe6 ha; omega
  subst hc0
  simp +decide (disch := first | omega | rfl | (simp +decide only [go_sem, ↓reduceIte, h6, hh] <;> rfl) | fail) only [go_sem, ↓reduceIte, h6, hh]
  refine Qfn hP (Qbm hout (by omega)) (by simp +decide (disch := first | omega | rfl | (simp +decide only [go_sem, ↓reduceIte, hh, Qd, List.contains_cons, List.contains_nil, List.flatMap_cons, List.flatMap_nil, List.append_nil] <;> rfl) | fail) only [go_sem, ↓reduceIte, hh, Qd, List.contains_cons, List.contains_nil, List.flatMap_cons, List.flatMap_nil, List.append_nil]; simp [List.take_of_length_le]) rfl fun hp' => ?_
  simp +decide (disch := first | omega | rfl | (simp +decide only [go_sem, ↓reduceIte] <;> rfl) | fail) only [go_sem, ↓reduceIte]
  exact Qfe rfl rfl rfl (Qfo (congrArg PV.num (by omega))) (Qt _)
theorem Qk0 {a b : List Nat} (ha : Qi a) (hb : Qi b) (hla : a.length < 2 ^ 40) (hlb : b.length < 2 ^ 40) : Qe Tryz.prog 160 [PV.nat a, PV.nat b] (· = PV.num (val a * val b)) := by
 refine Qg Qk Tryz.func160 rfl Qacz (by simp [Q76]) fun C hP => ?_; simp only [Q76]
 simp +decide (disch := first | omega | rfl | (simp +decide only [go_sem, ↓reduceIte] <;> rfl) | fail) only [go_sem, ↓reduceIte]
 refine Qy (by repeat (first | exact Qv | exact Qp | exact Qq | exact Qr | apply Qo | apply Qu | apply Qz | apply Q8 | apply Q9 | apply Qn | apply Qaf)) [(6, 9), (17, 62)] [] (fun m J hp => ∃ (i : Nat) (L : List Nat), m = a.length - i /\ i <= a.length /\ L.length = a.length + b.length + 1 /\ Qi L /\ val L = val (a.take i) * val b /\ J 6 = .int .i64 i /\ hp = Qs hp0 16 ⟨1, 156, Qa2 L, false⟩) a.length ?_ ?_
 ·refine ⟨0, List.replicate (a.length + b.length + 1) 0, rfl, by omega, by simp, ?_, by simp [val, Qs6], ?_⟩
  ·intro z hz; rw [List.eq_of_mem_replicate hz]; omega
  ·simp +decide (disch := first | omega | rfl | (simp +decide only [go_sem, ↓reduceIte] <;> rfl) | fail) only [go_sem, ↓reduceIte]
   simp
 rintro _ J _ ⟨i, L, rfl, hi, hLl, hL, hv, h6, rfl⟩
 simp +decide (disch := first | omega | rfl | (simp +decide only [go_sem, ↓reduceIte, h6] <;> rfl) | fail) only [go_sem, ↓reduceIte, h6]
 refine Qb (fun hg => ?_) (fun hg => ?_)
 ·have hi' : i < a.length := by omega
  have hai := Qag ha hi'
  have hts := Qe8 hi'
  have hz0 : dg L (i + b.length) = 0 := by
   apply Qzj
   apply Qhs
   rw [hv, Nat.pow_add]
   have h1 := Qdl ha i (by omega)
   have h2 := Qe6 hb
   exact Nat.mul_lt_mul'' h1 h2
  generalize hxx : a[i] = ai at *
  simp +decide (disch := first | omega | rfl | (simp +decide only [go_sem, ↓reduceIte, h6, hxx] <;> rfl) | fail) only [go_sem, ↓reduceIte, h6, hxx]
  refine Qy (by repeat (first | exact Qv | exact Qp | exact Qq | exact Qr | apply Qo | apply Qu | apply Qz | apply Q8 | apply Q9 | apply Qn | apply Qaf)) [(7, 9), (23, 62)] [] (fun m J hp => ∃ (k c : Nat) (M : List Nat), m = b.length + 1 - k /\ k <= b.length + 1 /\ (k <= b.length ∨ c = 0) /\ c < 65536 /\ M.length = L.length /\ Qi M /\ val M + 65536 ^ (i + k) * (c + ai * val (b.drop k)) = val L + 65536 ^ i * (ai * val b) /\ (∀ j, i + k <= j -> dg M j = dg L j) /\ J 7 = .int .u64 c /\ J 8 = .int .i64 k /\ hp = Qs hp0 16 ⟨1, 156, Qa2 M, false⟩) (b.length + 1) ?_ ?_
  ·refine ⟨0, 0, L, rfl, by omega, by omega, by omega, rfl, hL, by simp, fun _ _ => rfl, ?_⟩
   simp +decide (disch := first | omega | rfl | (simp +decide only [go_sem, ↓reduceIte, h6] <;> rfl) | fail) only [go_sem, ↓reduceIte, h6]
   simp
  rintro _ J2 _ ⟨k, c, M, rfl, hk, hk2, hc, hMl, hM, hw, hsame, h7, h8, rfl⟩
  have e2 := Qgi b k
  have d2 := Qmh hb k
  simp +decide (disch := first | omega | rfl | (simp +decide only [go_sem, ↓reduceIte, h6, h7, h8] <;> rfl) | fail) only [go_sem, ↓reduceIte, h6, h7, h8]
  refine Q6 (fun hkb => ?_) (fun hkb => ?_)
  ·have hkb' : k <= b.length := by omega
   have hj : i + k < M.length := by omega
   have hx := Qag hM hj
   have hset := fun v => Qyc (v := v) hj
   have hmx := Qev hai d2
   have hdx : dg M (i + k) = M[i + k] := Qbd hj
   generalize hxm : M[i + k] = x at *
   have hdm := Nat.div_add_mod (x + ai * dg b k + c) 65536
   have hnew := Qti (T := val L + 65536 ^ i * (ai * val b)) (hset ((x + ai * dg b k + c) % 65536)) (by rw [<- e2]; exact hw) hdm
   have hr := Nat.mod_lt (x + ai * dg b k + c) (show 0 < 65536 by omega)
   have hq : (x + ai * dg b k + c) / 65536 < 65536 := by omega
   have hq0 : ¬ k < b.length -> (x + ai * dg b k + c) / 65536 = 0 := fun h => by
    have z1 : dg b k = 0 := by rw [dg, Qbe (by omega)]
    have z2 : x = 0 := by rw [<- hdx, hsame _ (Nat.le_refl _), show i + k = i + b.length by omega, hz0]
    rw [z1, z2]; omega
   have hlims : Qi (M.set (i + k) ((x + ai * dg b k + c) % 65536)) := fun z hz => by
    rcases List.mem_or_eq_of_mem_set hz with h | h
    ·exact hM z h
    ·omega
   have e5 : IntKind.u64.wrap ((ai * dg b k : Nat) : Int) = ((ai * dg b k : Nat) : Int) := Qez (by omega) (by omega)
   simp +decide (disch := first | omega | rfl | (simp +decide only [go_sem, ↓reduceIte, h6, h7, h8, hxx, hxm] <;> rfl) | fail) only [go_sem, ↓reduceIte, h6, h7, h8, hxx, hxm]
   refine Qa hP (Qbh hb (by omega)) rfl rfl rfl ?_
   simp +decide (disch := first | omega | rfl | (simp +decide only [go_sem, ↓reduceIte, h6, h7, h8, hxx, hxm, e5, Nat.mod_mod] <;> rfl) | fail) only [go_sem, ↓reduceIte, h6, h7, h8, hxx, hxm, e5, Nat.mod_mod]
   refine Ql (b.length + 1 - (k + 1)) (by omega) ⟨k + 1, (x + ai * dg b k + c) / 65536, M.set (i + k) ((x + ai * dg b k + c) % 65536), rfl, by omega, ?_, hq, by rw [List.length_set]; exact hMl, hlims, ?_, ?_, ?_⟩
   ·by_cases h : k < b.length
    ·omega
    ·exact .inr (hq0 h)
   ·rw [<- Nat.add_assoc, Nat.pow_succ]; exact hnew
   ·intro j hj2
    rw [Qtj (by omega)]; exact hsame j (by omega)
   ·simp +decide (disch := first | omega | rfl | (simp +decide only [go_sem, ↓reduceIte, h6, h7, h8] <;> rfl) | fail) only [go_sem, ↓reduceIte, h6, h7, h8]
  simp +decide (disch := first | omega | rfl | (simp +decide only [go_sem, ↓reduceIte, h6, h7, h8] <;> rfl) | fail) only [go_sem, ↓reduceIte, h6, h7, h8]
  refine Qb (fun hc0 => ?_) (fun hc0 => ?_)
  ·have hkb' : k <= b.length := by omega
   have hj : i + k < M.length := by omega
   have hx := Qag hM hj
   have hset := fun v => Qyc (v := v) hj
   have hmx := Qev hai d2
   have hdx : dg M (i + k) = M[i + k] := Qbd hj
   generalize hxm : M[i + k] = x at *
   have hdm := Nat.div_add_mod (x + ai * dg b k + c) 65536
   have hnew := Qti (T := val L + 65536 ^ i * (ai * val b)) (hset ((x + ai * dg b k + c) % 65536)) (by rw [<- e2]; exact hw) hdm
   have hr := Nat.mod_lt (x + ai * dg b k + c) (show 0 < 65536 by omega)
   have hq : (x + ai * dg b k + c) / 65536 < 65536 := by omega
   have hq0 : ¬ k < b.length -> (x + ai * dg b k + c) / 65536 = 0 := fun h => by
    have z1 : dg b k = 0 := by rw [dg, Qbe (by omega)]
    have z2 : x = 0 := by rw [<- hdx, hsame _ (Nat.le_refl _), show i + k = i + b.length by omega, hz0]
    rw [z1, z2]; omega
   have hlims : Qi (M.set (i + k) ((x + ai * dg b k + c) % 65536)) := fun z hz => by
    rcases List.mem_or_eq_of_mem_set hz with h | h
    ·exact hM z h
    ·omega
   have e5 : IntKind.u64.wrap ((ai * dg b k : Nat) : Int) = ((ai * dg b k : Nat) : Int) := Qez (by omega) (by omega)
   simp +decide (disch := first | omega | rfl | (simp +decide only [go_sem, ↓reduceIte, h6, h7, h8, hxx, hxm] <;> rfl) | fail) only [go_sem, ↓reduceIte, h6, h7, h8, hxx, hxm]
   refine Qa hP (Qbh hb (by omega)) rfl rfl rfl ?_
   simp +decide (disch := first | omega | rfl | (simp +decide only [go_sem, ↓reduceIte, h6, h7, h8, hxx, hxm, e5, Nat.mod_mod] <;> rfl) | fail) only [go_sem, ↓reduceIte, h6, h7, h8, hxx, hxm, e5, Nat.mod_mod]
   refine Ql (b.length + 1 - (k + 1)) (by omega) ⟨k + 1, (x + ai * dg b k + c) / 65536, M.set (i + k) ((x + ai * dg b k + c) % 65536), rfl, by omega, ?_, hq, by rw [List.length_set]; exact hMl, hlims, ?_, ?_, ?_⟩
   ·by_cases h : k < b.length
    ·omega
    ·exact .inr (hq0 h)
   ·rw [<- Nat.add_assoc, Nat.pow_succ]; exact hnew
   ·intro j hj2
    rw [Qtj (by omega)]; exact hsame j (by omega)
   ·simp +decide (disch := first | omega | rfl | (simp +decide only [go_sem, ↓reduceIte, h6, h7, h8] <;> rfl) | fail) only [go_sem, ↓reduceIte, h6, h7, h8]
  ·obtain rfl : c = 0 := by omega
   rw [List.drop_of_length_le (by omega)] at hw
   simp only [val, Nat.mul_zero, Nat.add_zero] at hw
   simp +decide (disch := first | omega | rfl | (simp +decide only [go_sem, ↓reduceIte, h6, h7, h8] <;> rfl) | fail) only [go_sem, ↓reduceIte, h6, h7, h8]
   simp (disch := decide) only [Qcr, Qle]
   refine Ql (a.length - (i + 1)) (by omega) ⟨i + 1, M, rfl, by omega, by omega, hM, ?_, ?_⟩
   ·rw [hw, hv, hts, Nat.add_mul, Nat.mul_assoc]
   ·simp +decide (disch := first | omega | rfl | (simp +decide only [go_sem, ↓reduceIte] <;> rfl) | fail) only [go_sem, ↓reduceIte]
 ·obtain rfl : i = a.length := by omega
  rw [List.take_length] at hv
  simp +decide (disch := first | omega | rfl | (simp +decide only [go_sem, ↓reduceIte] <;> rfl) | fail) only [go_sem, ↓reduceIte]
  refine Qfn hP (Qbm hL (by omega)) (by simp +decide (disch := first | omega | rfl | (simp +decide only [go_sem, ↓reduceIte, Qd, List.contains_cons, List.contains_nil, List.flatMap_cons, List.flatMap_nil, List.append_nil] <;> rfl) | fail) only [go_sem, ↓reduceIte, Qd, List.contains_cons, List.contains_nil, List.flatMap_cons, List.flatMap_nil, List.append_nil]; simp [List.take_of_length_le, hLl]) rfl fun hp' => ?_
  simp +decide (disch := first | omega | rfl | (simp +decide only [go_sem, ↓reduceIte] <;> rfl) | fail) only [go_sem, ↓reduceIte]
  exact Qc (by rw [hv]) rfl
end Go.Proofs.YtmnkngmmfnncoaaGreat
namespace Go.Proofs.YtmnkngmmfnncoaaGreat
open Go Go.FW
set_option linter.unusedSimpArgs false
set_option linter.unusedVariables false
set_option maxRecDepth 100000
theorem Qiz {x y : Nat} (hx : nl x < 2 ^ 40) (hy : nl y < 2 ^ 40) : Qe Tryz.prog 160 [PV.num x, PV.num y] (· = PV.num (x * y)) := by
 have := Qk0 (Qj x) (Qj y) hx hy
 rwa [Qw, Qw] at this
theorem Qz7 {x y : Nat} (hx : nl x < 2 ^ 42) (hy : nl y < 2 ^ 42) : Qe Tryz.prog 224 [PV.num x, PV.num y] (· = .int .i64 (Qdf x y)) := by
 have := Qhx (Qj x) (Qj y) hx hy
 rwa [Qw, Qw] at this
theorem Qrx {x y : Nat} (hx : nl x < 2 ^ 40) (hy : nl y < 2 ^ 40) (h : y <= x) : Qe Tryz.prog 208 [PV.num x, PV.num y] (· = .tup [PV.num (x - y), .int .i64 0]) := by
 have := Qkz (Qj x) (Qj y) hx hy
 rwa [Qw, Qw, if_neg (by omega)] at this
theorem Qyj {x y : Nat} : Qdf x y <= 0 ↔ x <= y := by unfold Qdf; split <;> (try split) <;> omega
theorem Qm5 {x y : Nat} (hx : nl x < 2 ^ 38) (hy : nl y < 2 ^ 38) (hy0 : 0 < y) : Qe Tryz.prog 210 [PV.num x, PV.num y] (· = .int .u64 (min 65535 (x / y) : Nat)) := by
 have hq2 : ∀ (n d : Nat) fr hp K, n < 18446744073709551616 -> Qa0 .quo false (.int .u64 (n : Int)) (.int .u64 2) d fr hp K = K (upd fr d (.int .u64 ((n / 2 : Nat) : Int))) hp := fun n d fr hp K h => by
  rw [show (2 : Int) = ((2 : Nat) : Int) from rfl, Qi5 (by omega) h]
 refine Qg Qk Tryz.func210 rfl Qac0 (by simp [Q77]) fun C hP => ?_; simp only [Q77]
 simp +decide (disch := first | omega | rfl | (simp +decide only [go_sem, ↓reduceIte] <;> rfl) | fail) only [go_sem, ↓reduceIte]
 refine Qy (by repeat (first | exact Qv | exact Qp | exact Qq | exact Qr | apply Qo | apply Qu | apply Qz | apply Q8 | apply Q9 | apply Qn | apply Qaf)) [(5, 25)] [] (fun m J hp => ∃ lo hi : Nat, m = hi - lo /\ lo <= hi /\ hi <= 65535 /\ y * lo <= x /\ (hi = 65535 ∨ x < y * (hi + 1)) /\ J 5 = .int .u64 lo /\ J 6 = .int .u64 hi) 65535 ?_ ?_
 ·refine ⟨0, 65535, rfl, by omega, by omega, by omega, .inl rfl, ?_⟩
  simp +decide (disch := first | omega | rfl | (simp +decide only [go_sem, ↓reduceIte] <;> rfl) | fail) only [go_sem, ↓reduceIte]
  simp
 rintro _ J h ⟨lo, hi, rfl, h1, h2, h3, h4, h5, h6⟩
 simp +decide (disch := first | omega | rfl | (simp +decide only [go_sem, ↓reduceIte, h5, h6] <;> rfl) | fail) only [go_sem, ↓reduceIte, h5, h6]
 refine Qb (fun hg => ?_) (fun hg => ?_)
 ·have hsz : nl ((lo + hi + 1) / 2) <= 4 := Qdr (by omega)
  have hm := Qe7 y ((lo + hi + 1) / 2)
  generalize hmid : (lo + hi + 1) / 2 = mid at *
  simp +decide (disch := first | omega | rfl | (simp +decide only [go_sem, ↓reduceIte, h5, h6, hq2, hmid] <;> rfl) | fail) only [go_sem, ↓reduceIte, h5, h6, hq2, hmid]
  refine Qa hP (Qcx (n := mid) (by omega)) rfl rfl rfl ?_
  simp +decide (disch := first | omega | rfl | (simp +decide only [go_sem, ↓reduceIte, h5, h6] <;> rfl) | fail) only [go_sem, ↓reduceIte, h5, h6]
  refine Qa hP (Qiz (x := y) (y := mid) (by omega) (by omega)) rfl rfl rfl ?_
  simp +decide (disch := first | omega | rfl | (simp +decide only [go_sem, ↓reduceIte, h5, h6] <;> rfl) | fail) only [go_sem, ↓reduceIte, h5, h6]
  refine Qa hP (Qz7 (x := y * mid) (y := x) (by omega) (by omega)) rfl rfl rfl ?_
  simp +decide (disch := first | omega | rfl | (simp +decide only [go_sem, ↓reduceIte, h5, h6] <;> rfl) | fail) only [go_sem, ↓reduceIte, h5, h6]
  refine Qb (fun hc => ?_) (fun hc => ?_)
  ·rw [Qyj] at hc
   simp +decide (disch := first | omega | rfl | (simp +decide only [go_sem, ↓reduceIte, h5, h6] <;> rfl) | fail) only [go_sem, ↓reduceIte, h5, h6]
   refine Ql (hi - mid) (by omega) ⟨mid, hi, rfl, by omega, h2, hc, h4, ?_⟩
   simp +decide (disch := first | omega | rfl | (simp +decide only [go_sem, ↓reduceIte, h6] <;> rfl) | fail) only [go_sem, ↓reduceIte, h6]
  ·rw [Qyj] at hc
   obtain ⟨n, rfl⟩ : ∃ n, mid = n + 1 := ⟨mid - 1, by omega⟩
   have e : ((n + 1 : Nat) : Int) - 1 = n := by omega
   simp +decide (disch := first | omega | rfl | (simp +decide only [go_sem, ↓reduceIte, h5, h6, e] <;> rfl) | fail) only [go_sem, ↓reduceIte, h5, h6, e]
   refine Ql (n - lo) (by omega) ⟨lo, n, rfl, by omega, by omega, h3, .inr (by omega), ?_⟩
   simp +decide (disch := first | omega | rfl | (simp +decide only [go_sem, ↓reduceIte, h5] <;> rfl) | fail) only [go_sem, ↓reduceIte, h5]
 ·obtain rfl : lo = hi := by omega
  simp +decide (disch := first | omega | rfl | (simp +decide only [go_sem, ↓reduceIte, h5] <;> rfl) | fail) only [go_sem, ↓reduceIte, h5]
  refine Qc ?_ rfl
  have hle : lo <= x / y := (Nat.le_div_iff_mul_le hy0).2 (by rw [Nat.mul_comm]; exact h3)
  rcases h4 with rfl | h4
  ·rw [Nat.min_eq_left hle]
  ·have : x / y < lo + 1 := (Nat.div_lt_iff_lt_mul hy0).2 (by rw [Nat.mul_comm]; exact h4)
   congr 2; omega
theorem Qln {a b : List Nat} (ha : Qi a) (hb : Qi b) (hla : a.length < 2 ^ 36) (hlb : b.length < 2 ^ 36) : Qe Tryz.prog 168 [PV.nat a, PV.nat b]
  (· = if val b = 0 then .tup [PV.num 0, PV.num 0, .int .i64 3] else .tup [PV.num (val a / val b), PV.num (val a % val b), .int .i64 0]) := by
 have hda := Qah ha
 have hdb := Qah hb
 refine Qg Qk Tryz.func168 rfl Qac1 (by simp [Q78]) fun C hP => ?_; simp only [Q78]
 simp +decide (disch := first | omega | rfl | (simp +decide only [go_sem, ↓reduceIte] <;> rfl) | fail) only [go_sem, ↓reduceIte]
 refine Qa hP (Qbm ha (by omega)) rfl rfl rfl ?_
 simp +decide (disch := first | omega | rfl | (simp +decide only [go_sem, ↓reduceIte] <;> rfl) | fail) only [go_sem, ↓reduceIte]
 refine Qa hP (Qbm hb (by omega)) rfl rfl rfl ?_
 simp +decide (disch := first | omega | rfl | (simp +decide only [go_sem, ↓reduceIte] <;> rfl) | fail) only [go_sem, ↓reduceIte]
 generalize val a = x at *
 generalize val b = y at *
 unfold nl at hda hdb
 refine Qb (fun hz => ?_) (fun hz => ?_)
 ·have hy0 : y = 0 := Qbp.1 (Qcp (by omega))
  simp +decide (disch := first | omega | rfl | (simp +decide only [go_sem, ↓reduceIte] <;> rfl) | fail) only [go_sem, ↓reduceIte]
  rw [if_pos hy0]
  exact Qnl rfl rfl rfl rfl Qg8 Qg8 (Qt _)
 have hy0 : y ≠ 0 := fun h => by rw [h, Qa1] at hz; simp at hz
 rw [if_neg hy0]
 have hyp : 0 < y := Nat.pos_of_ne_zero hy0
 have hxl := Qj x
 have hyl := Qj y
 have hxv := Qw x
 have hyv := Qw y
 simp +decide (disch := first | omega | rfl | (simp +decide only [go_sem, ↓reduceIte] <;> rfl) | fail) only [go_sem, ↓reduceIte]
 refine Qar (fun h1 => ?_) (fun h1 => ?_)
 ·simp +decide (disch := first | omega | rfl | (simp +decide only [go_sem, ↓reduceIte] <;> rfl) | fail) only [go_sem, ↓reduceIte]
  refine Qb (fun h2 => ?_) (fun h2 => ?_)
  ·have hx64 := Qj4.1 (show nl x <= 4 by unfold nl; omega)
   have hy64 := Qj4.1 (show nl y <= 4 by unfold nl; omega)
   have hq := Nat.div_le_self x y
   have hr := Nat.mod_lt x hyp
   simp +decide (disch := first | omega | rfl | (simp +decide only [go_sem, ↓reduceIte] <;> rfl) | fail) only [go_sem, ↓reduceIte]
   refine Qa hP (Qf8 hxl (by omega)) rfl rfl rfl ?_
   simp +decide (disch := first | omega | rfl | (simp +decide only [go_sem, ↓reduceIte, hxv] <;> rfl) | fail) only [go_sem, ↓reduceIte, hxv]
   refine Qa hP (Qf8 hyl (by omega)) rfl rfl rfl ?_
   simp +decide (disch := first | omega | rfl | (simp +decide only [go_sem, ↓reduceIte, hxv, hyv, Qi5] <;> rfl) | fail) only [go_sem, ↓reduceIte, hxv, hyv, Qi5]
   refine Qa hP (Qcx (n := x / y) (by omega)) rfl rfl rfl ?_
   simp +decide (disch := first | omega | rfl | (simp +decide only [go_sem, ↓reduceIte] <;> rfl) | fail) only [go_sem, ↓reduceIte]
   refine Qa hP (Qf8 hxl (by omega)) rfl rfl rfl ?_
   simp +decide (disch := first | omega | rfl | (simp +decide only [go_sem, ↓reduceIte, hxv] <;> rfl) | fail) only [go_sem, ↓reduceIte, hxv]
   refine Qa hP (Qf8 hyl (by omega)) rfl rfl rfl ?_
   simp +decide (disch := first | omega | rfl | (simp +decide only [go_sem, ↓reduceIte, hxv, hyv, Qdo] <;> rfl) | fail) only [go_sem, ↓reduceIte, hxv, hyv, Qdo]
   refine Qa hP (Qcx (n := x % y) (by omega)) rfl rfl rfl ?_
   simp +decide (disch := first | omega | rfl | (simp +decide only [go_sem, ↓reduceIte] <;> rfl) | fail) only [go_sem, ↓reduceIte]
   exact Qnl rfl rfl rfl rfl (Qt _) (Qt _) (Qt _)
  ·have hsep := trivial
   simp +decide (disch := first | omega | rfl | (simp +decide only [go_sem, ↓reduceIte] <;> rfl) | fail) only [go_sem, ↓reduceIte]
   refine Qhg 7 1 (by simp +decide (disch := first | omega | rfl | (simp +decide only [go_sem, ↓reduceIte] <;> rfl) | fail) only [go_sem, ↓reduceIte]) ?_
   refine Qhg 8 1 (by simp +decide (disch := first | omega | rfl | (simp +decide only [go_sem, ↓reduceIte] <;> rfl) | fail) only [go_sem, ↓reduceIte]) ?_
   refine Qv1 (by repeat (first | exact Qv | exact Qp | exact Qq | exact Qr | apply Qo | apply Qu | apply Qz | apply Q8 | apply Q9 | apply Qn | apply Qaf)) [(7, 10), (41, 69)] [49, 51, 58, 60] (fun k J hp => ∃ qs, k <= (dig x).length /\ qs.length = (dig x).length - k /\ Qi qs /\ val qs = val ((dig x).drop k) / y /\ J 7 = .sl 1 (Qa2 qs) /\ J 8 = PV.num (val ((dig x).drop k) % y) /\ J 9 = .int .i64 ((k : Int) - 1)) (dig x).length ?_ ?_
   ·refine ⟨[], Nat.le_refl _, by simp, Qcg, by simp [val], ?_⟩
    simp +decide (disch := first | omega | rfl | (simp +decide only [go_sem, ↓reduceIte] <;> rfl) | fail) only [go_sem, ↓reduceIte]
    simp [val, Qa1]
   rintro k J h ⟨qs, hk, hql, hqs, hqv, h7, h8, h9⟩
   simp +decide (disch := first | omega | rfl | (simp +decide only [go_sem, ↓reduceIte, h7, h8, h9] <;> rfl) | fail) only [go_sem, ↓reduceIte, h7, h8, h9]
   have hr := Nat.mod_lt (val ((dig x).drop k)) hyp
   refine Qb (fun hg => ?_) (fun hg => ?_)
   ·obtain _ | n := k
    ·omega
    have hn : n < (dig x).length := by omega
    have han := Qag hxl hn
    have e : ((n + 1 : Nat) : Int) - 1 = n := by omega
    have hst := Qq9 (x := (dig x)[n]) hyp hqv
    rw [<- Qcc hn] at hst
    generalize hV : val ((dig x).drop (n + 1)) % y = r at *
    generalize hxx : (dig x)[n] = xi at *
    have hrl : (dig r).length <= (dig y).length := Qbo (Nat.le_of_lt hr)
    have hlim : Qi ([xi] ++ dig r) := by rw [Qbk]; exact ⟨by intro z hz; simp at hz; omega, Qj r⟩
    have hvl : val ([xi] ++ dig r) = r * 65536 + xi := by rw [Qby, Qw]; simp [val]; omega
    have hlt : (r * 65536 + xi) / y < 65536 := by
     rw [Nat.div_lt_iff_lt_mul hyp]
     have : (r + 1) * 65536 <= y * 65536 := Nat.mul_le_mul_right _ hr
     omega
    have hnR : nl (r * 65536 + xi) <= (dig y).length + 1 := by
     have := Qah hlim
     rw [hvl, List.length_append] at this
     simp at this; omega
    have hdm := Nat.div_add_mod (r * 65536 + xi) y
    have hnm : nl (y * ((r * 65536 + xi) / y)) <= (dig y).length + 1 := Nat.le_trans (Qbo (by omega)) hnR
    have hn4 : nl ((r * 65536 + xi) / y) <= 4 := Qdr (by omega)
    have hsub : r * 65536 + xi - y * ((r * 65536 + xi) / y) = (r * 65536 + xi) % y := by omega
    simp +decide (disch := first | omega | rfl | (simp +decide only [go_sem, ↓reduceIte, h7, h8, h9, e, hxx] <;> rfl) | fail) only [go_sem, ↓reduceIte, h7, h8, h9, e, hxx]
    rw [Qc8 (f := fun (x : Nat) => .int .u16 x) (xs := [xi]) (ys := dig r) (n := 1) (by simp +decide (disch := first | omega | rfl | (simp +decide only [go_sem, ↓reduceIte] <;> rfl) | fail) only [go_sem, ↓reduceIte] <;> rfl) rfl (by omega) (by omega) (by omega)]
    simp +decide (disch := first | omega | rfl | (simp +decide only [go_sem, ↓reduceIte, h7, h8, h9, e, hxx] <;> rfl) | fail) only [go_sem, ↓reduceIte, h7, h8, h9, e, hxx]
    refine Qbz hP (Qbm (l := [xi] ++ dig r) hlim (by simp; omega)) (by simp +decide (disch := first | omega | rfl | (simp +decide only [go_sem, ↓reduceIte, Qd, List.contains_cons, List.contains_nil, List.flatMap_cons, List.flatMap_nil, List.append_nil] <;> rfl) | fail) only [go_sem, ↓reduceIte, Qd, List.contains_cons, List.contains_nil, List.flatMap_cons, List.flatMap_nil, List.append_nil]; simp [Nat.add_comm 1, List.take_of_length_le]) rfl ?_
    rw [hvl]
    simp +decide (disch := first | omega | rfl | (simp +decide only [go_sem, ↓reduceIte, h7, h8, h9, e, hxx] <;> rfl) | fail) only [go_sem, ↓reduceIte, h7, h8, h9, e, hxx]
    refine Qa hP (Qm5 (x := r * 65536 + xi) (y := y) (by omega) (by unfold nl; omega) hyp) rfl rfl rfl ?_
    rw [Nat.min_eq_right (by omega : (r * 65536 + xi) / y <= 65535)]
    generalize hD : (r * 65536 + xi) / y = D at *
    simp +decide (disch := first | omega | rfl | (simp +decide only [go_sem, ↓reduceIte, h7, h8, h9, e, hxx, Nat.mod_eq_of_lt hlt] <;> rfl) | fail) only [go_sem, ↓reduceIte, h7, h8, h9, e, hxx, Nat.mod_eq_of_lt hlt]
    rw [Qc8 (f := fun (x : Nat) => .int .u16 x) (xs := [D]) (ys := qs) (n := 1) (by simp +decide (disch := first | omega | rfl | (simp +decide only [go_sem, ↓reduceIte] <;> rfl) | fail) only [go_sem, ↓reduceIte] <;> rfl) rfl (by omega) (by omega) (by omega)]
    simp +decide (disch := first | omega | rfl | (simp +decide only [go_sem, ↓reduceIte, h7, h8, h9, e, hxx] <;> rfl) | fail) only [go_sem, ↓reduceIte, h7, h8, h9, e, hxx]
    refine Qa hP (Qcx (n := D) (by omega)) rfl rfl rfl ?_
    simp +decide (disch := first | omega | rfl | (simp +decide only [go_sem, ↓reduceIte, h7, h8, h9, e] <;> rfl) | fail) only [go_sem, ↓reduceIte, h7, h8, h9, e]
    refine Qa hP (Qiz (x := y) (y := D) (by unfold nl; omega) (by omega)) rfl rfl rfl ?_
    simp +decide (disch := first | omega | rfl | (simp +decide only [go_sem, ↓reduceIte, h7, h8, h9, e] <;> rfl) | fail) only [go_sem, ↓reduceIte, h7, h8, h9, e]
    refine Qa hP (Qrx (x := r * 65536 + xi) (y := y * D) (by omega) (by omega) (by omega)) rfl rfl rfl ?_
    rw [hsub]
    simp +decide (disch := first | omega | rfl | (simp +decide only [go_sem, ↓reduceIte, h7, h8, h9, e] <;> rfl) | fail) only [go_sem, ↓reduceIte, h7, h8, h9, e]
    refine Qq8 7 n rfl ?_ (by omega) ⟨D :: qs, by omega, by simp; omega, ?_, ?_, ?_⟩
    ·simp +decide (disch := first | omega | rfl | (simp +decide only [go_sem, ↓reduceIte, Qd, List.contains_cons, List.contains_nil, List.flatMap_cons, List.flatMap_nil, List.append_nil] <;> rfl) | fail) only [go_sem, ↓reduceIte, Qd, List.contains_cons, List.contains_nil, List.flatMap_cons, List.flatMap_nil, List.append_nil]
    ·rw [Qax]; exact ⟨hlt, hqs⟩
    ·rw [val, hst.1]
    ·simp +decide (disch := first | omega | rfl | (simp +decide only [go_sem, ↓reduceIte, Qd, List.contains_cons, List.contains_nil, List.flatMap_cons, List.flatMap_nil, List.append_nil, hst.2] <;> rfl) | fail) only [go_sem, ↓reduceIte, Qd, List.contains_cons, List.contains_nil, List.flatMap_cons, List.flatMap_nil, List.append_nil, hst.2]
     simp [Nat.add_comm 1, List.take_of_length_le]
   ·obtain rfl : k = 0 := by omega
    rw [List.drop_zero, hxv] at hqv h8
    simp +decide (disch := first | omega | rfl | (simp +decide only [go_sem, ↓reduceIte, h7, h8] <;> rfl) | fail) only [go_sem, ↓reduceIte, h7, h8]
    refine Qa hP (Qbm hqs (by omega)) rfl rfl rfl ?_
    simp +decide (disch := first | omega | rfl | (simp +decide only [go_sem, ↓reduceIte, h7, h8] <;> rfl) | fail) only [go_sem, ↓reduceIte, h7, h8]
    exact Qnl rfl rfl rfl rfl (Qfo (by rw [hqv])) (Qt _) (Qt _)
 ·have hsep := trivial
  simp +decide (disch := first | omega | rfl | (simp +decide only [go_sem, ↓reduceIte] <;> rfl) | fail) only [go_sem, ↓reduceIte]
  refine Qhg 7 1 (by simp +decide (disch := first | omega | rfl | (simp +decide only [go_sem, ↓reduceIte] <;> rfl) | fail) only [go_sem, ↓reduceIte]) ?_
  refine Qhg 8 1 (by simp +decide (disch := first | omega | rfl | (simp +decide only [go_sem, ↓reduceIte] <;> rfl) | fail) only [go_sem, ↓reduceIte]) ?_
  refine Qv1 (by repeat (first | exact Qv | exact Qp | exact Qq | exact Qr | apply Qo | apply Qu | apply Qz | apply Q8 | apply Q9 | apply Qn | apply Qaf)) [(7, 10), (41, 69)] [49, 51, 58, 60] (fun k J hp => ∃ qs, k <= (dig x).length /\ qs.length = (dig x).length - k /\ Qi qs /\ val qs = val ((dig x).drop k) / y /\ J 7 = .sl 1 (Qa2 qs) /\ J 8 = PV.num (val ((dig x).drop k) % y) /\ J 9 = .int .i64 ((k : Int) - 1)) (dig x).length ?_ ?_
  ·refine ⟨[], Nat.le_refl _, by simp, Qcg, by simp [val], ?_⟩
   simp +decide (disch := first | omega | rfl | (simp +decide only [go_sem, ↓reduceIte] <;> rfl) | fail) only [go_sem, ↓reduceIte]
   simp [val, Qa1]
  rintro k J h ⟨qs, hk, hql, hqs, hqv, h7, h8, h9⟩
  simp +decide (disch := first | omega | rfl | (simp +decide only [go_sem, ↓reduceIte, h7, h8, h9] <;> rfl) | fail) only [go_sem, ↓reduceIte, h7, h8, h9]
  have hr := Nat.mod_lt (val ((dig x).drop k)) hyp
  refine Qb (fun hg => ?_) (fun hg => ?_)
  ·obtain _ | n := k
   ·omega
   have hn : n < (dig x).length := by omega
   have han := Qag hxl hn
   have e : ((n + 1 : Nat) : Int) - 1 = n := by omega
   have hst := Qq9 (x := (dig x)[n]) hyp hqv
   rw [<- Qcc hn] at hst
   generalize hV : val ((dig x).drop (n + 1)) % y = r at *
   generalize hxx : (dig x)[n] = xi at *
   have hrl : (dig r).length <= (dig y).length := Qbo (Nat.le_of_lt hr)
   have hlim : Qi ([xi] ++ dig r) := by rw [Qbk]; exact ⟨by intro z hz; simp at hz; omega, Qj r⟩
   have hvl : val ([xi] ++ dig r) = r * 65536 + xi := by rw [Qby, Qw]; simp [val]; omega
   have hlt : (r * 65536 + xi) / y < 65536 := by
    rw [Nat.div_lt_iff_lt_mul hyp]
    have : (r + 1) * 65536 <= y * 65536 := Nat.mul_le_mul_right _ hr
    omega
   have hnR : nl (r * 65536 + xi) <= (dig y).length + 1 := by
    have := Qah hlim
    rw [hvl, List.length_append] at this
    simp at this; omega
   have hdm := Nat.div_add_mod (r * 65536 + xi) y
   have hnm : nl (y * ((r * 65536 + xi) / y)) <= (dig y).length + 1 := Nat.le_trans (Qbo (by omega)) hnR
   have hn4 : nl ((r * 65536 + xi) / y) <= 4 := Qdr (by omega)
   have hsub : r * 65536 + xi - y * ((r * 65536 + xi) / y) = (r * 65536 + xi) % y := by omega
   simp +decide (disch := first | omega | rfl | (simp +decide only [go_sem, ↓reduceIte, h7, h8, h9, e, hxx] <;> rfl) | fail) only [go_sem, ↓reduceIte, h7, h8, h9, e, hxx]
   rw [Qc8 (f := fun (x : Nat) => .int .u16 x) (xs := [xi]) (ys := dig r) (n := 1) (by simp +decide (disch := first | omega | rfl | (simp +decide only [go_sem, ↓reduceIte] <;> rfl) | fail) only [go_sem, ↓reduceIte] <;> rfl) rfl (by omega) (by omega) (by omega)]
   simp +decide (disch := first | omega | rfl | (simp +decide only [go_sem, ↓reduceIte, h7, h8, h9, e, hxx] <;> rfl) | fail) only [go_sem, ↓reduceIte, h7, h8, h9, e, hxx]
   refine Qbz hP (Qbm (l := [xi] ++ dig r) hlim (by simp; omega)) (by simp +decide (disch := first | omega | rfl | (simp +decide only [go_sem, ↓reduceIte, Qd, List.contains_cons, List.contains_nil, List.flatMap_cons, List.flatMap_nil, List.append_nil] <;> rfl) | fail) only [go_sem, ↓reduceIte, Qd, List.contains_cons, List.contains_nil, List.flatMap_cons, List.flatMap_nil, List.append_nil]; simp [Nat.add_comm 1, List.take_of_length_le]) rfl ?_
   rw [hvl]
   simp +decide (disch := first | omega | rfl | (simp +decide only [go_sem, ↓reduceIte, h7, h8, h9, e, hxx] <;> rfl) | fail) only [go_sem, ↓reduceIte, h7, h8, h9, e, hxx]
   refine Qa hP (Qm5 (x := r * 65536 + xi) (y := y) (by omega) (by unfold nl; omega) hyp) rfl rfl rfl ?_
   rw [Nat.min_eq_right (by omega : (r * 65536 + xi) / y <= 65535)]
   generalize hD : (r * 65536 + xi) / y = D at *
   simp +decide (disch := first | omega | rfl | (simp +decide only [go_sem, ↓reduceIte, h7, h8, h9, e, hxx, Nat.mod_eq_of_lt hlt] <;> rfl) | fail) only [go_sem, ↓reduceIte, h7, h8, h9, e, hxx, Nat.mod_eq_of_lt hlt]
   rw [Qc8 (f := fun (x : Nat) => .int .u16 x) (xs := [D]) (ys := qs) (n := 1) (by simp +decide (disch := first | omega | rfl | (simp +decide only [go_sem, ↓reduceIte] <;> rfl) | fail) only [go_sem, ↓reduceIte] <;> rfl) rfl (by omega) (by omega) (by omega)]
   simp +decide (disch := first | omega | rfl | (simp +decide only [go_sem, ↓reduceIte, h7, h8, h9, e, hxx] <;> rfl) | fail) only [go_sem, ↓reduceIte, h7, h8, h9, e, hxx]
   refine Qa hP (Qcx (n := D) (by omega)) rfl rfl rfl ?_
   simp +decide (disch := first | omega | rfl | (simp +decide only [go_sem, ↓reduceIte, h7, h8, h9, e] <;> rfl) | fail) only [go_sem, ↓reduceIte, h7, h8, h9, e]
   refine Qa hP (Qiz (x := y) (y := D) (by unfold nl; omega) (by omega)) rfl rfl rfl ?_
   simp +decide (disch := first | omega | rfl | (simp +decide only [go_sem, ↓reduceIte, h7, h8, h9, e] <;> rfl) | fail) only [go_sem, ↓reduceIte, h7, h8, h9, e]
   refine Qa hP (Qrx (x := r * 65536 + xi) (y := y * D) (by omega) (by omega) (by omega)) rfl rfl rfl ?_
   rw [hsub]
   simp +decide (disch := first | omega | rfl | (simp +decide only [go_sem, ↓reduceIte, h7, h8, h9, e] <;> rfl) | fail) only [go_sem, ↓reduceIte, h7, h8, h9, e]
   refine Qq8 7 n rfl ?_ (by omega) ⟨D :: qs, by omega, by simp; omega, ?_, ?_, ?_⟩
   ·simp +decide (disch := first | omega | rfl | (simp +decide only [go_sem, ↓reduceIte, Qd, List.contains_cons, List.contains_nil, List.flatMap_cons, List.flatMap_nil, List.append_nil] <;> rfl) | fail) only [go_sem, ↓reduceIte, Qd, List.contains_cons, List.contains_nil, List.flatMap_cons, List.flatMap_nil, List.append_nil]
   ·rw [Qax]; exact ⟨hlt, hqs⟩
   ·rw [val, hst.1]
   ·simp +decide (disch := first | omega | rfl | (simp +decide only [go_sem, ↓reduceIte, Qd, List.contains_cons, List.contains_nil, List.flatMap_cons, List.flatMap_nil, List.append_nil, hst.2] <;> rfl) | fail) only [go_sem, ↓reduceIte, Qd, List.contains_cons, List.contains_nil, List.flatMap_cons, List.flatMap_nil, List.append_nil, hst.2]
    simp [Nat.add_comm 1, List.take_of_length_le]
  ·obtain rfl : k = 0 := by omega
   rw [List.drop_zero, hxv] at hqv h8
   simp +decide (disch := first | omega | rfl | (simp +decide only [go_sem, ↓reduceIte, h7, h8] <;> rfl) | fail) only [go_sem, ↓reduceIte, h7, h8]
   refine Qa hP (Qbm hqs (by omega)) rfl rfl rfl ?_
   simp +decide (disch := first | omega | rfl | (simp +decide only [go_sem, ↓reduceIte, h7, h8] <;> rfl) | fail) only [go_sem, ↓reduceIte, h7, h8]
   exact Qnl rfl rfl rfl rfl (Qfo (by rw [hqv])) (Qt _) (Qt _)
end Go.Proofs.YtmnkngmmfnncoaaGreat
namespace Go.Proofs.YtmnkngmmfnncoaaGreat
open Go Go.FW
set_option linter.unusedSimpArgs false
set_option linter.unusedVariables false
set_option maxRecDepth 100000
theorem Qt8 {x y : Nat} (hx : nl x < 2 ^ 36) (hy : nl y < 2 ^ 36) (h0 : y ≠ 0) : Qe Tryz.prog 168 [PV.num x, PV.num y] (· = .tup [PV.num (x / y), PV.num (x % y), .int .i64 0]) := by
 have := Qln (Qj x) (Qj y) hx hy
 rwa [Qw, Qw, if_neg h0] at this
theorem Qpk {a b : List Nat} (ha : Qi a) (hb : Qi b) (hla : a.length < 2 ^ 36) (hlb : b.length < 2 ^ 36) : Qe Tryz.prog 120 [PV.nat a, PV.nat b] (· = PV.num (Nat.gcd (val a) (val b))) := by
 have hda := Qah ha
 have hdb := Qah hb
 refine Qg Qk Tryz.func120 rfl Qac2 (by simp [Q79]) fun C hP => ?_; simp only [Q79]
 simp +decide (disch := first | omega | rfl | (simp +decide only [go_sem, ↓reduceIte] <;> rfl) | fail) only [go_sem, ↓reduceIte]
 refine Qa hP (Qbm ha (by omega)) rfl rfl rfl ?_
 simp +decide (disch := first | omega | rfl | (simp +decide only [go_sem, ↓reduceIte] <;> rfl) | fail) only [go_sem, ↓reduceIte]
 refine Qa hP (Qbm hb (by omega)) rfl rfl rfl ?_
 simp +decide (disch := first | omega | rfl | (simp +decide only [go_sem, ↓reduceIte] <;> rfl) | fail) only [go_sem, ↓reduceIte]
 refine Qy (by repeat (first | exact Qv | exact Qp | exact Qq | exact Qr | apply Qo | apply Qu | apply Qz | apply Q8 | apply Q9 | apply Qn | apply Qaf)) [(0, 1), (5, 7), (12, 23)] [] (fun m J hp => ∃ x y, m = y /\ Nat.gcd x y = Nat.gcd (val a) (val b) /\ nl x < 2 ^ 36 /\ nl y < 2 ^ 36 /\ J 0 = PV.num x /\ J 1 = PV.num y /\ hp = hp0) (val b) ?_ ?_
 ·refine ⟨val a, val b, rfl, rfl, by omega, by omega, ?_⟩
  simp +decide (disch := first | omega | rfl | (simp +decide only [go_sem, ↓reduceIte] <;> rfl) | fail) only [go_sem, ↓reduceIte]
 rintro y J _ ⟨x, _, rfl, hg, hx, hy, h0, h1, rfl⟩
 generalize Nat.gcd (val a) (val b) = g at *
 simp +decide (disch := first | omega | rfl | (simp +decide only [go_sem, ↓reduceIte, h0, h1] <;> rfl) | fail) only [go_sem, ↓reduceIte, h0, h1]
 refine Qb (fun hc => ?_) (fun hc => ?_)
 ·have hy0 : y ≠ 0 := fun h => by rw [h, Qa1] at hc; simp at hc
  have hmod := Qbo (Nat.le_of_lt (Nat.mod_lt x (Nat.pos_of_ne_zero hy0)))
  simp +decide (disch := first | omega | rfl | (simp +decide only [go_sem, ↓reduceIte, h0, h1] <;> rfl) | fail) only [go_sem, ↓reduceIte, h0, h1]
  refine Qa hP (Qt8 (x := x) (y := y) hx hy hy0) rfl rfl rfl ?_
  simp +decide (disch := first | omega | rfl | (simp +decide only [go_sem, ↓reduceIte, h0, h1] <;> rfl) | fail) only [go_sem, ↓reduceIte, h0, h1]
  refine Ql (x % y) (Nat.mod_lt _ (Nat.pos_of_ne_zero hy0)) ⟨y, x % y, rfl, ?_, hy, by omega, ?_⟩
  ·rw [<- hg, Nat.gcd_comm x y, Nat.gcd_rec y x, Nat.gcd_comm]
  ·simp +decide (disch := first | omega | rfl | (simp +decide only [go_sem, ↓reduceIte] <;> rfl) | fail) only [go_sem, ↓reduceIte]
 ·have hy0 : y = 0 := Qbp.1 (Qcp (by omega))
  subst hy0
  simp +decide (disch := first | omega | rfl | (simp +decide only [go_sem, ↓reduceIte, h0] <;> rfl) | fail) only [go_sem, ↓reduceIte, h0]
  exact Qc (by rw [<- hg, Nat.gcd_zero_right]) rfl
end Go.Proofs.YtmnkngmmfnncoaaGreat
namespace Go.Proofs.YtmnkngmmfnncoaaGreat
open Go Go.FW
set_option linter.unusedSimpArgs false
set_option linter.unusedVariables false
set_option maxRecDepth 100000
theorem Qea {n : Bool} {a : List Nat} (ha : Qi a) (hla : a.length < 2 ^ 42) : Qe Tryz.prog 170 [.bool n, PV.nat a] (· = PV.zz (zv n a)) := by
 refine Qg Qk Tryz.func170 rfl Qac5 (by simp [Q8c]) fun C hP => ?_; simp only [Q8c]
 simp +decide (disch := first | omega | rfl | (simp +decide only [go_sem, ↓reduceIte] <;> rfl) | fail) only [go_sem, ↓reduceIte]
 refine Qa hP (Qbm ha hla) rfl rfl rfl ?_
 simp +decide (disch := first | omega | rfl | (simp +decide only [go_sem, ↓reduceIte] <;> rfl) | fail) only [go_sem, ↓reduceIte]
 refine Qfv (fun hn => ?_) (fun hn => ?_)
 all_goals
  simp +decide (disch := first | omega | rfl | (simp +decide only [go_sem, ↓reduceIte] <;> rfl) | fail) only [go_sem, ↓reduceIte]
  refine Qa7 ?_
  simp +decide (disch := first | omega | rfl | (simp +decide only [go_sem, ↓reduceIte] <;> rfl) | fail) only [go_sem, ↓reduceIte]
  exact Qc (by have := Qsn n (val a); rw [hn] at this; subst hn; simpa [zv] using this) rfl
theorem Qgz {n : Bool} {a : List Nat} (ha : Qi a) (hla : a.length < 2 ^ 42) : Qe Tryz.prog 169 [PV.zi n a] (· = PV.zz (zv n a)) := by
 refine Qg Qk Tryz.func169 rfl Qac6 (by simp [Q8d]) fun C hP => ?_; simp only [Q8d]
 simp +decide (disch := first | omega | rfl | (simp +decide only [go_sem, ↓reduceIte] <;> rfl) | fail) only [go_sem, ↓reduceIte]
 refine Qa hP (Qea ha hla) rfl rfl rfl ?_
 simp +decide (disch := first | omega | rfl | (simp +decide only [go_sem, ↓reduceIte] <;> rfl) | fail) only [go_sem, ↓reduceIte]
 refine Qa7 ?_
 simp +decide (disch := first | omega | rfl | (simp +decide only [go_sem, ↓reduceIte] <;> rfl) | fail) only [go_sem, ↓reduceIte]
 exact Qc rfl rfl
theorem Qpl {n m : Bool} {a b : List Nat} (ha : Qi a) (hb : Qi b) (hla : a.length < 2 ^ 40) (hlb : b.length < 2 ^ 40) : Qe Tryz.prog 159 [PV.zi n a, PV.zi m b] (· = PV.zz (zv n a * zv m b)) := by
 have hr : nl (val a * val b) < 2 ^ 42 := by have := Qe7 (val a) (val b); have := Qah ha; have := Qah hb; omega
 refine Qg Qk Tryz.func159 rfl Qadc (by simp [Q8j]) fun C hP => ?_; simp only [Q8j]
 simp +decide (disch := first | omega | rfl | (simp +decide only [go_sem, ↓reduceIte] <;> rfl) | fail) only [go_sem, ↓reduceIte]
 refine Qa hP (Qk0 ha hb hla hlb) rfl rfl rfl ?_
 simp +decide (disch := first | omega | rfl | (simp +decide only [go_sem, ↓reduceIte] <;> rfl) | fail) only [go_sem, ↓reduceIte]
 refine Qa hP (Qea (n := !(n == m)) (Qj (val a * val b)) hr) rfl rfl rfl ?_
 simp +decide (disch := first | omega | rfl | (simp +decide only [go_sem, ↓reduceIte] <;> rfl) | fail) only [go_sem, ↓reduceIte]
 refine Qa7 ?_
 simp +decide (disch := first | omega | rfl | (simp +decide only [go_sem, ↓reduceIte] <;> rfl) | fail) only [go_sem, ↓reduceIte]
 exact Qc (congrArg PV.zz (by rw [Qgv]; unfold zv; cases n <;> cases m <;> simp [Int.neg_mul, Int.mul_neg])) rfl
theorem Qmv {x : Int} (h1 : -9223372036854775808 <= x) (h2 : x <= 9223372036854775807) : Qe Tryz.prog 105 [.int .i64 x] (· = PV.zz x) := by
 refine Qg Qk Tryz.func105 rfl Qac7 (by simp [Q8e]) fun C hP => ?_; simp only [Q8e]
 simp +decide (disch := first | omega | rfl | (simp +decide only [go_sem, ↓reduceIte] <;> rfl) | fail) only [go_sem, ↓reduceIte]
 refine Qb (fun hc => ?_) (fun hc => ?_)
 ·obtain ⟨y, hy⟩ : ∃ y : Nat, x = -((y : Int) + 1) := ⟨(-(x + 1)).toNat, by omega⟩
  have e1 : IntKind.i64.wrap (x + 1) = -(y : Int) := by rw [Qgc (by omega) (by omega)]; omega
  have e2 : IntKind.i64.wrap (0 - -(y : Int)) = (y : Int) := by rw [Qgc (by omega) (by omega)]; omega
  have e3 : IntKind.u64.wrap (y : Int) = (y : Int) := Qez (by omega) (by omega)
  have hl1 : nl y <= 4 := Qdr (by omega)
  have hl2 : nl (y + 1) <= 4 := Qdr (by omega)
  simp +decide (disch := first | omega | rfl | (simp +decide only [go_sem, ↓reduceIte, e1, e2, e3] <;> rfl) | fail) only [go_sem, ↓reduceIte, e1, e2, e3]
  refine Qa hP (Qcx (n := y) (by omega)) rfl rfl rfl ?_
  simp +decide (disch := first | omega | rfl | (simp +decide only [go_sem, ↓reduceIte] <;> rfl) | fail) only [go_sem, ↓reduceIte]
  refine Qa hP (Qcx (n := 1) (by omega)) rfl rfl rfl ?_
  simp +decide (disch := first | omega | rfl | (simp +decide only [go_sem, ↓reduceIte] <;> rfl) | fail) only [go_sem, ↓reduceIte]
  refine Qa hP (Qpj (Qj y) (Qj 1) (show nl y < _ by omega) (show nl 1 < _ by rw [Qjl]; omega)) rfl rfl rfl ?_
  simp +decide (disch := first | omega | rfl | (simp +decide only [go_sem, ↓reduceIte] <;> rfl) | fail) only [go_sem, ↓reduceIte]
  refine Qa hP (Qea (n := true) (Qj (val (dig y) + val (dig 1))) (show nl _ < _ by rw [Qw, Qw]; omega)) rfl rfl rfl ?_
  simp +decide (disch := first | omega | rfl | (simp +decide only [go_sem, ↓reduceIte] <;> rfl) | fail) only [go_sem, ↓reduceIte]
  refine Qa7 ?_
  simp +decide (disch := first | omega | rfl | (simp +decide only [go_sem, ↓reduceIte] <;> rfl) | fail) only [go_sem, ↓reduceIte]
  exact Qc (congrArg PV.zz (by rw [Qgv, Qw, Qw]; simp; omega)) rfl
 ·obtain ⟨y, rfl⟩ : ∃ y : Nat, x = y := ⟨x.toNat, by omega⟩
  have hl1 : nl y <= 4 := Qdr (by omega)
  simp +decide (disch := first | omega | rfl | (simp +decide only [go_sem, ↓reduceIte] <;> rfl) | fail) only [go_sem, ↓reduceIte]
  refine Qa hP (Qcx (by omega)) rfl rfl rfl ?_
  simp +decide (disch := first | omega | rfl | (simp +decide only [go_sem, ↓reduceIte] <;> rfl) | fail) only [go_sem, ↓reduceIte]
  refine Qa hP (Qea (n := false) (Qj y) (show nl _ < _ by omega)) rfl rfl rfl ?_
  simp +decide (disch := first | omega | rfl | (simp +decide only [go_sem, ↓reduceIte] <;> rfl) | fail) only [go_sem, ↓reduceIte]
  refine Qa7 ?_
  simp +decide (disch := first | omega | rfl | (simp +decide only [go_sem, ↓reduceIte] <;> rfl) | fail) only [go_sem, ↓reduceIte]
  exact Qc (congrArg PV.zz (by rw [Qgv]; simp)) rfl
theorem Qwq {n : Bool} {a : List Nat} (ha : Qi a) (hla : a.length < 2 ^ 42) : Qe Tryz.prog 156 [PV.zi n a] (· = .int .i64 (sgn (zv n a))) := by
 refine Qg Qk Tryz.func156 rfl Qac8 (by simp [Q8f]) fun C hP => ?_; simp only [Q8f]
 simp +decide (disch := first | omega | rfl | (simp +decide only [go_sem, ↓reduceIte] <;> rfl) | fail) only [go_sem, ↓reduceIte]
 refine Qa hP (Qgz ha hla) rfl rfl rfl ?_
 generalize zv n a = z
 simp +decide (disch := first | omega | rfl | (simp +decide only [go_sem, ↓reduceIte] <;> rfl) | fail) only [go_sem, ↓reduceIte]
 refine Qb (fun hz => ?_) (fun hz => ?_)
 ·have : z = 0 := by have := Qbp.1 (Qcp (n := z.natAbs) (by omega)); omega
  subst this
  simp +decide (disch := first | omega | rfl | (simp +decide only [go_sem, ↓reduceIte] <;> rfl) | fail) only [go_sem, ↓reduceIte]
  exact Qc rfl rfl
 ·have h0 : z ≠ 0 := fun h => by subst h; exact hz (by simp [Qa1])
  simp +decide (disch := first | omega | rfl | (simp +decide only [go_sem, ↓reduceIte] <;> rfl) | fail) only [go_sem, ↓reduceIte]
  refine Qh4 (fun hn => ?_) (fun hn => ?_)
  ·have hn : z < 0 := by simpa using hn
   simp +decide (disch := first | omega | rfl | (simp +decide only [go_sem, ↓reduceIte] <;> rfl) | fail) only [go_sem, ↓reduceIte]
   exact Qc (by rw [sgn, if_pos hn]) rfl
  ·have hn : ¬ z < 0 := by simpa using hn
   simp +decide (disch := first | omega | rfl | (simp +decide only [go_sem, ↓reduceIte] <;> rfl) | fail) only [go_sem, ↓reduceIte]
   exact Qc (by rw [sgn, if_neg hn, if_pos (by omega)]) rfl
theorem Qt9 {n : Bool} {a : List Nat} (ha : Qi a) (hla : a.length < 2 ^ 42) : Qe Tryz.prog 118 [PV.zi n a] (· = .bool (Qmb n a)) := by
 refine Qg Qk Tryz.func118 rfl Qac4 (by simp [Q8b]) fun C hP => ?_; simp only [Q8b]
 simp +decide (disch := first | omega | rfl | (simp +decide only [go_sem, ↓reduceIte] <;> rfl) | fail) only [go_sem, ↓reduceIte]
 refine Qa hP (Qm4 ha (by omega)) rfl rfl rfl ?_
 simp +decide (disch := first | omega | rfl | (simp +decide only [go_sem, ↓reduceIte] <;> rfl) | fail) only [go_sem, ↓reduceIte]
 refine Qfv (fun hv => ?_) (fun hv => ?_)
 ·simp +decide (disch := first | omega | rfl | (simp +decide only [go_sem, ↓reduceIte] <;> rfl) | fail) only [go_sem, ↓reduceIte]
  refine Qfv (fun hn => ?_) (fun hn => ?_)
  ·simp +decide (disch := first | omega | rfl | (simp +decide only [go_sem, ↓reduceIte] <;> rfl) | fail) only [go_sem, ↓reduceIte]
   exact Qc (congrArg PV.bool (by unfold Qmb; subst hn; cases a <;> simp_all <;> omega)) rfl
  ·simp +decide (disch := first | omega | rfl | (simp +decide only [go_sem, ↓reduceIte] <;> rfl) | fail) only [go_sem, ↓reduceIte]
   exact Qc (congrArg PV.bool (by unfold Qmb; subst hn; cases a <;> simp_all)) rfl
 ·simp +decide (disch := first | omega | rfl | (simp +decide only [go_sem, ↓reduceIte] <;> rfl) | fail) only [go_sem, ↓reduceIte]
  exact Qc (congrArg PV.bool (by unfold Qmb; cases a <;> simp_all)) rfl
theorem Qxj {n m : Bool} {a b : List Nat} (ha : Qi a) (hb : Qi b) (hla : a.length < 2 ^ 41) (hlb : b.length < 2 ^ 41) : Qe Tryz.prog 201 [PV.zi n a, PV.zi m b] (· = .int .i64 (Qbr (zv n a) (zv m b))) := by
 have hx : nl (zv n a).natAbs < 2 ^ 41 := by rw [Qa9]; have := Qah ha; omega
 have hy : nl (zv m b).natAbs < 2 ^ 41 := by rw [Qa9]; have := Qah hb; omega
 refine Qg Qk Tryz.func201 rfl Qac9 (by simp [Q8g]) fun C hP => ?_; simp only [Q8g]
 simp +decide (disch := first | omega | rfl | (simp +decide only [go_sem, ↓reduceIte] <;> rfl) | fail) only [go_sem, ↓reduceIte]
 refine Qa hP (Qgz ha (by omega)) rfl rfl rfl ?_
 simp +decide (disch := first | omega | rfl | (simp +decide only [go_sem, ↓reduceIte] <;> rfl) | fail) only [go_sem, ↓reduceIte]
 refine Qa hP (Qgz hb (by omega)) rfl rfl rfl ?_
 generalize zv n a = x at *
 generalize zv m b = y at *
 have lx : (dig x.natAbs).length < 2 ^ 41 := hx
 have ly : (dig y.natAbs).length < 2 ^ 41 := hy
 by_cases hx0 : x < 0 <;> by_cases hy0 : y < 0
 ·simp +decide (disch := first | omega | rfl | (simp +decide only [go_sem, ↓reduceIte, hx0, hy0] <;> rfl) | fail) only [go_sem, ↓reduceIte, hx0, hy0]
  refine Qa hP (Qhx (Qj y.natAbs) (Qj x.natAbs) (by omega) (by omega)) rfl rfl rfl ?_
  simp +decide (disch := first | omega | rfl | (simp +decide only [go_sem, ↓reduceIte] <;> rfl) | fail) only [go_sem, ↓reduceIte]
  exact Qc (congrArg (PV.int .i64) (by rw [Qw, Qw]; unfold Qdf Qbr; split <;> split <;> (try split) <;> (try split) <;> omega)) rfl
 ·simp +decide (disch := first | omega | rfl | (simp +decide only [go_sem, ↓reduceIte, hx0, hy0] <;> rfl) | fail) only [go_sem, ↓reduceIte, hx0, hy0]
  exact Qc (congrArg (PV.int .i64) (by unfold Qbr; rw [if_pos (by omega)])) rfl
 ·simp +decide (disch := first | omega | rfl | (simp +decide only [go_sem, ↓reduceIte, hx0, hy0] <;> rfl) | fail) only [go_sem, ↓reduceIte, hx0, hy0]
  exact Qc (congrArg (PV.int .i64) (by unfold Qbr; rw [if_neg (by omega), if_pos (by omega)])) rfl
 ·simp +decide (disch := first | omega | rfl | (simp +decide only [go_sem, ↓reduceIte, hx0, hy0] <;> rfl) | fail) only [go_sem, ↓reduceIte, hx0, hy0]
  refine Qa hP (Qhx (Qj x.natAbs) (Qj y.natAbs) (by omega) (by omega)) rfl rfl rfl ?_
  simp +decide (disch := first | omega | rfl | (simp +decide only [go_sem, ↓reduceIte] <;> rfl) | fail) only [go_sem, ↓reduceIte]
  exact Qc (congrArg (PV.int .i64) (by rw [Qw, Qw]; unfold Qdf Qbr; split <;> split <;> (try split) <;> (try split) <;> omega)) rfl
theorem Qxk {n m : Bool} {a b : List Nat} (ha : Qi a) (hb : Qi b) (hla : a.length < 2 ^ 40) (hlb : b.length < 2 ^ 40) : Qe Tryz.prog 166 [PV.zi n a, PV.zi m b] (· = PV.zz (zv n a + zv m b)) := by
 have hda := Qah ha
 have hdb := Qah hb
 refine Qg Qk Tryz.func166 rfl Qadb (by simp [Q8i]) fun C hP => ?_; simp only [Q8i]
 simp +decide (disch := first | omega | rfl | (simp +decide only [go_sem, ↓reduceIte] <;> rfl) | fail) only [go_sem, ↓reduceIte]
 refine Qh4 (fun hnm => ?_) (fun hnm => ?_)
 ·have hnm : n = m := by simpa using hnm
  subst hnm
  have hr := Q08 (val a) (val b)
  simp +decide (disch := first | omega | rfl | (simp +decide only [go_sem, ↓reduceIte] <;> rfl) | fail) only [go_sem, ↓reduceIte]
  refine Qa hP (Qpj ha hb hla hlb) rfl rfl rfl ?_
  simp +decide (disch := first | omega | rfl | (simp +decide only [go_sem, ↓reduceIte] <;> rfl) | fail) only [go_sem, ↓reduceIte]
  refine Qa hP (Qea (n := n) (Qj (val a + val b)) (show nl _ < _ by omega)) rfl rfl rfl ?_
  simp +decide (disch := first | omega | rfl | (simp +decide only [go_sem, ↓reduceIte] <;> rfl) | fail) only [go_sem, ↓reduceIte]
  refine Qa7 ?_
  simp +decide (disch := first | omega | rfl | (simp +decide only [go_sem, ↓reduceIte] <;> rfl) | fail) only [go_sem, ↓reduceIte]
  exact Qc (congrArg PV.zz (by rw [Qgv]; unfold zv; split <;> simp <;> omega)) rfl
 have hnm : n = !m := by cases n <;> cases m <;> simp_all
 subst hnm
 simp +decide (disch := first | omega | rfl | (simp +decide only [go_sem, ↓reduceIte] <;> rfl) | fail) only [go_sem, ↓reduceIte]
 refine Qa hP (Qkz ha hb hla hlb) rfl rfl rfl ?_
 by_cases hc : val a < val b
 ·rw [if_pos hc]
  have hr := Qbo (Nat.sub_le (val b) (val a))
  simp +decide (disch := first | omega | rfl | (simp +decide only [go_sem, ↓reduceIte] <;> rfl) | fail) only [go_sem, ↓reduceIte]
  refine Qa hP (Qkz hb ha hlb hla) rfl rfl rfl ?_
  rw [if_neg (by omega)]
  simp +decide (disch := first | omega | rfl | (simp +decide only [go_sem, ↓reduceIte] <;> rfl) | fail) only [go_sem, ↓reduceIte]
  refine Qa hP (Qea (n := m) (Qj (val b - val a)) (show nl _ < _ by omega)) rfl rfl rfl ?_
  simp +decide (disch := first | omega | rfl | (simp +decide only [go_sem, ↓reduceIte] <;> rfl) | fail) only [go_sem, ↓reduceIte]
  refine Qa7 ?_
  simp +decide (disch := first | omega | rfl | (simp +decide only [go_sem, ↓reduceIte] <;> rfl) | fail) only [go_sem, ↓reduceIte]
  exact Qc (congrArg PV.zz (by rw [Qgv]; unfold zv; cases m <;> simp <;> omega)) rfl
 ·rw [if_neg hc]
  have hr := Qbo (Nat.sub_le (val a) (val b))
  simp +decide (disch := first | omega | rfl | (simp +decide only [go_sem, ↓reduceIte] <;> rfl) | fail) only [go_sem, ↓reduceIte]
  refine Qa hP (Qea (n := !m) (Qj (val a - val b)) (show nl _ < _ by omega)) rfl rfl rfl ?_
  simp +decide (disch := first | omega | rfl | (simp +decide only [go_sem, ↓reduceIte] <;> rfl) | fail) only [go_sem, ↓reduceIte]
  refine Qa7 ?_
  simp +decide (disch := first | omega | rfl | (simp +decide only [go_sem, ↓reduceIte] <;> rfl) | fail) only [go_sem, ↓reduceIte]
  exact Qc (congrArg PV.zz (by rw [Qgv]; unfold zv; cases m <;> simp <;> omega)) rfl
end Go.Proofs.YtmnkngmmfnncoaaGreat
namespace Go.Proofs.YtmnkngmmfnncoaaGreat
open Go Go.FW
set_option linter.unusedSimpArgs false
set_option linter.unusedVariables false
set_option maxRecDepth 100000
theorem Qn2 {a : List Nat} {g : Nat} (ha : Qi a) (hx : a.length < 2 ^ 36) (hy : nl g < 2 ^ 36) (h0 : g ≠ 0) : Qe Tryz.prog 168 [PV.nat a, PV.num g] (· = .tup [PV.num (val a / g), PV.num (val a % g), .int .i64 0]) := by
 have := Qln ha (Qj g) hx hy
 rwa [Qw, if_neg h0] at this
theorem Qaf6 (n : Bool) (a : List Nat) (D : Nat) : zv n (dig (val a / Nat.gcd (val a) D)) = zv n a / (Nat.gcd (zv n a).natAbs D : Int) := by
 rw [Qa9, Qgv]
 unfold zv
 cases n
 ·simp
 ·have hd : ((Nat.gcd (val a) D : Nat) : Int) ∣ (val a : Int) := Int.natCast_dvd_natCast.2 (Nat.gcd_dvd_left _ _)
  simp only [if_true]
  rw [Int.neg_ediv_of_dvd hd, Int.natCast_ediv]
theorem Qn3 {n : Bool} {a d : List Nat} (ha : Qi a) (hd : Qi d) (hla : a.length < 2 ^ 36) (hld : d.length < 2 ^ 36) : Qe Tryz.prog 104 [PV.zi n a, PV.nat d] (· = PV.rat (rv n a d)) := by
 have hna := Qah ha
 have hnd := Qah hd
 refine Qg Qk Tryz.func104 rfl Qadd (by simp [Q8k]) fun C hP => ?_; simp only [Q8k]
 simp +decide (disch := first | omega | rfl | (simp +decide only [go_sem, ↓reduceIte] <;> rfl) | fail) only [go_sem, ↓reduceIte]
 refine Qa hP (Qbm hd (by omega)) rfl rfl rfl ?_
 simp +decide (disch := first | omega | rfl | (simp +decide only [go_sem, ↓reduceIte] <;> rfl) | fail) only [go_sem, ↓reduceIte]
 refine Qb (fun hz => ?_) (fun hz => ?_)
 ·have h0 : val d = 0 := Qbp.1 (Qcp (n := val d) (by omega))
  simp +decide (disch := first | omega | rfl | (simp +decide only [go_sem, ↓reduceIte] <;> rfl) | fail) only [go_sem, ↓reduceIte]
  refine Qa hP (Qcx (n := 1) (by omega)) rfl rfl rfl ?_
  simp +decide (disch := first | omega | rfl | (simp +decide only [go_sem, ↓reduceIte] <;> rfl) | fail) only [go_sem, ↓reduceIte]
  refine Qa7 ?_
  simp +decide (disch := first | omega | rfl | (simp +decide only [go_sem, ↓reduceIte] <;> rfl) | fail) only [go_sem, ↓reduceIte]
  exact (by unfold rv; rw [Qo9 (.inl h0), Qfx]; exact Qc3 Qx5 rfl)
 ·have h0 : val d ≠ 0 := fun h => by rw [h, Qa1] at hz; exact hz rfl
  have hg0 : Nat.gcd (val a) (val d) ≠ 0 := fun h => h0 (Nat.gcd_eq_zero_iff.1 h).2
  have hg := Qbo (Nat.gcd_le_right (val a) (Nat.pos_of_ne_zero h0))
  have hq := Qq4 (val a) (Nat.gcd (val a) (val d))
  simp +decide (disch := first | omega | rfl | (simp +decide only [go_sem, ↓reduceIte] <;> rfl) | fail) only [go_sem, ↓reduceIte]
  refine Qa hP (Qpk ha hd hla hld) rfl rfl rfl ?_
  simp +decide (disch := first | omega | rfl | (simp +decide only [go_sem, ↓reduceIte] <;> rfl) | fail) only [go_sem, ↓reduceIte]
  refine Qa hP (Qn2 ha hla (by omega) hg0) rfl rfl rfl ?_
  simp +decide (disch := first | omega | rfl | (simp +decide only [go_sem, ↓reduceIte] <;> rfl) | fail) only [go_sem, ↓reduceIte]
  refine Qa hP (Qn2 hd hld (by omega) hg0) rfl rfl rfl ?_
  simp +decide (disch := first | omega | rfl | (simp +decide only [go_sem, ↓reduceIte] <;> rfl) | fail) only [go_sem, ↓reduceIte]
  refine Qa hP (Qgz (n := n) (Qj (val a / Nat.gcd (val a) (val d))) (show nl _ < _ by omega)) rfl rfl rfl ?_
  rw [Qaf6]
  have hm := Qh9 (z := zv n a) h0
  simp +decide (disch := first | omega | rfl | (simp +decide only [go_sem, ↓reduceIte] <;> rfl) | fail) only [go_sem, ↓reduceIte]
  refine Qa7 ?_
  simp +decide (disch := first | omega | rfl | (simp +decide only [go_sem, ↓reduceIte] <;> rfl) | fail) only [go_sem, ↓reduceIte]
  exact Qc (by unfold rv; rw [PV.rat, hm.1, hm.2, Qa9]) rfl
theorem Qdv {n : Bool} {a d : List Nat} {k : Nat} (hp : Raw k n a d) (hk : k < 2 ^ 36) : Qe Tryz.prog 157 [PV.rr n a d] (· = PV.rat (rv n a d)) := by
 obtain ⟨ha, hd, sa, sd, k1⟩ := hp
 refine Qg Qk Tryz.func157 rfl Qade (by simp [Q8l]) fun C hP => ?_; simp only [Q8l]
 simp +decide (disch := first | omega | rfl | (simp +decide only [go_sem, ↓reduceIte] <;> rfl) | fail) only [go_sem, ↓reduceIte]
 refine Qa hP (Qn3 (n := n) ha hd (by omega) (by omega)) rfl rfl rfl ?_
 simp +decide (disch := first | omega | rfl | (simp +decide only [go_sem, ↓reduceIte] <;> rfl) | fail) only [go_sem, ↓reduceIte]
 refine Qa7 ?_
 simp +decide (disch := first | omega | rfl | (simp +decide only [go_sem, ↓reduceIte] <;> rfl) | fail) only [go_sem, ↓reduceIte]
 exact Qc rfl rfl
theorem Qg0 {z : Int} {D : Nat} (hz : nl z.natAbs < 2 ^ 36) (hD : nl D < 2 ^ 36) : Qe Tryz.prog 104 [PV.zz z, PV.num D] (· = PV.rat (mkRat z D)) := by
 have := Qn3 (n := decide (z < 0)) (Qj z.natAbs) (Qj D) hz hD
 rwa [rv, Qe1, Qw] at this
theorem Qi0 {x : Int} (h1 : -9223372036854775808 <= x) (h2 : x <= 9223372036854775807) : Qe Tryz.prog 34 [.int .i64 x] (· = PV.rat (x : Rat)) := by
 have hl1 : nl x.natAbs <= 4 := Qdr (by omega)
 refine Qg Qk Tryz.func34 rfl Qaf2 (by simp [c34]) fun C hP => ?_; simp only [c34]
 simp +decide (disch := first | omega | rfl | (simp +decide only [go_sem, ↓reduceIte] <;> rfl) | fail) only [go_sem, ↓reduceIte]
 refine Qa hP (Qmv h1 h2) rfl rfl rfl ?_
 simp +decide (disch := first | omega | rfl | (simp +decide only [go_sem, ↓reduceIte] <;> rfl) | fail) only [go_sem, ↓reduceIte]
 refine Qa hP (Qcx (n := 1) (by omega)) rfl rfl rfl ?_
 simp +decide (disch := first | omega | rfl | (simp +decide only [go_sem, ↓reduceIte] <;> rfl) | fail) only [go_sem, ↓reduceIte]
 refine Qa hP (Qg0 (z := x) (D := 1) (by omega) (by rw [Qjl]; omega)) rfl rfl rfl ?_
 simp +decide (disch := first | omega | rfl | (simp +decide only [go_sem, ↓reduceIte] <;> rfl) | fail) only [go_sem, ↓reduceIte]
 refine Qa7 ?_
 simp +decide (disch := first | omega | rfl | (simp +decide only [go_sem, ↓reduceIte] <;> rfl) | fail) only [go_sem, ↓reduceIte]
 exact Qc (congrArg PV.rat (Rat.mkRat_one x)) rfl
theorem Qf9 (d : List Nat) : Qe Tryz.prog 161 [PV.nat d] (· = PV.zi false d) := by
 refine Qg Qk Tryz.func161 rfl Qadg (by simp [Q8n]) fun C hP => ?_; simp only [Q8n]
 simp +decide (disch := first | omega | rfl | (simp +decide only [go_sem, ↓reduceIte] <;> rfl) | fail) only [go_sem, ↓reduceIte]
 refine Qa7 ?_
 simp +decide (disch := first | omega | rfl | (simp +decide only [go_sem, ↓reduceIte] <;> rfl) | fail) only [go_sem, ↓reduceIte]
 exact Qc rfl rfl
theorem Qry {x : Int} (hx : nl x.natAbs < 2 ^ 42) : Qe Tryz.prog 156 [PV.zz x] (· = .int .i64 (sgn x)) := by
 have := Qwq (n := decide (x < 0)) (Qj x.natAbs) hx
 rwa [Qe1] at this
theorem Qg1 {n : Bool} {a d : List Nat} {k : Nat} (hp : Raw k n a d) (hk : k < 2 ^ 36) : Qe Tryz.prog 81 [PV.rr n a d] (· = .int .i64 (Qdb (rv n a d))) := by
 have hs := hp.rs
 unfold FW.rs at hs
 refine Qg Qk Tryz.func81 rfl Qaf3 (by simp [c81]) fun C hP => ?_; simp only [c81]
 simp +decide (disch := first | omega | rfl | (simp +decide only [go_sem, ↓reduceIte] <;> rfl) | fail) only [go_sem, ↓reduceIte]
 refine Qa hP (Qdv hp hk) rfl rfl rfl ?_
 simp +decide (disch := first | omega | rfl | (simp +decide only [go_sem, ↓reduceIte] <;> rfl) | fail) only [go_sem, ↓reduceIte]
 refine Qa hP (Qry (x := (rv n a d).num) (by omega)) rfl rfl rfl ?_
 simp +decide (disch := first | omega | rfl | (simp +decide only [go_sem, ↓reduceIte] <;> rfl) | fail) only [go_sem, ↓reduceIte]
 exact Qc rfl rfl
end Go.Proofs.YtmnkngmmfnncoaaGreat
namespace Go.Proofs.YtmnkngmmfnncoaaGreat
open Go Go.FW
set_option linter.unusedSimpArgs false
set_option linter.unusedVariables false
set_option maxRecDepth 100000
theorem Qkm {x : Int} {d : Nat} (hx : nl x.natAbs < 2 ^ 40) (hy : nl d < 2 ^ 40) : Qe Tryz.prog 159 [PV.zz x, PV.zi false (dig d)] (· = PV.zz (x * (d : Int))) := by
 have := Qpl (n := decide (x < 0)) (m := false) (Qj x.natAbs) (Qj d) hx hy
 rwa [Qe1, Qfq, Qw] at this
theorem Q2t {x y : Int} (hx : nl x.natAbs < 2 ^ 40) (hy : nl y.natAbs < 2 ^ 40) : Qe Tryz.prog 166 [PV.zz x, PV.zz y] (· = PV.zz (x + y)) := by
 have := Qxk (n := decide (x < 0)) (m := decide (y < 0)) (Qj x.natAbs) (Qj y.natAbs) hx hy
 rwa [Qe1, Qe1] at this
theorem Q2u {x y : Int} (hx : nl x.natAbs < 2 ^ 41) (hy : nl y.natAbs < 2 ^ 41) : Qe Tryz.prog 201 [PV.zz x, PV.zz y] (· = .int .i64 (Qbr x y)) := by
 have := Qxj (n := decide (x < 0)) (m := decide (y < 0)) (Qj x.natAbs) (Qj y.natAbs) hx hy
 rwa [Qe1, Qe1] at this
theorem r3_Mul_spec {n m : Bool} {a d b c : List Nat} {k : Nat} (hp : Raw k n a d) (hq : Raw k m b c) (hk : k < 2 ^ 34) : Qe Tryz.prog 83 [PV.rr n a d, PV.rr m b c] (· = PV.rat (rv n a d * rv m b c)) := by
 obtain ⟨ha, hd, sa, sd, k1⟩ := hp
 obtain ⟨hb, hc, sb, sc, k2⟩ := hq
 have h1 := Qay (zv n a) (zv m b)
 have h2 := Qe7 (val d) (val c)
 rw [Qa9, Qa9] at h1
 have e1 := Qah ha
 have e2 := Qah hd
 have e3 := Qah hb
 have e4 := Qah hc
 refine Qg Qk Tryz.func83 rfl Qaf5 (by simp [c83]) fun C hP => ?_; simp only [c83]
 simp +decide (disch := first | omega | rfl | (simp +decide only [go_sem, ↓reduceIte] <;> rfl) | fail) only [go_sem, ↓reduceIte]
 refine Qa hP (Qpl (n := n) (m := m) ha hb (by omega) (by omega)) rfl rfl rfl ?_
 simp +decide (disch := first | omega | rfl | (simp +decide only [go_sem, ↓reduceIte] <;> rfl) | fail) only [go_sem, ↓reduceIte]
 refine Qa hP (Qk0 hd hc (by omega) (by omega)) rfl rfl rfl ?_
 simp +decide (disch := first | omega | rfl | (simp +decide only [go_sem, ↓reduceIte] <;> rfl) | fail) only [go_sem, ↓reduceIte]
 refine Qa hP (Qg0 (z := zv n a * zv m b) (D := val d * val c) (by omega) (by omega)) rfl rfl rfl ?_
 simp +decide (disch := first | omega | rfl | (simp +decide only [go_sem, ↓reduceIte] <;> rfl) | fail) only [go_sem, ↓reduceIte]
 refine Qa7 ?_
 simp +decide (disch := first | omega | rfl | (simp +decide only [go_sem, ↓reduceIte] <;> rfl) | fail) only [go_sem, ↓reduceIte]
 exact Qc (congrArg PV.rat (Rat.mkRat_mul_mkRat _ _ _ _).symm) rfl
theorem Qpm {n m : Bool} {a d b c : List Nat} {k : Nat} (hp : Raw k n a d) (hq : Raw k m b c) (hk : k < 2 ^ 34) : Qe Tryz.prog 148 [PV.rr n a d, PV.rr m b c] (· = .int .i64 (Qhb (rv n a d) (rv m b c))) := by
 have hx := hp.rs
 have hy := hq.rs
 unfold FW.rs at hx hy
 refine Qg Qk Tryz.func148 rfl Qadh (by simp [Q8o]) fun C hP => ?_; simp only [Q8o]
 simp +decide (disch := first | omega | rfl | (simp +decide only [go_sem, ↓reduceIte] <;> rfl) | fail) only [go_sem, ↓reduceIte]
 refine Qa hP (Qdv hp (by omega)) rfl rfl rfl ?_
 simp +decide (disch := first | omega | rfl | (simp +decide only [go_sem, ↓reduceIte] <;> rfl) | fail) only [go_sem, ↓reduceIte]
 refine Qa hP (Qdv hq (by omega)) rfl rfl rfl ?_
 generalize rv n a d = p at *
 generalize rv m b c = q at *
 have h1 := Qay p.num (q.den : Int)
 have h2 := Qay q.num (p.den : Int)
 rw [Int.natAbs_natCast] at h1 h2
 simp +decide (disch := first | omega | rfl | (simp +decide only [go_sem, ↓reduceIte] <;> rfl) | fail) only [go_sem, ↓reduceIte]
 refine Qa hP (Qf9 (dig q.den)) rfl rfl rfl ?_
 simp +decide (disch := first | omega | rfl | (simp +decide only [go_sem, ↓reduceIte] <;> rfl) | fail) only [go_sem, ↓reduceIte]
 refine Qa hP (Qkm (x := p.num) (d := q.den) (by omega) (by omega)) rfl rfl rfl ?_
 simp +decide (disch := first | omega | rfl | (simp +decide only [go_sem, ↓reduceIte] <;> rfl) | fail) only [go_sem, ↓reduceIte]
 refine Qa hP (Qf9 (dig p.den)) rfl rfl rfl ?_
 simp +decide (disch := first | omega | rfl | (simp +decide only [go_sem, ↓reduceIte] <;> rfl) | fail) only [go_sem, ↓reduceIte]
 refine Qa hP (Qkm (x := q.num) (d := p.den) (by omega) (by omega)) rfl rfl rfl ?_
 simp +decide (disch := first | omega | rfl | (simp +decide only [go_sem, ↓reduceIte] <;> rfl) | fail) only [go_sem, ↓reduceIte]
 refine Qa hP (Q2u (x := p.num * (q.den : Int)) (y := q.num * (p.den : Int)) (by omega) (by omega)) rfl rfl rfl ?_
 simp +decide (disch := first | omega | rfl | (simp +decide only [go_sem, ↓reduceIte] <;> rfl) | fail) only [go_sem, ↓reduceIte]
 exact Qc (congrArg (PV.int .i64) (by rw [<- Qx6 p.den_nz q.den_nz, Rat.mkRat_self, Rat.mkRat_self])) rfl
theorem Qua {n m : Bool} {a d b c : List Nat} {k : Nat} (hp : Raw k n a d) (hq : Raw k m b c) (hk : k < 2 ^ 34) : Qe Tryz.prog 72 [PV.rr n a d, PV.rr m b c] (· = .bool (decide (rv n a d = rv m b c))) := by
 refine Qg Qk Tryz.func72 rfl Qaf4 (by simp [c72]) fun C hP => ?_; simp only [c72]
 simp +decide (disch := first | omega | rfl | (simp +decide only [go_sem, ↓reduceIte] <;> rfl) | fail) only [go_sem, ↓reduceIte]
 refine Qa hP (Qpm hp hq hk) rfl rfl rfl ?_
 simp +decide (disch := first | omega | rfl | (simp +decide only [go_sem, ↓reduceIte] <;> rfl) | fail) only [go_sem, ↓reduceIte]
 exact Qc (congrArg PV.bool (decide_eq_decide.2 Qnp)) rfl
theorem Qpn {n m : Bool} {a d b c : List Nat} {k : Nat} (hp : Raw k n a d) (hq : Raw k m b c) (hk : k < 2 ^ 34) : Qe Tryz.prog 101 [PV.rr n a d, PV.rr m b c] (· = PV.rat (rv n a d + rv m b c)) := by
 have hx := hp.rs
 have hy := hq.rs
 unfold FW.rs at hx hy
 refine Qg Qk Tryz.func101 rfl Qadi (by simp [Q8p]) fun C hP => ?_; simp only [Q8p]
 simp +decide (disch := first | omega | rfl | (simp +decide only [go_sem, ↓reduceIte] <;> rfl) | fail) only [go_sem, ↓reduceIte]
 refine Qa hP (Qdv hp (by omega)) rfl rfl rfl ?_
 simp +decide (disch := first | omega | rfl | (simp +decide only [go_sem, ↓reduceIte] <;> rfl) | fail) only [go_sem, ↓reduceIte]
 refine Qa hP (Qdv hq (by omega)) rfl rfl rfl ?_
 generalize rv n a d = p at *
 generalize rv m b c = q at *
 have h1 := Qay p.num (q.den : Int)
 have h2 := Qay q.num (p.den : Int)
 have h3 := Qe9 (p.num * (q.den : Int)) (q.num * (p.den : Int))
 have h4 := Qe7 p.den q.den
 rw [Int.natAbs_natCast] at h1 h2
 simp +decide (disch := first | omega | rfl | (simp +decide only [go_sem, ↓reduceIte] <;> rfl) | fail) only [go_sem, ↓reduceIte]
 refine Qa hP (Qf9 (dig q.den)) rfl rfl rfl ?_
 simp +decide (disch := first | omega | rfl | (simp +decide only [go_sem, ↓reduceIte] <;> rfl) | fail) only [go_sem, ↓reduceIte]
 refine Qa hP (Qkm (x := p.num) (d := q.den) (by omega) (by omega)) rfl rfl rfl ?_
 simp +decide (disch := first | omega | rfl | (simp +decide only [go_sem, ↓reduceIte] <;> rfl) | fail) only [go_sem, ↓reduceIte]
 refine Qa hP (Qf9 (dig p.den)) rfl rfl rfl ?_
 simp +decide (disch := first | omega | rfl | (simp +decide only [go_sem, ↓reduceIte] <;> rfl) | fail) only [go_sem, ↓reduceIte]
 refine Qa hP (Qkm (x := q.num) (d := p.den) (by omega) (by omega)) rfl rfl rfl ?_
 simp +decide (disch := first | omega | rfl | (simp +decide only [go_sem, ↓reduceIte] <;> rfl) | fail) only [go_sem, ↓reduceIte]
 refine Qa hP (Q2t (x := p.num * (q.den : Int)) (y := q.num * (p.den : Int)) (by omega) (by omega)) rfl rfl rfl ?_
 simp +decide (disch := first | omega | rfl | (simp +decide only [go_sem, ↓reduceIte] <;> rfl) | fail) only [go_sem, ↓reduceIte]
 refine Qa hP (Qiz (x := p.den) (y := q.den) (by omega) (by omega)) rfl rfl rfl ?_
 simp +decide (disch := first | omega | rfl | (simp +decide only [go_sem, ↓reduceIte] <;> rfl) | fail) only [go_sem, ↓reduceIte]
 refine Qa hP (Qg0 (z := p.num * (q.den : Int) + q.num * (p.den : Int)) (D := p.den * q.den) (by omega) (by omega)) rfl rfl rfl ?_
 simp +decide (disch := first | omega | rfl | (simp +decide only [go_sem, ↓reduceIte] <;> rfl) | fail) only [go_sem, ↓reduceIte]
 refine Qa7 ?_
 simp +decide (disch := first | omega | rfl | (simp +decide only [go_sem, ↓reduceIte] <;> rfl) | fail) only [go_sem, ↓reduceIte]
 exact Qc (congrArg PV.rat (by rw [<- Rat.mkRat_add_mkRat _ _ p.den_nz q.den_nz, Rat.mkRat_self, Rat.mkRat_self])) rfl
end Go.Proofs.YtmnkngmmfnncoaaGreat
namespace Go.Proofs.YtmnkngmmfnncoaaGreat
open Go Go.FW
set_option linter.unusedSimpArgs false
set_option linter.unusedVariables false
set_option maxRecDepth 100000
theorem Qub {n : Bool} {a d : List Nat} {k : Nat} (hp : Raw k n a d) (hk : k < 2 ^ 36) : Qe Tryz.prog 45 [PV.rr n a d] (· = .bool (Qot n a d)) := by
 obtain ⟨ha, hd, sa, sd, k1⟩ := hp
 have hgl : (dig (Nat.gcd (val a) (val d))).length < 2 ^ 43 := by
  by_cases h0 : val d = 0
  ·rw [h0, Nat.gcd_zero_right]
   have h4 := Qah ha
   unfold nl at h4; omega
  ·have h3 := Qbo (Nat.gcd_le_right (val a) (Nat.pos_of_ne_zero h0))
   have h4 := Qah hd
   unfold nl at h3 h4; omega
 refine Qg Qk Tryz.func45 rfl Qaf1 (by simp [c45]) fun C hP => ?_; simp only [c45]
 simp +decide (disch := first | omega | rfl | (simp +decide only [go_sem, ↓reduceIte] <;> rfl) | fail) only [go_sem, ↓reduceIte]
 refine Qa hP (Qt9 ha (by omega)) rfl rfl rfl ?_
 unfold Qot
 simp +decide (disch := first | omega | rfl | (simp +decide only [go_sem, ↓reduceIte] <;> rfl) | fail) only [go_sem, ↓reduceIte]
 cases hio : Qmb n a
 ·simp +decide (disch := first | omega | rfl | (simp +decide only [go_sem, ↓reduceIte] <;> rfl) | fail) only [go_sem, ↓reduceIte]
  exact Qc (by simp) rfl
 rw [Bool.true_and]
 simp +decide (disch := first | omega | rfl | (simp +decide only [go_sem, ↓reduceIte] <;> rfl) | fail) only [go_sem, ↓reduceIte]
 refine Qa hP (Qm4 hd (by omega)) rfl rfl rfl ?_
 simp +decide (disch := first | omega | rfl | (simp +decide only [go_sem, ↓reduceIte] <;> rfl) | fail) only [go_sem, ↓reduceIte]
 refine Qfv (fun hv => ?_) (fun hv => ?_)
 ·simp +decide (disch := first | omega | rfl | (simp +decide only [go_sem, ↓reduceIte] <;> rfl) | fail) only [go_sem, ↓reduceIte]
  refine Qa hP (Qpk ha hd (by omega) (by omega)) rfl rfl rfl ?_
  simp +decide (disch := first | omega | rfl | (simp +decide only [go_sem, ↓reduceIte] <;> rfl) | fail) only [go_sem, ↓reduceIte]
  refine Qa hP (Qcx (n := 1) (by omega)) rfl rfl rfl ?_
  simp +decide (disch := first | omega | rfl | (simp +decide only [go_sem, ↓reduceIte] <;> rfl) | fail) only [go_sem, ↓reduceIte]
  refine Qa hP (Qwp hgl (by rw [Qfx]; decide)) rfl rfl rfl ?_
  rw [Qfx, decide_eq_decide.2 (Qpf (Nat.gcd (val a) (val d)))]
  simp +decide (disch := first | omega | rfl | (simp +decide only [go_sem, ↓reduceIte] <;> rfl) | fail) only [go_sem, ↓reduceIte]
  refine Qar (fun hg => ?_) (fun hg => ?_)
  ·simp +decide (disch := first | omega | rfl | (simp +decide only [go_sem, ↓reduceIte] <;> rfl) | fail) only [go_sem, ↓reduceIte]
   exact Qc (congrArg PV.bool (by cases d <;> simp_all)) rfl
  ·simp +decide (disch := first | omega | rfl | (simp +decide only [go_sem, ↓reduceIte] <;> rfl) | fail) only [go_sem, ↓reduceIte]
   exact Qc (congrArg PV.bool (by simp [hg])) rfl
 ·simp +decide (disch := first | omega | rfl | (simp +decide only [go_sem, ↓reduceIte] <;> rfl) | fail) only [go_sem, ↓reduceIte]
  exact Qc (congrArg PV.bool (by simp_all)) rfl
end Go.Proofs.YtmnkngmmfnncoaaGreat
namespace Go.Proofs.YtmnkngmmfnncoaaGreat
open Go Go.FW
set_option linter.unusedSimpArgs false
set_option linter.unusedVariables false
set_option maxRecDepth 100000
theorem Qjt (x : Int) : Qe Tryz.prog 217 [.int .i64 x] (· = .int .i64 (sgn x)) := by
 refine Qg Qk Tryz.func217 rfl Qacc (by simp [Q7h]) fun C hP => ?_; simp only [Q7h]
 simp +decide (disch := first | omega | rfl | (simp +decide only [go_sem, ↓reduceIte] <;> rfl) | fail) only [go_sem, ↓reduceIte]
 refine Qb (fun h => ?_) (fun h => ?_)
 ·simp +decide (disch := first | omega | rfl | (simp +decide only [go_sem, ↓reduceIte] <;> rfl) | fail) only [go_sem, ↓reduceIte]
  exact Qc (by rw [sgn, if_pos h]) rfl
 simp +decide (disch := first | omega | rfl | (simp +decide only [go_sem, ↓reduceIte] <;> rfl) | fail) only [go_sem, ↓reduceIte]
 refine Qb (fun h2 => ?_) (fun h2 => ?_)
 ·simp +decide (disch := first | omega | rfl | (simp +decide only [go_sem, ↓reduceIte] <;> rfl) | fail) only [go_sem, ↓reduceIte]
  exact Qc (by rw [sgn, if_neg h, if_pos h2]) rfl
 ·simp +decide (disch := first | omega | rfl | (simp +decide only [go_sem, ↓reduceIte] <;> rfl) | fail) only [go_sem, ↓reduceIte]
  exact Qc (by rw [sgn, if_neg h, if_neg h2]) rfl
theorem Qxl {a : List Int} {v : Int} (hl : a.length < 2 ^ 42) : Qe Tryz.prog 131 [PV.mono a, .int .i64 v] (· = .int .i64 (if v < 0 then 0 else eN a v.toNat)) := by
 refine Qg Qk Tryz.func131 rfl Qaca (by simp [Q7f]) fun C hP => ?_; simp only [Q7f]
 simp +decide (disch := first | omega | rfl | (simp +decide only [go_sem, ↓reduceIte] <;> rfl) | fail) only [go_sem, ↓reduceIte]
 refine Q6 (fun h1 => ?_) (fun h1 => ?_)
 ·simp +decide (disch := first | omega | rfl | (simp +decide only [go_sem, ↓reduceIte] <;> rfl) | fail) only [go_sem, ↓reduceIte]
  exact Qc (by rw [if_pos h1]) rfl
 ·obtain ⟨n, rfl⟩ : ∃ n : Nat, v = n := ⟨v.toNat, by omega⟩
  rw [if_neg h1]
  simp +decide (disch := first | omega | rfl | (simp +decide only [go_sem, ↓reduceIte] <;> rfl) | fail) only [go_sem, ↓reduceIte]
  refine Qb (fun h2 => ?_) (fun h2 => ?_)
  ·simp +decide (disch := first | omega | rfl | (simp +decide only [go_sem, ↓reduceIte] <;> rfl) | fail) only [go_sem, ↓reduceIte]
   exact Qc (by rw [Qck (by omega)]) rfl
  ·have hn : n < a.length := by omega
   simp +decide (disch := first | omega | rfl | (simp +decide only [go_sem, ↓reduceIte] <;> rfl) | fail) only [go_sem, ↓reduceIte]
   exact Qc (by rw [Qc7 hn]) rfl
theorem Qdj {a : List Int} {i : Nat} (hl : a.length < 2 ^ 42) : Qe Tryz.prog 131 [PV.mono a, .int .i64 i] (· = .int .i64 (eN a i)) := by
 have := Qxl (v := i) hl
 rwa [if_neg (by omega), Int.toNat_natCast] at this
theorem Qf1 {a : List Int} (hl : a.length <= 1048576) (hb : ∀ x ∈ a, 0 <= x /\ x <= 1099511627776) : Qe Tryz.prog 216 [PV.mono a] (· = .int .i64 (Qf3 a)) := by
 refine Qg Qk Tryz.func216 rfl Qab9 (by simp [Q7e]) fun C hP => ?_; simp only [Q7e]
 simp +decide (disch := first | omega | rfl | (simp +decide only [go_sem, ↓reduceIte] <;> rfl) | fail) only [go_sem, ↓reduceIte]
 refine Qy (by repeat (first | exact Qv | exact Qp | exact Qq | exact Qr | apply Qo | apply Qu | apply Qz | apply Q8 | apply Q9 | apply Qn | apply Qaf)) [(3, 16)] [] (fun k J hp => ∃ (i : Nat) (s : Int), k = a.length - i /\ i <= a.length /\ 0 <= s /\ s <= 1099511627776 * i /\ s + (a.drop i).sum = Qf3 a /\ J 4 = .int .i64 (i : Nat) /\ J 3 = .int .i64 s /\ hp = hp0) a.length ?_ ?_
 ·refine ⟨0, 0, rfl, by omega, by omega, by omega, by simp [Qf3], ?_⟩
  simp +decide (disch := first | omega | rfl | (simp +decide only [go_sem, ↓reduceIte] <;> rfl) | fail) only [go_sem, ↓reduceIte]
  simp
 rintro _ J _ ⟨i, s, rfl, hi, hs0, hs1, hsum, h4, h3, rfl⟩
 simp +decide (disch := first | omega | rfl | (simp +decide only [go_sem, ↓reduceIte, h4, h3] <;> rfl) | fail) only [go_sem, ↓reduceIte, h4, h3]
 refine Qb (fun hg => ?_) (fun hg => ?_)
 ·have hi' : i < a.length := by omega
  have hx := hb _ (List.getElem_mem hi')
  rw [List.drop_eq_getElem_cons hi', List.sum_cons] at hsum
  generalize hxx : a[i] = x at *
  simp +decide (disch := first | omega | rfl | (simp +decide only [go_sem, ↓reduceIte, h4, h3, hxx] <;> rfl) | fail) only [go_sem, ↓reduceIte, h4, h3, hxx]
  refine Ql (a.length - (i + 1)) (by omega) ⟨i + 1, s + x, rfl, by omega, by omega, by push_cast; omega, by omega, ?_⟩
  simp +decide (disch := first | omega | rfl | (simp +decide only [go_sem, ↓reduceIte] <;> rfl) | fail) only [go_sem, ↓reduceIte]
 ·rw [List.drop_of_length_le (by omega), List.sum_nil, Int.add_zero] at hsum
  simp +decide (disch := first | omega | rfl | (simp +decide only [go_sem, ↓reduceIte, h3] <;> rfl) | fail) only [go_sem, ↓reduceIte, h3]
  exact Qc (by rw [hsum]) rfl
theorem Qxm {l : List Int} (hl : l.length < 2 ^ 42) : Qe Tryz.prog 218 [PV.mono l] (· = PV.mono (Qcs l)) := by
 refine Qg Qk Tryz.func218 rfl Qab7 (by simp [Q7c]) fun C hP => ?_; simp only [Q7c]
 simp +decide (disch := first | omega | rfl | (simp +decide only [go_sem, ↓reduceIte] <;> rfl) | fail) only [go_sem, ↓reduceIte]
 refine Qy (by repeat (first | exact Qv | exact Qp | exact Qq | exact Qr | apply Qo | apply Qu | apply Qz | apply Q8 | apply Q9 | apply Qn | apply Qaf)) [(3, 3), (7, 18)] [] (fun m J hp => m <= l.length /\ Qfr l m = Qcs l /\ J 3 = .int .i64 m /\ hp = hp0) l.length ?_ ?_
 ·refine ⟨Nat.le_refl _, rfl, ?_⟩
  simp +decide (disch := first | omega | rfl | (simp +decide only [go_sem, ↓reduceIte] <;> rfl) | fail) only [go_sem, ↓reduceIte]
 rintro n J _ ⟨hn, hc, h3, rfl⟩
 simp +decide (disch := first | omega | rfl | (simp +decide only [go_sem, ↓reduceIte, h3] <;> rfl) | fail) only [go_sem, ↓reduceIte, h3]
 refine Qar (fun hg => ?_) (fun hg => ?_)
 ·obtain _ | n := n
  ·omega
  have e : ((n + 1 : Nat) : Int) - 1 = n := by omega
  simp only [Qfr] at hc
  simp +decide (disch := first | omega | rfl | (simp +decide only [go_sem, ↓reduceIte, h3, e] <;> rfl) | fail) only [go_sem, ↓reduceIte, h3, e]
  refine Qb (fun hz => ?_) (fun hz => ?_)
  ·rw [if_pos (by simp [hz, show n < l.length by omega])] at hc
   simp +decide (disch := first | omega | rfl | (simp +decide only [go_sem, ↓reduceIte, h3, e] <;> rfl) | fail) only [go_sem, ↓reduceIte, h3, e]
   refine Ql n (by omega) ⟨by omega, hc, ?_⟩
   simp +decide (disch := first | omega | rfl | (simp +decide only [go_sem, ↓reduceIte] <;> rfl) | fail) only [go_sem, ↓reduceIte]
  ·rw [if_neg (by simpa [show n < l.length by omega] using hz)] at hc
   have hlt : (l.take (n + 1)).length < 2 ^ 42 := by rw [List.length_take]; omega
   simp +decide (disch := first | omega | rfl | (simp +decide only [go_sem, ↓reduceIte, h3, e, Qd, List.contains_cons, List.contains_nil, List.flatMap_cons, List.flatMap_nil, List.append_nil] <;> rfl) | fail) only [go_sem, ↓reduceIte, h3, e, Qd, List.contains_cons, List.contains_nil, List.flatMap_cons, List.flatMap_nil, List.append_nil]
   exact Qc (by rw [List.take_of_length_le (by simp), hc]) rfl
 ·obtain rfl : n = 0 := by omega
  simp +decide (disch := first | omega | rfl | (simp +decide only [go_sem, ↓reduceIte, h3, List.take_zero, List.map_nil, List.length_nil] <;> rfl) | fail) only [go_sem, ↓reduceIte, h3, List.take_zero, List.map_nil, List.length_nil]
  rw [Qiu (ys := []) rfl (by omega) (by simp) (by simp)]
  simp +decide (disch := first | omega | rfl | (simp +decide only [go_sem, ↓reduceIte, Qd, List.contains_cons, List.contains_nil, List.flatMap_cons, List.flatMap_nil, List.append_nil] <;> rfl) | fail) only [go_sem, ↓reduceIte, Qd, List.contains_cons, List.contains_nil, List.flatMap_cons, List.flatMap_nil, List.append_nil]
  exact Qc (by rw [<- hc]; rfl) rfl
theorem Qm6 {a : List Int} (hl : a.length < 2 ^ 42) : Qe Tryz.prog 179 [PV.mono a] (· = .bool (Qb8 a)) := by
 refine Qg Qk Tryz.func179 rfl Qab6 (by simp [Q7b]) fun C hP => ?_; simp only [Q7b]
 simp +decide (disch := first | omega | rfl | (simp +decide only [go_sem, ↓reduceIte] <;> rfl) | fail) only [go_sem, ↓reduceIte]
 have bad : (64 < a.length ∨ a.getLast? = some 0 ∨ ∃ x ∈ a, x < 0 ∨ 1048576 < x) -> Qb8 a = false := fun h => by
  cases hb : Qb8 a with
  | false => rfl
  | true =>
   have := MB.ofOk hb
   simp only [Qb8, Bool.and_eq_true, decide_eq_true_eq] at hb
   rcases h with h | h | ⟨x, hx, h⟩
   ·omega
   ·exact absurd h hb.2.1
   ·have h5 := this.lo x hx; have h6 := this.hi x hx; omega
 refine Q6 (fun h1 => ?_) (fun h1 => ?_)
 ·simp +decide (disch := first | omega | rfl | (simp +decide only [go_sem, ↓reduceIte] <;> rfl) | fail) only [go_sem, ↓reduceIte]
  exact Qc (by rw [bad (.inl (by omega))]) rfl
 simp +decide (disch := first | omega | rfl | (simp +decide only [go_sem, ↓reduceIte] <;> rfl) | fail) only [go_sem, ↓reduceIte]
 have fin : a.length <= 64 -> a.getLast? ≠ some 0 -> (∀ x ∈ a, 0 <= x /\ x <= 1048576) -> Qb8 a = true := fun h1 h2 h3 => by
  simp only [Qb8, Bool.and_eq_true, decide_eq_true_eq, List.all_eq_true]; exact ⟨h1, h2, h3⟩
 refine Qar (fun h2 => ?_) (fun h2 => ?_)
 ·obtain ⟨k, hk⟩ : ∃ k, a.length = k + 1 := ⟨a.length - 1, by omega⟩
  have hlast := Qvz hk
  have e : ((k + 1 : Nat) : Int) - 1 = k := by omega
  generalize hy : a[k]'(by omega) = y at *
  simp +decide (disch := first | omega | rfl | (simp +decide only [go_sem, ↓reduceIte, hk, e, hy] <;> rfl) | fail) only [go_sem, ↓reduceIte, hk, e, hy]
  refine Qb (fun h3 => ?_) (fun h3 => ?_)
  ·simp +decide (disch := first | omega | rfl | (simp +decide only [go_sem, ↓reduceIte] <;> rfl) | fail) only [go_sem, ↓reduceIte]
   exact Qc (by rw [bad (.inr (.inl (by rw [hlast, h3])))]) rfl
  have hlast : a.getLast? ≠ some 0 := by rw [hlast]; simpa using h3
  rw [<- hk] at *
  simp +decide (disch := first | omega | rfl | (simp +decide only [go_sem, ↓reduceIte] <;> rfl) | fail) only [go_sem, ↓reduceIte]
  refine Qy (by repeat (first | exact Qv | exact Qp | exact Qq | exact Qr | apply Qo | apply Qu | apply Qz | apply Q8 | apply Q9 | apply Qn | apply Qaf)) [(2, 3), (21, 38)] [] (fun k J hp => ∃ i, k = a.length - i /\ i <= a.length /\ (∀ x ∈ a.take i, 0 <= x /\ x <= 1048576) /\ J 3 = .int .i64 i /\ hp = hp0) a.length ?_ ?_
  ·refine ⟨0, rfl, by omega, by simp, ?_⟩
   simp +decide (disch := first | omega | rfl | (simp +decide only [go_sem, ↓reduceIte] <;> rfl) | fail) only [go_sem, ↓reduceIte]
   rfl
  rintro _ J _ ⟨i, rfl, hi, hall, hj, rfl⟩
  simp +decide (disch := first | omega | rfl | (simp +decide only [go_sem, ↓reduceIte, hj] <;> rfl) | fail) only [go_sem, ↓reduceIte, hj]
  refine Qb (fun hg => ?_) (fun hg => ?_)
  ·have hi' : i < a.length := by omega
   have hmem := List.getElem_mem hi'
   have htk : ∀ x ∈ a.take (i + 1), x ∈ a.take i ∨ x = a[i] := fun x hx => by
    rw [List.take_succ_eq_append_getElem hi'] at hx
    rcases List.mem_append.1 hx with h | h
    ·exact .inl h
    ·exact .inr (List.mem_singleton.1 h)
   generalize hx : a[i] = x at *
   simp +decide (disch := first | omega | rfl | (simp +decide only [go_sem, ↓reduceIte, hj, hx] <;> rfl) | fail) only [go_sem, ↓reduceIte, hj, hx]
   refine Q6 (fun h5 => ?_) (fun h5 => ?_)
   ·simp +decide (disch := first | omega | rfl | (simp +decide only [go_sem, ↓reduceIte] <;> rfl) | fail) only [go_sem, ↓reduceIte]
    exact Qc (by rw [bad (.inr (.inr ⟨x, hmem, .inl h5⟩))]) rfl
   ·simp +decide (disch := first | omega | rfl | (simp +decide only [go_sem, ↓reduceIte, hj, hx] <;> rfl) | fail) only [go_sem, ↓reduceIte, hj, hx]
    refine Qb (fun h6 => ?_) (fun h6 => ?_)
    ·simp +decide (disch := first | omega | rfl | (simp +decide only [go_sem, ↓reduceIte] <;> rfl) | fail) only [go_sem, ↓reduceIte]
     exact Qc (by rw [bad (.inr (.inr ⟨x, hmem, .inr h6⟩))]) rfl
    ·simp +decide (disch := first | omega | rfl | (simp +decide only [go_sem, ↓reduceIte, hj] <;> rfl) | fail) only [go_sem, ↓reduceIte, hj]
     refine Ql (a.length - (i + 1)) (by omega) ⟨i + 1, rfl, by omega, fun y hy => ?_, ?_⟩
     ·rcases htk y hy with h | rfl
      ·exact hall y h
      ·omega
     ·simp +decide (disch := first | omega | rfl | (simp +decide only [go_sem, ↓reduceIte] <;> rfl) | fail) only [go_sem, ↓reduceIte]
  ·rw [List.take_of_length_le (by omega)] at hall
   simp +decide (disch := first | omega | rfl | (simp +decide only [go_sem, ↓reduceIte] <;> rfl) | fail) only [go_sem, ↓reduceIte]
   exact Qc (by rw [fin (by omega) hlast hall]) rfl
 ·have hnil : a = [] := List.length_eq_zero_iff.1 (by omega)
  have hlast : a.getLast? ≠ some 0 := by rw [hnil]; simp
  simp +decide (disch := first | omega | rfl | (simp +decide only [go_sem, ↓reduceIte] <;> rfl) | fail) only [go_sem, ↓reduceIte]
  refine Qy (by repeat (first | exact Qv | exact Qp | exact Qq | exact Qr | apply Qo | apply Qu | apply Qz | apply Q8 | apply Q9 | apply Qn | apply Qaf)) [(2, 3), (21, 38)] [] (fun k J hp => ∃ i, k = a.length - i /\ i <= a.length /\ (∀ x ∈ a.take i, 0 <= x /\ x <= 1048576) /\ J 3 = .int .i64 i /\ hp = hp0) a.length ?_ ?_
  ·refine ⟨0, rfl, by omega, by simp, ?_⟩
   simp +decide (disch := first | omega | rfl | (simp +decide only [go_sem, ↓reduceIte] <;> rfl) | fail) only [go_sem, ↓reduceIte]
   rfl
  rintro _ J _ ⟨i, rfl, hi, hall, hj, rfl⟩
  simp +decide (disch := first | omega | rfl | (simp +decide only [go_sem, ↓reduceIte, hj] <;> rfl) | fail) only [go_sem, ↓reduceIte, hj]
  refine Qb (fun hg => ?_) (fun hg => ?_)
  ·have hi' : i < a.length := by omega
   have hmem := List.getElem_mem hi'
   have htk : ∀ x ∈ a.take (i + 1), x ∈ a.take i ∨ x = a[i] := fun x hx => by
    rw [List.take_succ_eq_append_getElem hi'] at hx
    rcases List.mem_append.1 hx with h | h
    ·exact .inl h
    ·exact .inr (List.mem_singleton.1 h)
   generalize hx : a[i] = x at *
   simp +decide (disch := first | omega | rfl | (simp +decide only [go_sem, ↓reduceIte, hj, hx] <;> rfl) | fail) only [go_sem, ↓reduceIte, hj, hx]
   refine Q6 (fun h5 => ?_) (fun h5 => ?_)
   ·simp +decide (disch := first | omega | rfl | (simp +decide only [go_sem, ↓reduceIte] <;> rfl) | fail) only [go_sem, ↓reduceIte]
    exact Qc (by rw [bad (.inr (.inr ⟨x, hmem, .inl h5⟩))]) rfl
   ·simp +decide (disch := first | omega | rfl | (simp +decide only [go_sem, ↓reduceIte, hj, hx] <;> rfl) | fail) only [go_sem, ↓reduceIte, hj, hx]
    refine Qb (fun h6 => ?_) (fun h6 => ?_)
    ·simp +decide (disch := first | omega | rfl | (simp +decide only [go_sem, ↓reduceIte] <;> rfl) | fail) only [go_sem, ↓reduceIte]
     exact Qc (by rw [bad (.inr (.inr ⟨x, hmem, .inr h6⟩))]) rfl
    ·simp +decide (disch := first | omega | rfl | (simp +decide only [go_sem, ↓reduceIte, hj] <;> rfl) | fail) only [go_sem, ↓reduceIte, hj]
     refine Ql (a.length - (i + 1)) (by omega) ⟨i + 1, rfl, by omega, fun y hy => ?_, ?_⟩
     ·rcases htk y hy with h | rfl
      ·exact hall y h
      ·omega
     ·simp +decide (disch := first | omega | rfl | (simp +decide only [go_sem, ↓reduceIte] <;> rfl) | fail) only [go_sem, ↓reduceIte]
  ·rw [List.take_of_length_le (by omega)] at hall
   simp +decide (disch := first | omega | rfl | (simp +decide only [go_sem, ↓reduceIte] <;> rfl) | fail) only [go_sem, ↓reduceIte]
   exact Qc (by rw [fin (by omega) hlast hall]) rfl
theorem Qwr {a : List Int} (hl : a.length < 2 ^ 42) : Qe Tryz.prog 183 [PV.mono a] (· = PV.mono (if Qb8 (Qcs a) then Qcs a else [])) := by
 have ht := Qer a
 refine Qg Qk Tryz.func183 rfl Qab8 (by simp [Q7d]) fun C hP => ?_; simp only [Q7d]
 simp +decide (disch := first | omega | rfl | (simp +decide only [go_sem, ↓reduceIte] <;> rfl) | fail) only [go_sem, ↓reduceIte]
 refine Qa hP (Qxm hl) rfl rfl rfl ?_
 simp +decide (disch := first | omega | rfl | (simp +decide only [go_sem, ↓reduceIte] <;> rfl) | fail) only [go_sem, ↓reduceIte]
 refine Qa hP (Qm6 (by omega)) rfl rfl rfl ?_
 simp +decide (disch := first | omega | rfl | (simp +decide only [go_sem, ↓reduceIte] <;> rfl) | fail) only [go_sem, ↓reduceIte]
 cases hok : Qb8 (Qcs a)
 ·simp +decide (disch := first | omega | rfl | (simp +decide only [go_sem, ↓reduceIte, Bool.not_false] <;> rfl) | fail) only [go_sem, ↓reduceIte, Bool.not_false]
  exact Qc3 (Qte (by simp)) rfl
 ·have : (Qcs a).length <= 64 := (MB.ofOk hok).len
  simp +decide (disch := first | omega | rfl | (simp +decide only [go_sem, ↓reduceIte, Bool.not_true, Qd, List.contains_cons, List.contains_nil, List.flatMap_cons, List.flatMap_nil, List.append_nil] <;> rfl) | fail) only [go_sem, ↓reduceIte, Bool.not_true, Qd, List.contains_cons, List.contains_nil, List.flatMap_cons, List.flatMap_nil, List.append_nil]
  exact Qc (by simp [List.take_of_length_le]) rfl
end Go.Proofs.YtmnkngmmfnncoaaGreat
namespace Go.Proofs.YtmnkngmmfnncoaaGreat
open Go Go.FW
set_option linter.unusedSimpArgs false
set_option linter.unusedVariables false
set_option maxRecDepth 100000
end Go.Proofs.YtmnkngmmfnncoaaGreat
namespace Go.Proofs.YtmnkngmmfnncoaaGreat
open Go Go.FW
set_option linter.unusedSimpArgs false
set_option linter.unusedVariables false
set_option maxRecDepth 100000
end Go.Proofs.YtmnkngmmfnncoaaGreat
namespace Go.Proofs.YtmnkngmmfnncoaaGreat
open Go Go.FW
set_option linter.unusedSimpArgs false
set_option linter.unusedVariables false
set_option maxRecDepth 100000
theorem Qqc (x y : Int) : sgn (x - y) = Qbr x y := by unfold sgn Qbr; (repeat' split) <;> omega
theorem Qxn {k : Nat} {a b : List Int} {o : Int} (ha : MB k a) (hb : MB k b) (hk : k <= 1099511627776) : Qe Tryz.prog 180 [PV.mono a, PV.mono b, .int .i64 o] (· = .int .i64 (Qfg o a b)) := by
 have h1 := ha.len
 have h2 := hb.len
 have hda : ∀ x ∈ a, 0 <= x /\ x <= 1099511627776 := fun x hx => by have := ha.lo x hx; have := ha.hi x hx; omega
 have hdb : ∀ x ∈ b, 0 <= x /\ x <= 1099511627776 := fun x hx => by have := hb.lo x hx; have := hb.hi x hx; omega
 have da := Qya ha
 have db := Qya hb
 refine Qg Qk Tryz.func180 rfl Qacb (by simp [Q7g]) fun C hP => ?_; simp only [Q7g]
 simp +decide (disch := first | omega | rfl | (simp +decide only [go_sem, ↓reduceIte] <;> rfl) | fail) only [go_sem, ↓reduceIte]
 refine Qar (fun ho => ?_) (fun ho => ?_)
 ·simp +decide (disch := first | omega | rfl | (simp +decide only [go_sem, ↓reduceIte] <;> rfl) | fail) only [go_sem, ↓reduceIte]
  refine Qa hP (Qf1 (by omega) hda) rfl rfl rfl ?_
  simp +decide (disch := first | omega | rfl | (simp +decide only [go_sem, ↓reduceIte] <;> rfl) | fail) only [go_sem, ↓reduceIte]
  refine Qa hP (Qf1 (by omega) hdb) rfl rfl rfl ?_
  simp +decide (disch := first | omega | rfl | (simp +decide only [go_sem, ↓reduceIte] <;> rfl) | fail) only [go_sem, ↓reduceIte]
  refine Qb (fun hd => ?_) (fun hd => ?_)
  ·have hord : Qfg o a b = Qbr (Qf3 a) (Qf3 b) := by unfold Qfg; rw [if_pos ⟨ho, hd⟩]
   simp +decide (disch := first | omega | rfl | (simp +decide only [go_sem, ↓reduceIte] <;> rfl) | fail) only [go_sem, ↓reduceIte]
   refine Qa hP (Qf1 (by omega) hda) rfl rfl rfl ?_
   simp +decide (disch := first | omega | rfl | (simp +decide only [go_sem, ↓reduceIte] <;> rfl) | fail) only [go_sem, ↓reduceIte]
   refine Qa hP (Qf1 (by omega) hdb) rfl rfl rfl ?_
   simp +decide (disch := first | omega | rfl | (simp +decide only [go_sem, ↓reduceIte] <;> rfl) | fail) only [go_sem, ↓reduceIte]
   refine Qa hP (Qjt _) rfl rfl rfl ?_
   simp +decide (disch := first | omega | rfl | (simp +decide only [go_sem, ↓reduceIte] <;> rfl) | fail) only [go_sem, ↓reduceIte]
   exact Qc (by rw [hord, Qqc]) rfl
  have hord : Qfg o a b = Qae a b := by unfold Qfg; rw [if_neg (fun h => hd h.2)]
  simp +decide (disch := first | omega | rfl | (simp +decide only [go_sem, ↓reduceIte] <;> rfl) | fail) only [go_sem, ↓reduceIte]
  refine Qy (by repeat (first | exact Qv | exact Qp | exact Qq | exact Qr | apply Qo | apply Qu | apply Qz | apply Q8 | apply Q9 | apply Qn | apply Qaf)) [(6, 7), (29, 47)] [] (fun n J hp => n <= max a.length b.length /\ Qbw a b n = Qae a b /\ J 7 = .int .i64 ((n : Int) - 1) /\ hp = hp0) (max a.length b.length) ?_ ?_
  ·refine ⟨by omega, rfl, ?_⟩
   simp +decide (disch := first | omega | rfl | (simp +decide only [go_sem, ↓reduceIte] <;> rfl) | fail) only [go_sem, ↓reduceIte]
  rintro n J _ ⟨hn, hc, h7, rfl⟩
  simp +decide (disch := first | omega | rfl | (simp +decide only [go_sem, ↓reduceIte, h7] <;> rfl) | fail) only [go_sem, ↓reduceIte, h7]
  refine Qb (fun hg => ?_) (fun hg => ?_)
  ·obtain _ | n := n
   ·omega
   have e : ((n + 1 : Nat) : Int) - 1 = n := by omega
   have ea := ha.eN n
   have eb := hb.eN n
   rw [Qbw] at hc
   simp +decide (disch := first | omega | rfl | (simp +decide only [go_sem, ↓reduceIte, h7, e] <;> rfl) | fail) only [go_sem, ↓reduceIte, h7, e]
   refine Qa hP (Qdj (by omega)) rfl rfl rfl ?_
   simp +decide (disch := first | omega | rfl | (simp +decide only [go_sem, ↓reduceIte, h7, e] <;> rfl) | fail) only [go_sem, ↓reduceIte, h7, e]
   refine Qa hP (Qdj (by omega)) rfl rfl rfl ?_
   simp +decide (disch := first | omega | rfl | (simp +decide only [go_sem, ↓reduceIte, h7, e] <;> rfl) | fail) only [go_sem, ↓reduceIte, h7, e]
   refine Qb (fun h4 => ?_) (fun h4 => ?_)
   ·rw [if_neg h4] at hc
    simp +decide (disch := first | omega | rfl | (simp +decide only [go_sem, ↓reduceIte, h7, e] <;> rfl) | fail) only [go_sem, ↓reduceIte, h7, e]
    refine Qa hP (Qdj (by omega)) rfl rfl rfl ?_
    simp +decide (disch := first | omega | rfl | (simp +decide only [go_sem, ↓reduceIte, h7, e] <;> rfl) | fail) only [go_sem, ↓reduceIte, h7, e]
    refine Qa hP (Qdj (by omega)) rfl rfl rfl ?_
    simp +decide (disch := first | omega | rfl | (simp +decide only [go_sem, ↓reduceIte, h7, e] <;> rfl) | fail) only [go_sem, ↓reduceIte, h7, e]
    refine Qa hP (Qjt _) rfl rfl rfl ?_
    simp +decide (disch := first | omega | rfl | (simp +decide only [go_sem, ↓reduceIte, h7, e] <;> rfl) | fail) only [go_sem, ↓reduceIte, h7, e]
    exact Qc (by rw [hord, <- hc, Qqc]) rfl
   ·rw [if_pos (by omega)] at hc
    simp +decide (disch := first | omega | rfl | (simp +decide only [go_sem, ↓reduceIte, h7, e] <;> rfl) | fail) only [go_sem, ↓reduceIte, h7, e]
    refine Ql n (by omega) ⟨by omega, hc, ?_⟩
    simp +decide (disch := first | omega | rfl | (simp +decide only [go_sem, ↓reduceIte] <;> rfl) | fail) only [go_sem, ↓reduceIte]
  ·obtain rfl : n = 0 := by omega
   simp +decide (disch := first | omega | rfl | (simp +decide only [go_sem, ↓reduceIte] <;> rfl) | fail) only [go_sem, ↓reduceIte]
   exact Qc (by rw [hord, <- hc]; rfl) rfl
 ·have hord : Qfg o a b = Qae a b := by unfold Qfg; rw [if_neg (fun h => ho h.1)]
  simp +decide (disch := first | omega | rfl | (simp +decide only [go_sem, ↓reduceIte] <;> rfl) | fail) only [go_sem, ↓reduceIte]
  refine Qy (by repeat (first | exact Qv | exact Qp | exact Qq | exact Qr | apply Qo | apply Qu | apply Qz | apply Q8 | apply Q9 | apply Qn | apply Qaf)) [(6, 7), (29, 47)] [] (fun n J hp => n <= max a.length b.length /\ Qbw a b n = Qae a b /\ J 7 = .int .i64 ((n : Int) - 1) /\ hp = hp0) (max a.length b.length) ?_ ?_
  ·refine ⟨by omega, rfl, ?_⟩
   simp +decide (disch := first | omega | rfl | (simp +decide only [go_sem, ↓reduceIte] <;> rfl) | fail) only [go_sem, ↓reduceIte]
  rintro n J _ ⟨hn, hc, h7, rfl⟩
  simp +decide (disch := first | omega | rfl | (simp +decide only [go_sem, ↓reduceIte, h7] <;> rfl) | fail) only [go_sem, ↓reduceIte, h7]
  refine Qb (fun hg => ?_) (fun hg => ?_)
  ·obtain _ | n := n
   ·omega
   have e : ((n + 1 : Nat) : Int) - 1 = n := by omega
   have ea := ha.eN n
   have eb := hb.eN n
   rw [Qbw] at hc
   simp +decide (disch := first | omega | rfl | (simp +decide only [go_sem, ↓reduceIte, h7, e] <;> rfl) | fail) only [go_sem, ↓reduceIte, h7, e]
   refine Qa hP (Qdj (by omega)) rfl rfl rfl ?_
   simp +decide (disch := first | omega | rfl | (simp +decide only [go_sem, ↓reduceIte, h7, e] <;> rfl) | fail) only [go_sem, ↓reduceIte, h7, e]
   refine Qa hP (Qdj (by omega)) rfl rfl rfl ?_
   simp +decide (disch := first | omega | rfl | (simp +decide only [go_sem, ↓reduceIte, h7, e] <;> rfl) | fail) only [go_sem, ↓reduceIte, h7, e]
   refine Qb (fun h4 => ?_) (fun h4 => ?_)
   ·rw [if_neg h4] at hc
    simp +decide (disch := first | omega | rfl | (simp +decide only [go_sem, ↓reduceIte, h7, e] <;> rfl) | fail) only [go_sem, ↓reduceIte, h7, e]
    refine Qa hP (Qdj (by omega)) rfl rfl rfl ?_
    simp +decide (disch := first | omega | rfl | (simp +decide only [go_sem, ↓reduceIte, h7, e] <;> rfl) | fail) only [go_sem, ↓reduceIte, h7, e]
    refine Qa hP (Qdj (by omega)) rfl rfl rfl ?_
    simp +decide (disch := first | omega | rfl | (simp +decide only [go_sem, ↓reduceIte, h7, e] <;> rfl) | fail) only [go_sem, ↓reduceIte, h7, e]
    refine Qa hP (Qjt _) rfl rfl rfl ?_
    simp +decide (disch := first | omega | rfl | (simp +decide only [go_sem, ↓reduceIte, h7, e] <;> rfl) | fail) only [go_sem, ↓reduceIte, h7, e]
    exact Qc (by rw [hord, <- hc, Qqc]) rfl
   ·rw [if_pos (by omega)] at hc
    simp +decide (disch := first | omega | rfl | (simp +decide only [go_sem, ↓reduceIte, h7, e] <;> rfl) | fail) only [go_sem, ↓reduceIte, h7, e]
    refine Ql n (by omega) ⟨by omega, hc, ?_⟩
    simp +decide (disch := first | omega | rfl | (simp +decide only [go_sem, ↓reduceIte] <;> rfl) | fail) only [go_sem, ↓reduceIte]
  ·obtain rfl : n = 0 := by omega
   simp +decide (disch := first | omega | rfl | (simp +decide only [go_sem, ↓reduceIte] <;> rfl) | fail) only [go_sem, ↓reduceIte]
   exact Qc (by rw [hord, <- hc]; rfl) rfl
end Go.Proofs.YtmnkngmmfnncoaaGreat
namespace Go.Proofs.YtmnkngmmfnncoaaGreat
open Go Go.FW
set_option linter.unusedSimpArgs false
set_option linter.unusedVariables false
set_option maxRecDepth 100000
theorem Q8q {a b : Rat} {k : Nat} (ha : rs a <= k) (hb : rs b <= k) (hk : k < 2 ^ 34) : Qe Tryz.prog 101 [PV.rat a, PV.rat b] (· = PV.rat (a + b)) := by
 have := Qpn (Qb9 ha) (Qb9 hb) hk
 rwa [Qc0, Qc0] at this
theorem Q8r {a b : Rat} {k : Nat} (ha : rs a <= k) (hb : rs b <= k) (hk : k < 2 ^ 34) : Qe Tryz.prog 148 [PV.rat a, PV.rat b] (· = .int .i64 (Qhb a b)) := by
 have := Qpm (Qb9 ha) (Qb9 hb) hk
 rwa [Qc0, Qc0] at this
theorem Qtw {a : Rat} (ha : rs a < 2 ^ 36) : Qe Tryz.prog 81 [PV.rat a] (· = .int .i64 (Qdb a)) := by
 have := Qg1 (Qb9 (Nat.le_refl (rs a))) ha
 rwa [Qc0] at this
theorem Qn4 {k : Nat} {a b : List Int} (ha : MB k a) (hb : MB k b) (hk : k <= 1099511627776) : Qe Tryz.prog 180 [PV.mono a, PV.mono b, .int .i64 0] (· = .int .i64 (Qae a b)) := by
 have := Qxn (o := 0) ha hb hk
 rwa [Qnq] at this
theorem Qxo {p q : List Tm} {K E : Nat} (hp : PB K E p) (hq : PB K E q) (hK : K <= 2 ^ 33) (hE : E <= 2 ^ 38) (hlp : p.length <= 2 ^ 36) (hlq : q.length <= 2 ^ 36) :
  Qe Tryz.prog 134 [PV.poly p, PV.poly q] (· = .int .i64 (Qej p q)) := by
 refine Qg Qk Tryz.func134 rfl Qace (by simp [Q7j]) fun C hP => ?_; simp only [Q7j]
 simp +decide (disch := first | omega | rfl | (simp +decide only [go_sem, ↓reduceIte] <;> rfl) | fail) only [go_sem, ↓reduceIte]
 refine Qy (by repeat (first | exact Qv | exact Qp | exact Qq | exact Qr | apply Qo | apply Qu | apply Qz | apply Q8 | apply Q9 | apply Qn | apply Qaf)) [(4, 47)] [] (fun n J hp => ∃ i, n = p.length - i /\ i <= p.length /\ i <= q.length /\ Qej (p.drop i) (q.drop i) = Qej p q /\ J 5 = .int .i64 (i : Nat)) p.length ?_ ?_
 ·refine ⟨0, rfl, by omega, by omega, rfl, ?_⟩
  simp +decide (disch := first | omega | rfl | (simp +decide only [go_sem, ↓reduceIte] <;> rfl) | fail) only [go_sem, ↓reduceIte]
  rfl
 rintro _ J h ⟨i, rfl, hi, hi2, hpc, h5⟩
 simp +decide (disch := first | omega | rfl | (simp +decide only [go_sem, ↓reduceIte, h5] <;> rfl) | fail) only [go_sem, ↓reduceIte, h5]
 refine Qar (fun hg => ?_) (fun hg => ?_)
 ·have hi' : i < p.length := by omega
  simp +decide (disch := first | omega | rfl | (simp +decide only [go_sem, ↓reduceIte, h5] <;> rfl) | fail) only [go_sem, ↓reduceIte, h5]
  refine Qb (fun hk => ?_) (fun hk => ?_)
  ·have hk' : i < q.length := by omega
   have htp := hp.get hi'
   have htq := hq.get hk'
   have c1 := htp.c
   have c2 := htq.c
   rw [Qth hi' hk'] at hpc
   generalize hx : p[i] = x at *
   generalize hy : q[i] = y at *
   simp +decide (disch := first | omega | rfl | (simp +decide only [go_sem, ↓reduceIte, h5, hx, hy] <;> rfl) | fail) only [go_sem, ↓reduceIte, h5, hx, hy]
   refine Qa hP (Qn4 htp.m htq.m (by omega)) rfl rfl rfl ?_
   simp +decide (disch := first | omega | rfl | (simp +decide only [go_sem, ↓reduceIte, h5, hx, hy] <;> rfl) | fail) only [go_sem, ↓reduceIte, h5, hx, hy]
   refine Qb (fun hc => ?_) (fun hc => ?_)
   ·simp +decide (disch := first | omega | rfl | (simp +decide only [go_sem, ↓reduceIte] <;> rfl) | fail) only [go_sem, ↓reduceIte]
    exact Qc (by rw [<- hpc, if_pos (by rw [Qgx, if_pos hc]; exact hc), Qgx, if_pos hc]) rfl
   ·simp +decide (disch := first | omega | rfl | (simp +decide only [go_sem, ↓reduceIte, h5, hx, hy] <;> rfl) | fail) only [go_sem, ↓reduceIte, h5, hx, hy]
    refine Qa hP (Q8r (a := x.1) (b := y.1) (k := 2 ^ 33) (by omega) (by omega) (by omega)) rfl rfl rfl ?_
    simp +decide (disch := first | omega | rfl | (simp +decide only [go_sem, ↓reduceIte, h5, hx, hy] <;> rfl) | fail) only [go_sem, ↓reduceIte, h5, hx, hy]
    refine Qb (fun hc2 => ?_) (fun hc2 => ?_)
    ·simp +decide (disch := first | omega | rfl | (simp +decide only [go_sem, ↓reduceIte] <;> rfl) | fail) only [go_sem, ↓reduceIte]
     exact Qc (by rw [<- hpc, if_pos (by rw [Qgx, if_neg hc]; exact hc2), Qgx, if_neg hc]) rfl
    ·rw [if_neg (by rw [Qgx, if_neg hc]; exact hc2)] at hpc
     simp +decide (disch := first | omega | rfl | (simp +decide only [go_sem, ↓reduceIte, h5] <;> rfl) | fail) only [go_sem, ↓reduceIte, h5]
     refine Ql (p.length - (i + 1)) (by omega) ⟨i + 1, rfl, by omega, by omega, hpc, ?_⟩
     simp +decide (disch := first | omega | rfl | (simp +decide only [go_sem, ↓reduceIte] <;> rfl) | fail) only [go_sem, ↓reduceIte]
  simp +decide (disch := first | omega | rfl | (simp +decide only [go_sem, ↓reduceIte] <;> rfl) | fail) only [go_sem, ↓reduceIte]
  refine Qb (fun hk => ?_) (fun hk => ?_)
  ·simp +decide (disch := first | omega | rfl | (simp +decide only [go_sem, ↓reduceIte] <;> rfl) | fail) only [go_sem, ↓reduceIte]
   exact Qc (by rw [<- hpc, List.drop_of_length_le (show p.length <= i by omega), Qjm, if_neg (by rw [List.length_drop]; omega)]) rfl
  ·simp +decide (disch := first | omega | rfl | (simp +decide only [go_sem, ↓reduceIte] <;> rfl) | fail) only [go_sem, ↓reduceIte]
   refine Qb (fun hk2 => ?_) (fun hk2 => ?_)
   ·simp +decide (disch := first | omega | rfl | (simp +decide only [go_sem, ↓reduceIte] <;> rfl) | fail) only [go_sem, ↓reduceIte]
    refine Qc ?_ rfl
    rw [<- hpc, List.drop_eq_getElem_cons (show i < p.length by omega), List.drop_of_length_le (show q.length <= i by omega), Qej]
   ·simp +decide (disch := first | omega | rfl | (simp +decide only [go_sem, ↓reduceIte] <;> rfl) | fail) only [go_sem, ↓reduceIte]
    exact Qc (by rw [<- hpc, List.drop_of_length_le (show p.length <= i by omega), Qjm, if_pos (by rw [List.length_drop]; omega)]) rfl
 ·have hi' : i = p.length := by omega
  simp +decide (disch := first | omega | rfl | (simp +decide only [go_sem, ↓reduceIte] <;> rfl) | fail) only [go_sem, ↓reduceIte]
  refine Qb (fun hk => ?_) (fun hk => ?_)
  ·simp +decide (disch := first | omega | rfl | (simp +decide only [go_sem, ↓reduceIte] <;> rfl) | fail) only [go_sem, ↓reduceIte]
   exact Qc (by rw [<- hpc, List.drop_of_length_le (show p.length <= i by omega), Qjm, if_neg (by rw [List.length_drop]; omega)]) rfl
  ·simp +decide (disch := first | omega | rfl | (simp +decide only [go_sem, ↓reduceIte] <;> rfl) | fail) only [go_sem, ↓reduceIte]
   refine Qb (fun hk2 => ?_) (fun hk2 => ?_)
   ·simp +decide (disch := first | omega | rfl | (simp +decide only [go_sem, ↓reduceIte] <;> rfl) | fail) only [go_sem, ↓reduceIte]
    refine Qc ?_ rfl
    rw [<- hpc, List.drop_eq_getElem_cons (show i < p.length by omega), List.drop_of_length_le (show q.length <= i by omega), Qej]
   ·simp +decide (disch := first | omega | rfl | (simp +decide only [go_sem, ↓reduceIte] <;> rfl) | fail) only [go_sem, ↓reduceIte]
    exact Qc (by rw [<- hpc, List.drop_of_length_le (show p.length <= i by omega), Qjm, if_pos (by rw [List.length_drop]; omega)]) rfl
theorem Qd2 {p q : List Tm} {K E : Nat} (hp : PB K E p) (hq : PB K E q) (hK : K <= 2 ^ 33) (hE : E <= 2 ^ 38) (hlp : p.length <= 2 ^ 36) (hlq : q.length <= 2 ^ 36) : Qe Tryz.prog 61 [PV.poly p, PV.poly q] (· = .bool (decide (p = q))) := by
 refine Qg Qk Tryz.func61 rfl Qafn (by simp [c61]) fun C hP => ?_; simp only [c61]
 simp +decide (disch := first | omega | rfl | (simp +decide only [go_sem, ↓reduceIte] <;> rfl) | fail) only [go_sem, ↓reduceIte]
 refine Qa hP (Qxo hp hq hK hE hlp hlq) rfl rfl rfl ?_
 simp +decide (disch := first | omega | rfl | (simp +decide only [go_sem, ↓reduceIte] <;> rfl) | fail) only [go_sem, ↓reduceIte]
 exact Qc (congrArg PV.bool (decide_eq_decide.2 (Qss hp.last hq.last))) rfl
theorem Qk1 {p q : List Tm} {K E : Nat} (hp : PB K E p) (hq : PB K E q) (hK : K <= 2 ^ 32) (hE : E <= 2 ^ 38) (hlp : p.length <= 2 ^ 36) (hlq : q.length <= 2 ^ 36) :
  Qe Tryz.prog 126 [PV.poly p, PV.poly q] (· = PV.poly (Q3 p q)) := by
 refine Qg Qk Tryz.func126 rfl Qacd (by simp [Q7i]) fun C hP => ?_; simp only [Q7i]
 simp +decide (disch := first | omega | rfl | (simp +decide only [go_sem, ↓reduceIte] <;> rfl) | fail) only [go_sem, ↓reduceIte]
 refine Qi6 5 900 4 133 (by omega) (by simp +decide (disch := first | omega | rfl | (simp +decide only [go_sem, ↓reduceIte] <;> rfl) | fail) only [go_sem, ↓reduceIte]) ?_
 refine Qy (by repeat (first | exact Qv | exact Qp | exact Qq | exact Qr | apply Qo | apply Qu | apply Qz | apply Q8 | apply Q9 | apply Qn | apply Qaf)) [(5, 90)] [9, 61, 62, 75, 76, 87, 88, 900] (fun n J hp => ∃ i k out, n = (p.length - i) + (q.length - k) /\ i <= p.length /\ k <= q.length /\ out.length <= i + k /\ out ++ Q3 (p.drop i) (q.drop k) = Q3 p q /\
  J 5 = .ms 900 out.length /\ J 6 = .int .i64 (i : Nat) /\ J 7 = .int .i64 (k : Nat) /\ hp 900 = some ⟨4, 133, out.map PV.term, false⟩) (p.length + q.length) ?_ ?_
 ·refine ⟨0, 0, [], by omega, by omega, by omega, by simp, rfl, ?_⟩
  simp +decide (disch := first | omega | rfl | (simp +decide only [go_sem, ↓reduceIte] <;> rfl) | fail) only [go_sem, ↓reduceIte]
  simp
 rintro _ J h ⟨i, k, out, rfl, hi, hk, hol, hpad, h5, h6, h7, hh⟩
 simp +decide (disch := first | omega | rfl | (simp +decide only [go_sem, ↓reduceIte, h5, h6, h7] <;> rfl) | fail) only [go_sem, ↓reduceIte, h5, h6, h7]
 refine Q6 (fun hg => ?_) (fun hg => ?_)
 ·have hi' : i < p.length := by omega
  simp +decide (disch := first | omega | rfl | (simp +decide only [go_sem, ↓reduceIte, h5, h6, h7] <;> rfl) | fail) only [go_sem, ↓reduceIte, h5, h6, h7]
  refine Qb (fun h => by omega) (fun _ => ?_)
  simp +decide (disch := first | omega | rfl | (simp +decide only [go_sem, ↓reduceIte, h5, h6, h7] <;> rfl) | fail) only [go_sem, ↓reduceIte, h5, h6, h7]
  refine Qb (fun hg2 => ?_) (fun hg2 => ?_)
  ·have hk' : k < q.length := by omega
   have htp := hp.get hi'
   have htq := hq.get hk'
   rw [Qtf hi' hk'] at hpad
   have c1 := htp.c
   have c2 := htq.c
   generalize hx : p[i] = x at *
   generalize hy : q[k] = y at *
   simp +decide (disch := first | omega | rfl | (simp +decide only [go_sem, ↓reduceIte, h5, h6, h7, hx, hy] <;> rfl) | fail) only [go_sem, ↓reduceIte, h5, h6, h7, hx, hy]
   refine Qa hP (Qn4 htp.m htq.m (by omega)) rfl rfl rfl ?_
   simp +decide (disch := first | omega | rfl | (simp +decide only [go_sem, ↓reduceIte, h5, h6, h7, hx, hy] <;> rfl) | fail) only [go_sem, ↓reduceIte, h5, h6, h7, hx, hy]
   refine Qb (fun hc => ?_) (fun hc => ?_)
   ·rw [if_pos hc] at hpad
    simp +decide (disch := first | omega | rfl | (simp +decide only [go_sem, ↓reduceIte, h5, h6, h7, hx] <;> rfl) | fail) only [go_sem, ↓reduceIte, h5, h6, h7, hx]
    rw [Qak (f := PV.term) (y := x) (xs := out) (ty' := 133) (fz := false) (by simp +decide (disch := first | omega | rfl | (simp +decide only [go_sem, ↓reduceIte, hh] <;> rfl) | fail) only [go_sem, ↓reduceIte, hh]) (by simp +decide (disch := first | omega | rfl | (simp +decide only [go_sem, ↓reduceIte] <;> rfl) | fail) only [go_sem, ↓reduceIte] <;> rfl) (by omega) rfl (by omega) (by omega)]
    simp +decide (disch := first | omega | rfl | (simp +decide only [go_sem, ↓reduceIte, h5, h6, h7, hx] <;> rfl) | fail) only [go_sem, ↓reduceIte, h5, h6, h7, hx]
    refine Ql ((p.length - (i + 1)) + (q.length - k)) (by omega) ⟨i + 1, k, out ++ [x], rfl, by omega, hk, by simp; omega, by simpa using hpad, ?_⟩
    simp +decide (disch := first | omega | rfl | (simp +decide only [go_sem, ↓reduceIte, h5, h6, h7] <;> rfl) | fail) only [go_sem, ↓reduceIte, h5, h6, h7]
    simp
   rw [if_neg hc] at hpad
   simp +decide (disch := first | omega | rfl | (simp +decide only [go_sem, ↓reduceIte, h5, h6, h7, hx, hy] <;> rfl) | fail) only [go_sem, ↓reduceIte, h5, h6, h7, hx, hy]
   refine Qb (fun hc2 => ?_) (fun hc2 => ?_)
   ·rw [if_pos hc2] at hpad
    simp +decide (disch := first | omega | rfl | (simp +decide only [go_sem, ↓reduceIte, h5, h6, h7, hy] <;> rfl) | fail) only [go_sem, ↓reduceIte, h5, h6, h7, hy]
    rw [Qak (f := PV.term) (y := y) (xs := out) (ty' := 133) (fz := false) (by simp +decide (disch := first | omega | rfl | (simp +decide only [go_sem, ↓reduceIte, hh] <;> rfl) | fail) only [go_sem, ↓reduceIte, hh]) (by simp +decide (disch := first | omega | rfl | (simp +decide only [go_sem, ↓reduceIte] <;> rfl) | fail) only [go_sem, ↓reduceIte] <;> rfl) (by omega) rfl (by omega) (by omega)]
    simp +decide (disch := first | omega | rfl | (simp +decide only [go_sem, ↓reduceIte, h5, h6, h7, hy] <;> rfl) | fail) only [go_sem, ↓reduceIte, h5, h6, h7, hy]
    refine Ql ((p.length - i) + (q.length - (k + 1))) (by omega) ⟨i, k + 1, out ++ [y], rfl, by omega, by omega, by simp; omega, by simpa using hpad, ?_⟩
    simp +decide (disch := first | omega | rfl | (simp +decide only [go_sem, ↓reduceIte, h5, h6, h7] <;> rfl) | fail) only [go_sem, ↓reduceIte, h5, h6, h7]
    simp
   rw [if_neg hc2] at hpad
   have hra := Qq5 x.1 y.1
   simp +decide (disch := first | omega | rfl | (simp +decide only [go_sem, ↓reduceIte, h5, h6, h7, hx, hy] <;> rfl) | fail) only [go_sem, ↓reduceIte, h5, h6, h7, hx, hy]
   refine Qe0 ?_ ?_
   all_goals
    simp +decide (disch := first | omega | rfl | (simp +decide only [go_sem, ↓reduceIte, h5, h6, h7, hx, hy] <;> rfl) | fail) only [go_sem, ↓reduceIte, h5, h6, h7, hx, hy]
    refine Qa hP (Q8q (a := x.1) (b := y.1) (k := 2 ^ 32) (by omega) (by omega) (by omega)) rfl rfl rfl ?_
    simp +decide (disch := first | omega | rfl | (simp +decide only [go_sem, ↓reduceIte, h5, h6, h7, hx, hy] <;> rfl) | fail) only [go_sem, ↓reduceIte, h5, h6, h7, hx, hy]
    refine Qa hP (Qtw (a := x.1 + y.1) (by omega)) rfl rfl rfl ?_
    simp +decide (disch := first | omega | rfl | (simp +decide only [go_sem, ↓reduceIte, h5, h6, h7, hx, hy] <;> rfl) | fail) only [go_sem, ↓reduceIte, h5, h6, h7, hx, hy]
    refine Qb (fun hz => ?_) (fun hz => ?_)
    ·rw [if_neg (fun h => hz (Qbg.2 h))] at hpad
     simp +decide (disch := first | omega | rfl | (simp +decide only [go_sem, ↓reduceIte, h5, h6, h7, hx, hy] <;> rfl) | fail) only [go_sem, ↓reduceIte, h5, h6, h7, hx, hy]
     rw [Qak (f := PV.term) (y := (x.1 + y.1, x.2)) (xs := out) (ty' := 133) (fz := false) (by simp +decide (disch := first | omega | rfl | (simp +decide only [go_sem, ↓reduceIte, hh] <;> rfl) | fail) only [go_sem, ↓reduceIte, hh]) (by simp +decide (disch := first | omega | rfl | (simp +decide only [go_sem, ↓reduceIte] <;> rfl) | fail) only [go_sem, ↓reduceIte] <;> rfl) (by omega) rfl (by omega) (by omega)]
     simp +decide (disch := first | omega | rfl | (simp +decide only [go_sem, ↓reduceIte, h5, h6, h7, hx, hy] <;> rfl) | fail) only [go_sem, ↓reduceIte, h5, h6, h7, hx, hy]
     refine Ql ((p.length - (i + 1)) + (q.length - (k + 1))) (by omega) ⟨i + 1, k + 1, out ++ [(x.1 + y.1, x.2)], rfl, by omega, by omega, by simp; omega, by simpa using hpad, ?_⟩
     simp +decide (disch := first | omega | rfl | (simp +decide only [go_sem, ↓reduceIte, h5, h6, h7] <;> rfl) | fail) only [go_sem, ↓reduceIte, h5, h6, h7]
     simp
    ·rw [if_pos (Qbg.1 (Decidable.not_not.1 hz))] at hpad
     simp +decide (disch := first | omega | rfl | (simp +decide only [go_sem, ↓reduceIte, h5, h6, h7, hx, hy] <;> rfl) | fail) only [go_sem, ↓reduceIte, h5, h6, h7, hx, hy]
     refine Ql ((p.length - (i + 1)) + (q.length - (k + 1))) (by omega) ⟨i + 1, k + 1, out, rfl, by omega, by omega, by omega, hpad, ?_⟩
     simp +decide (disch := first | omega | rfl | (simp +decide only [go_sem, ↓reduceIte, h5, h6, h7, hh] <;> rfl) | fail) only [go_sem, ↓reduceIte, h5, h6, h7, hh]
  ·rw [List.drop_of_length_le (show q.length <= k by omega), Qct, List.drop_eq_getElem_cons hi'] at hpad
   have hpad : out ++ p[i] :: Q3 (p.drop (i + 1)) (q.drop k) = Q3 p q := by rw [List.drop_of_length_le (show q.length <= k by omega), Qct]; exact hpad
   generalize hx : p[i] = x at *
   simp +decide (disch := first | omega | rfl | (simp +decide only [go_sem, ↓reduceIte, h5, h6, h7, hx] <;> rfl) | fail) only [go_sem, ↓reduceIte, h5, h6, h7, hx]
   rw [Qak (f := PV.term) (y := x) (xs := out) (ty' := 133) (fz := false) (by simp +decide (disch := first | omega | rfl | (simp +decide only [go_sem, ↓reduceIte, hh] <;> rfl) | fail) only [go_sem, ↓reduceIte, hh]) (by simp +decide (disch := first | omega | rfl | (simp +decide only [go_sem, ↓reduceIte] <;> rfl) | fail) only [go_sem, ↓reduceIte] <;> rfl) (by omega) rfl (by omega) (by omega)]
   simp +decide (disch := first | omega | rfl | (simp +decide only [go_sem, ↓reduceIte, h5, h6, h7, hx] <;> rfl) | fail) only [go_sem, ↓reduceIte, h5, h6, h7, hx]
   refine Ql ((p.length - (i + 1)) + (q.length - k)) (by omega) ⟨i + 1, k, out ++ [x], rfl, by omega, hk, by simp; omega, by simpa using hpad, ?_⟩
   simp +decide (disch := first | omega | rfl | (simp +decide only [go_sem, ↓reduceIte, h5, h6, h7] <;> rfl) | fail) only [go_sem, ↓reduceIte, h5, h6, h7]
   simp
 ·have hi' : i = p.length := by omega
  simp +decide (disch := first | omega | rfl | (simp +decide only [go_sem, ↓reduceIte, h5, h6, h7] <;> rfl) | fail) only [go_sem, ↓reduceIte, h5, h6, h7]
  refine Qb (fun hg2 => ?_) (fun hg2 => ?_)
  ·have hk' : k < q.length := by omega
   rw [List.drop_of_length_le (show p.length <= i by omega), Qfs, List.drop_eq_getElem_cons hk'] at hpad
   have hpad : out ++ q[k] :: Q3 (p.drop i) (q.drop (k + 1)) = Q3 p q := by rw [List.drop_of_length_le (show p.length <= i by omega), Qfs]; exact hpad
   generalize hy : q[k] = y at *
   simp +decide (disch := first | omega | rfl | (simp +decide only [go_sem, ↓reduceIte, h5, h6, h7, hy] <;> rfl) | fail) only [go_sem, ↓reduceIte, h5, h6, h7, hy]
   refine Qb (fun _ => ?_) (fun h => by omega)
   simp +decide (disch := first | omega | rfl | (simp +decide only [go_sem, ↓reduceIte, h5, h6, h7, hy] <;> rfl) | fail) only [go_sem, ↓reduceIte, h5, h6, h7, hy]
   rw [Qak (f := PV.term) (y := y) (xs := out) (ty' := 133) (fz := false) (by simp +decide (disch := first | omega | rfl | (simp +decide only [go_sem, ↓reduceIte, hh] <;> rfl) | fail) only [go_sem, ↓reduceIte, hh]) (by simp +decide (disch := first | omega | rfl | (simp +decide only [go_sem, ↓reduceIte] <;> rfl) | fail) only [go_sem, ↓reduceIte] <;> rfl) (by omega) rfl (by omega) (by omega)]
   simp +decide (disch := first | omega | rfl | (simp +decide only [go_sem, ↓reduceIte, h5, h6, h7, hy] <;> rfl) | fail) only [go_sem, ↓reduceIte, h5, h6, h7, hy]
   refine Ql ((p.length - i) + (q.length - (k + 1))) (by omega) ⟨i, k + 1, out ++ [y], rfl, by omega, by omega, by simp; omega, by simpa using hpad, ?_⟩
   simp +decide (disch := first | omega | rfl | (simp +decide only [go_sem, ↓reduceIte, h5, h6, h7] <;> rfl) | fail) only [go_sem, ↓reduceIte, h5, h6, h7]
   simp
  ·rw [List.drop_of_length_le (show p.length <= i by omega), Qfs, List.drop_of_length_le (show q.length <= k by omega), List.append_nil] at hpad
   simp +decide (disch := first | omega | rfl | (simp +decide only [go_sem, ↓reduceIte, h5, h6, h7, hh, Qd, List.contains_cons, List.contains_nil, List.flatMap_cons, List.flatMap_nil, List.append_nil] <;> rfl) | fail) only [go_sem, ↓reduceIte, h5, h6, h7, hh, Qd, List.contains_cons, List.contains_nil, List.flatMap_cons, List.flatMap_nil, List.append_nil]
   exact Qc (by rw [List.take_of_length_le (by simp), hpad]) rfl
end Go.Proofs.YtmnkngmmfnncoaaGreat
namespace Go.Proofs.YtmnkngmmfnncoaaGreat
open Go Go.FW
set_option linter.unusedSimpArgs false
set_option linter.unusedVariables false
set_option maxRecDepth 100000
end Go.Proofs.YtmnkngmmfnncoaaGreat
namespace Go.Proofs.YtmnkngmmfnncoaaGreat
open Go Go.FW
set_option linter.unusedSimpArgs false
set_option linter.unusedVariables false
set_option maxRecDepth 100000
theorem RB.raw {k : Nat} {t : RTm} (h : RB k t) (hk : 1 <= k) : Raw k t.n t.a t.d := ⟨h.r.1, h.r.2.1, h.r.2.2.1, h.r.2.2.2, hk⟩
end Go.Proofs.YtmnkngmmfnncoaaGreat
namespace Go.Proofs.YtmnkngmmfnncoaaGreat
open Go Go.FW
set_option linter.unusedSimpArgs false
set_option linter.unusedVariables false
set_option maxRecDepth 100000
theorem Qws {l : List RTm} {k : Nat} (hb : ∀ t ∈ l, RB k t) (hk1 : 1 <= k) (hk : k < 2 ^ 36) (hll : l.length < 2 ^ 40) : Qe Tryz.prog 121 [PV.rpoly l] (· = .bool (Qe2 l)) := by
 have hiff := Qv0 l
 have bad : ∀ {b : Bool}, (b = true -> False) -> b = false := fun {b} h => by cases b <;> simp_all
 refine Qg Qk Tryz.func121 rfl Qacg (by simp [Q7l]) fun C hP => ?_; simp only [Q7l]
 simp +decide (disch := first | omega | rfl | (simp +decide only [go_sem, ↓reduceIte] <;> rfl) | fail) only [go_sem, ↓reduceIte]
 refine Qy (by repeat (first | exact Qv | exact Qp | exact Qq | exact Qr | apply Qo | apply Qu | apply Qz | apply Q8 | apply Q9 | apply Qn | apply Qaf)) [(2, 51)] [] (fun n J hp => ∃ i, n = l.length - i /\ i <= l.length /\ (∀ j (h : j < l.length), j < i -> rOk l[j] = true) /\ (∀ j (h : j + 1 < l.length), j + 1 < i -> 0 < Qae l[j].m l[j + 1].m) /\ J 3 = .int .i64 (i : Nat)) l.length ?_ ?_
 ·refine ⟨0, rfl, by omega, by omega, by omega, ?_⟩
  simp +decide (disch := first | omega | rfl | (simp +decide only [go_sem, ↓reduceIte] <;> rfl) | fail) only [go_sem, ↓reduceIte]
  rfl
 rintro _ J h ⟨i, rfl, hi, h1, h2, h7⟩
 simp +decide (disch := first | omega | rfl | (simp +decide only [go_sem, ↓reduceIte, h7] <;> rfl) | fail) only [go_sem, ↓reduceIte, h7]
 refine Qb (fun hg => ?_) (fun hg => ?_)
 ·have hi' : i < l.length := by omega
  have hbt := hb _ (List.getElem_mem hi')
  have hr := (RB.raw hbt hk1).rs
  have hml := hbt.l
  have hbadt : Qe2 l = true -> rOk l[i] = true := fun h => (hiff.1 h).1 i hi'
  have hbadc : ∀ (j : Nat) (hj : j + 1 = i), Qe2 l = true -> 0 < Qae (l[j]'(by omega)).m l[i].m := fun j hj h => by subst hj; exact (hiff.1 h).2 j hi'
  have hadd1 : rOk l[i] = true -> ∀ j (h : j < l.length), j < i + 1 -> rOk l[j] = true := fun h j hj hji => by
   by_cases e : j = i
   ·subst e; exact h
   ·exact h1 j hj (by omega)
  have hprev : ∀ (j : Nat) (hj : j + 1 = i), MB 1048576 (l[j]'(by omega)).m := fun j hj => by
   have := h1 j (by omega) (by omega)
   simp only [rOk, Bool.and_eq_true] at this
   exact MB.ofOk this.2.2
  have hadd2 : (∀ (j : Nat) (hj : j + 1 = i), 0 < Qae (l[j]'(by omega)).m l[i].m) -> ∀ j (h : j + 1 < l.length), j + 1 < i + 1 -> 0 < Qae l[j].m l[j + 1].m := fun h j hj hji => by
   by_cases e : j + 1 = i
   ·subst e; exact h j rfl
   ·exact h2 j hj (by omega)
  generalize hx : l[i] = x at *
  have hr' : rs (rv x.n x.a x.d) < 2 ^ 36 := by omega
  simp +decide (disch := first | omega | rfl | (simp +decide only [go_sem, ↓reduceIte, h7, hx] <;> rfl) | fail) only [go_sem, ↓reduceIte, h7, hx]
  refine Qa hP (Qub (RB.raw hbt hk1) hk) rfl rfl rfl ?_
  simp +decide (disch := first | omega | rfl | (simp +decide only [go_sem, ↓reduceIte, h7] <;> rfl) | fail) only [go_sem, ↓reduceIte, h7]
  cases hok : Qot x.n x.a x.d
  ·have hf : Qe2 l = false := bad fun h => by have := hbadt h; simp [rOk, hok] at this
   simp +decide (disch := first | omega | rfl | (simp +decide only [go_sem, ↓reduceIte, h7, Bool.not_false] <;> rfl) | fail) only [go_sem, ↓reduceIte, h7, Bool.not_false]
   exact Qc (by rw [hf]) rfl
  simp +decide (disch := first | omega | rfl | (simp +decide only [go_sem, ↓reduceIte, h7, Bool.not_true, hx] <;> rfl) | fail) only [go_sem, ↓reduceIte, h7, Bool.not_true, hx]
  refine Qa hP (Qg1 (RB.raw hbt hk1) hk) rfl rfl rfl ?_
  simp +decide (disch := first | omega | rfl | (simp +decide only [go_sem, ↓reduceIte, h7] <;> rfl) | fail) only [go_sem, ↓reduceIte, h7]
  refine Q6 (fun hz => ?_) (fun hz => ?_)
  ·have hf : Qe2 l = false := bad fun h => by have := hbadt h; simp [rOk, RTm.q, Qbg.1 hz] at this
   simp +decide (disch := first | omega | rfl | (simp +decide only [go_sem, ↓reduceIte, h7] <;> rfl) | fail) only [go_sem, ↓reduceIte, h7]
   exact Qc (by rw [hf]) rfl
  simp +decide (disch := first | omega | rfl | (simp +decide only [go_sem, ↓reduceIte, h7, hx] <;> rfl) | fail) only [go_sem, ↓reduceIte, h7, hx]
  refine Qa hP (Qm6 (by omega)) rfl rfl rfl ?_
  simp +decide (disch := first | omega | rfl | (simp +decide only [go_sem, ↓reduceIte, h7] <;> rfl) | fail) only [go_sem, ↓reduceIte, h7]
  cases hmo : Qb8 x.m
  ·have hf : Qe2 l = false := bad fun h => by have := hbadt h; simp [rOk, hmo] at this
   simp +decide (disch := first | omega | rfl | (simp +decide only [go_sem, ↓reduceIte, h7, Bool.not_false] <;> rfl) | fail) only [go_sem, ↓reduceIte, h7, Bool.not_false]
   exact Qc (by rw [hf]) rfl
  have hrok : rOk x = true := by
   simp only [rOk, hok, hmo, Bool.true_and, Bool.and_true, decide_eq_true_eq]
   exact fun h => hz (Qbg.2 h)
  simp +decide (disch := first | omega | rfl | (simp +decide only [go_sem, ↓reduceIte, h7, Bool.not_true] <;> rfl) | fail) only [go_sem, ↓reduceIte, h7, Bool.not_true]
  refine Qar (fun hi0 => ?_) (fun hi0 => ?_)
  ·obtain ⟨j, rfl⟩ : ∃ j, i = j + 1 := ⟨i - 1, by omega⟩
   have e : ((j + 1 : Nat) : Int) - 1 = j := by omega
   have hjl : j < l.length := by omega
   have hpj := hprev j rfl
   have hbadj := hbadc j rfl
   have hadd2' : 0 < Qae (l[j]'(by omega)).m x.m -> ∀ j2 (h : j2 + 1 < l.length), j2 + 1 < j + 1 + 1 -> 0 < Qae l[j2].m l[j2 + 1].m := fun h => hadd2 (fun j' hj' => by
    obtain rfl : j' = j := by omega
    exact h)
   generalize hy : l[j]'(by omega) = y at *
   simp +decide (disch := first | omega | rfl | (simp +decide only [go_sem, ↓reduceIte, h7, e, hx, hy] <;> rfl) | fail) only [go_sem, ↓reduceIte, h7, e, hx, hy]
   refine Qa hP (Qn4 hpj (MB.ofOk hmo) (by omega)) rfl rfl rfl ?_
   simp +decide (disch := first | omega | rfl | (simp +decide only [go_sem, ↓reduceIte, h7, e] <;> rfl) | fail) only [go_sem, ↓reduceIte, h7, e]
   refine Qb (fun hc => ?_) (fun hc => ?_)
   ·have hf : Qe2 l = false := bad fun h => by have := hbadj h; omega
    simp +decide (disch := first | omega | rfl | (simp +decide only [go_sem, ↓reduceIte, h7] <;> rfl) | fail) only [go_sem, ↓reduceIte, h7]
    exact Qc (by rw [hf]) rfl
   ·simp +decide (disch := first | omega | rfl | (simp +decide only [go_sem, ↓reduceIte, h7] <;> rfl) | fail) only [go_sem, ↓reduceIte, h7]
    refine Ql (l.length - (j + 1 + 1)) (by omega) ⟨j + 1 + 1, rfl, by omega, hadd1 hrok, hadd2' (by omega), ?_⟩
    simp +decide (disch := first | omega | rfl | (simp +decide only [go_sem, ↓reduceIte] <;> rfl) | fail) only [go_sem, ↓reduceIte]
  ·obtain rfl : i = 0 := by omega
   simp +decide (disch := first | omega | rfl | (simp +decide only [go_sem, ↓reduceIte, h7] <;> rfl) | fail) only [go_sem, ↓reduceIte, h7]
   refine Ql (l.length - 1) (by omega) ⟨1, rfl, by omega, hadd1 hrok, hadd2 (fun j hj => by omega), ?_⟩
   simp +decide (disch := first | omega | rfl | (simp +decide only [go_sem, ↓reduceIte] <;> rfl) | fail) only [go_sem, ↓reduceIte]
 ·obtain rfl : i = l.length := by omega
  have hf : Qe2 l = true := hiff.2 ⟨fun j hj => h1 j hj hj, fun j hj => h2 j hj hj⟩
  simp +decide (disch := first | omega | rfl | (simp +decide only [go_sem, ↓reduceIte] <;> rfl) | fail) only [go_sem, ↓reduceIte]
  exact Qc (by rw [hf]) rfl
def smT (v : Nat) (e : Int) (t : RTm) : Bool := decide (t.m.length <= v) && (decide (t.a.length <= 4) && (decide (t.d.length <= 4) && t.m.all fun x => decide (x <= e)))
def Qen (n v : Nat) (e : Int) (l : List RTm) : Bool := decide (l.length <= n) && (l.all (smT v e) && Qe2 l)
theorem Quc {l : List RTm} {k n v : Nat} {e : Int} (hb : ∀ t ∈ l, RB k t) (hk1 : 1 <= k) (hk : k < 2 ^ 36) (hll : l.length < 2 ^ 40) :
  Qe Tryz.prog 52 [PV.rpoly l, .int .i64 n, .int .i64 v, .int .i64 e] (· = .bool (Qen n v e l)) := by
 have bad : l.length <= n -> ∀ i (h : i < l.length), smT v e l[i] = false -> Qen n v e l = false := fun _ i hi h => by
  have : l.all (smT v e) = false := by
   rw [List.all_eq_false]; exact ⟨_, List.getElem_mem hi, by simp [h]⟩
  simp [Qen, this]
 refine Qg Qk Tryz.func52 rfl Qafo (by simp [c52]) fun C hP => ?_; simp only [c52]
 simp +decide (disch := first | omega | rfl | (simp +decide only [go_sem, ↓reduceIte] <;> rfl) | fail) only [go_sem, ↓reduceIte]
 refine Qb (fun hn => ?_) (fun hn => ?_)
 ·simp +decide (disch := first | omega | rfl | (simp +decide only [go_sem, ↓reduceIte] <;> rfl) | fail) only [go_sem, ↓reduceIte]
  exact Qc (by simp [Qen, show ¬ l.length <= n by omega]) rfl
 have hn' : l.length <= n := by omega
 simp +decide (disch := first | omega | rfl | (simp +decide only [go_sem, ↓reduceIte] <;> rfl) | fail) only [go_sem, ↓reduceIte]
 refine Qy (by repeat (first | exact Qv | exact Qp | exact Qq | exact Qr | apply Qo | apply Qu | apply Qz | apply Q8 | apply Q9 | apply Qn | apply Qaf)) [(8, 10), (15, 69)] [] (fun m J hp => ∃ i, m = l.length - i /\ i <= l.length /\ (∀ j (h : j < l.length), j < i -> smT v e l[j] = true) /\ J 9 = .int .i64 (i : Nat)) l.length ?_ ?_
 ·refine ⟨0, rfl, by omega, by omega, ?_⟩
  simp +decide (disch := first | omega | rfl | (simp +decide only [go_sem, ↓reduceIte] <;> rfl) | fail) only [go_sem, ↓reduceIte]
  rfl
 rintro _ J h ⟨i, rfl, hi, h1, h9⟩
 simp +decide (disch := first | omega | rfl | (simp +decide only [go_sem, ↓reduceIte, h9] <;> rfl) | fail) only [go_sem, ↓reduceIte, h9]
 refine Qb (fun hg => ?_) (fun hg => ?_)
 ·have hi' : i < l.length := by omega
  have hbt := hb _ (List.getElem_mem hi')
  have hbad := bad hn' i hi'
  have hml := hbt.l
  have hadd : smT v e l[i] = true -> ∀ j (h : j < l.length), j < i + 1 -> smT v e l[j] = true := fun h j hj hji => by
   by_cases e : j = i
   ·subst e; exact h
   ·exact h1 j hj (by omega)
  generalize hx : l[i] = x at *
  simp +decide (disch := first | omega | rfl | (simp +decide only [go_sem, ↓reduceIte, h9, hx] <;> rfl) | fail) only [go_sem, ↓reduceIte, h9, hx]
  refine Q6 (fun h2 => ?_) (fun h2 => ?_)
  ·simp +decide (disch := first | omega | rfl | (simp +decide only [go_sem, ↓reduceIte, h9, hx] <;> rfl) | fail) only [go_sem, ↓reduceIte, h9, hx]
   exact Qc (by rw [hbad (by simp [smT, show ¬ x.m.length <= v by omega])]) rfl
  simp +decide (disch := first | omega | rfl | (simp +decide only [go_sem, ↓reduceIte, h9, hx] <;> rfl) | fail) only [go_sem, ↓reduceIte, h9, hx]
  refine Q6 (fun h3 => ?_) (fun h3 => ?_)
  ·simp +decide (disch := first | omega | rfl | (simp +decide only [go_sem, ↓reduceIte, h9, hx] <;> rfl) | fail) only [go_sem, ↓reduceIte, h9, hx]
   exact Qc (by rw [hbad (by simp [smT, show ¬ x.a.length <= 4 by omega])]) rfl
  simp +decide (disch := first | omega | rfl | (simp +decide only [go_sem, ↓reduceIte, h9, hx] <;> rfl) | fail) only [go_sem, ↓reduceIte, h9, hx]
  refine Qb (fun h4 => ?_) (fun h4 => ?_)
  ·simp +decide (disch := first | omega | rfl | (simp +decide only [go_sem, ↓reduceIte, h9, hx] <;> rfl) | fail) only [go_sem, ↓reduceIte, h9, hx]
   exact Qc (by rw [hbad (by simp [smT, show ¬ x.d.length <= 4 by omega])]) rfl
  simp +decide (disch := first | omega | rfl | (simp +decide only [go_sem, ↓reduceIte, h9, hx] <;> rfl) | fail) only [go_sem, ↓reduceIte, h9, hx]
  refine Qy (by repeat (first | exact Qv | exact Qp | exact Qq | exact Qr | apply Qo | apply Qu | apply Qz | apply Q8 | apply Q9 | apply Qn | apply Qaf)) [(8, 8), (10, 10), (50, 69)] [] (fun m J hp => ∃ j, m = x.m.length - j /\ j <= x.m.length /\ (∀ y ∈ x.m.take j, y <= e) /\ J 10 = .int .i64 (j : Nat)) x.m.length ?_ ?_
  ·refine ⟨0, rfl, by omega, by simp, ?_⟩
   simp +decide (disch := first | omega | rfl | (simp +decide only [go_sem, ↓reduceIte] <;> rfl) | fail) only [go_sem, ↓reduceIte]
   rfl
  rintro _ J2 h2' ⟨j, rfl, hj, h5, h10⟩
  simp +decide (disch := first | omega | rfl | (simp +decide only [go_sem, ↓reduceIte, h9, h10, hx] <;> rfl) | fail) only [go_sem, ↓reduceIte, h9, h10, hx]
  refine Qb (fun hg2 => ?_) (fun hg2 => ?_)
  ·have hj' : j < x.m.length := by omega
   have hmem := List.getElem_mem hj'
   have htk : x.m.take (j + 1) = x.m.take j ++ [x.m[j]] := List.take_succ_eq_append_getElem hj'
   generalize hy : x.m[j] = y at *
   simp +decide (disch := first | omega | rfl | (simp +decide only [go_sem, ↓reduceIte, h9, h10, hx, hy] <;> rfl) | fail) only [go_sem, ↓reduceIte, h9, h10, hx, hy]
   refine Qb (fun h6 => ?_) (fun h6 => ?_)
   ·simp +decide (disch := first | omega | rfl | (simp +decide only [go_sem, ↓reduceIte, h9, h10, hx] <;> rfl) | fail) only [go_sem, ↓reduceIte, h9, h10, hx]
    refine Qc ?_ rfl
    rw [hbad]
    have : (x.m.all fun x => decide (x <= e)) = false := by
     rw [List.all_eq_false]; exact ⟨y, hmem, by simp; omega⟩
    simp [smT, this]
   ·simp +decide (disch := first | omega | rfl | (simp +decide only [go_sem, ↓reduceIte, h9, h10, hx] <;> rfl) | fail) only [go_sem, ↓reduceIte, h9, h10, hx]
    refine Ql (x.m.length - (j + 1)) (by omega) ⟨j + 1, rfl, by omega, ?_, ?_⟩
    ·rw [htk]
     intro z hz
     rcases List.mem_append.1 hz with hz | hz
     ·exact h5 z hz
     ·simp at hz; omega
    ·simp +decide (disch := first | omega | rfl | (simp +decide only [go_sem, ↓reduceIte] <;> rfl) | fail) only [go_sem, ↓reduceIte]
  ·rw [List.take_of_length_le (by omega)] at h5
   have hsm : smT v e x = true := by
    simp only [smT, Bool.and_eq_true, decide_eq_true_eq, List.all_eq_true]
    exact ⟨by omega, by omega, by omega, h5⟩
   simp +decide (disch := first | omega | rfl | (simp +decide only [go_sem, ↓reduceIte, h9, h10] <;> rfl) | fail) only [go_sem, ↓reduceIte, h9, h10]
   simp (disch := decide) only [Qcr, Qle]
   refine Ql (l.length - (i + 1)) (by omega) ⟨i + 1, rfl, by omega, hadd hsm, ?_⟩
   simp +decide (disch := first | omega | rfl | (simp +decide only [go_sem, ↓reduceIte] <;> rfl) | fail) only [go_sem, ↓reduceIte]
 ·obtain rfl : i = l.length := by omega
  have hall : l.all (smT v e) = true := by
   rw [List.all_eq_true]
   intro t ht
   obtain ⟨j, hj, rfl⟩ := List.getElem_of_mem ht
   exact h1 j hj hj
  simp +decide (disch := first | omega | rfl | (simp +decide only [go_sem, ↓reduceIte] <;> rfl) | fail) only [go_sem, ↓reduceIte]
  refine Qa hP (Qws hb hk1 hk hll) rfl rfl rfl ?_
  simp +decide (disch := first | omega | rfl | (simp +decide only [go_sem, ↓reduceIte] <;> rfl) | fail) only [go_sem, ↓reduceIte]
  exact Qc (by simp [Qen, hn', hall]) rfl
end Go.Proofs.YtmnkngmmfnncoaaGreat
namespace Go.Proofs.YtmnkngmmfnncoaaGreat
open Go Go.FW
set_option maxRecDepth 100000
end Go.Proofs.YtmnkngmmfnncoaaGreat
namespace Go.Proofs.YtmnkngmmfnncoaaGreat
open Go Go.FW
set_option linter.unusedSimpArgs false
set_option linter.unusedVariables false
set_option maxRecDepth 100000
theorem Qyk (v : Int) : PB 4 1 (Qa8 v) := by
 unfold Qa8
 split
 ·exact PB.nil _ _
 ·rename_i h
  intro t ht
  simp only [List.mem_singleton] at ht
  subst ht
  refine ⟨by have := Qsq; show rs 1 + 1 <= 4; omega, ⟨?_, ?_, ?_⟩, ?_⟩
  ·simp [Qku]; omega
  ·intro x hx; simp [Qku] at hx; omega
  ·intro x hx; simp [Qku] at hx; omega
  ·simp [Qku]
theorem Qju (v : Int) : (Qa8 v).length <= 1 := by unfold Qa8; split <;> simp
theorem Qmw {a b : Rat} {k : Nat} (ha : rs a <= k) (hb : rs b <= k) (hk : k < 2 ^ 34) : Qe Tryz.prog 72 [PV.rat a, PV.rat b] (· = .bool (decide (a = b))) := by
 have := Qua (Qb9 ha) (Qb9 hb) hk
 rwa [Qc0, Qc0] at this
end Go.Proofs.YtmnkngmmfnncoaaGreat
namespace Go.Proofs.YtmnkngmmfnncoaaGreat
open Go Go.FW
set_option linter.unusedSimpArgs false
set_option linter.unusedVariables false
set_option maxRecDepth 100000
theorem Qpo {p : List Tm} {n : Bool} {a d : List Nat} {m : List Int} {K E k : Nat} (hp : PB K E p) (hs : Qa3 p) (hnz : NZ p) (hr : Raw k n a d) (hk : k <= 2 ^ 32) (hm : MB E m) (hl : m.getLast? ≠ some 0) (hK : K <= 2 ^ 32) (hE : E <= 2 ^ 38) (hlp : p.length <= 2 ^ 36) :
  Qe Tryz.prog 185 [PV.poly p, PV.rr n a d, PV.mono m] (· = PV.poly (Qdz p (rv n a d) m)) := by
 have hrr := hr.rs
 refine Qg Qk Tryz.func185 rfl Qach (by simp [Q7m]) fun C hP => ?_; simp only [Q7m]
 simp +decide (disch := first | omega | rfl | (simp +decide only [go_sem, ↓reduceIte] <;> rfl) | fail) only [go_sem, ↓reduceIte]
 refine Qy (by repeat (first | exact Qv | exact Qp | exact Qq | exact Qr | apply Qo | apply Qu | apply Qz | apply Q8 | apply Q9 | apply Qn | apply Qaf)) [(7, 7), (12, 26)] [] (fun k J hp => k <= p.length /\ (∀ t ∈ p.drop k, Qae t.2 m < 0) /\ J 7 = .int .i64 (k : Nat) /\ hp 4 = some ⟨3, 32, [PV.rr n a d], false⟩) p.length ?_ ?_
 ·refine ⟨by omega, by simp, ?_⟩
  simp +decide (disch := first | omega | rfl | (simp +decide only [go_sem, ↓reduceIte] <;> rfl) | fail) only [go_sem, ↓reduceIte]
 rintro j J h ⟨hj, hd, h7, hh4⟩
 simp +decide (disch := first | omega | rfl | (simp +decide only [go_sem, ↓reduceIte, h7] <;> rfl) | fail) only [go_sem, ↓reduceIte, h7]
 refine Qar (fun hg => ?_) (fun hg => ?_)
 ·obtain ⟨i, rfl⟩ : ∃ i, j = i + 1 := ⟨j - 1, by omega⟩
  have e : ((i + 1 : Nat) : Int) - 1 = i := by omega
  have hi : i < p.length := by omega
  have htp := hp.get hi
  have hdr : p.drop i = p[i] :: p.drop (i + 1) := List.drop_eq_getElem_cons hi
  have htk : p.take (i + 1) = p.take i ++ [p[i]] := List.take_succ_eq_append_getElem hi
  have hts := Qwg hs hi
  have hall : p = p.take i ++ p[i] :: p.drop (i + 1) := by rw [<- hdr, List.take_append_drop]
  have c1 := htp.c
  generalize hx : p[i] = x at *
  simp +decide (disch := first | omega | rfl | (simp +decide only [go_sem, ↓reduceIte, h7, e, hx] <;> rfl) | fail) only [go_sem, ↓reduceIte, h7, e, hx]
  refine Qa hP (Qn4 htp.m hm (by omega)) rfl rfl rfl ?_
  simp +decide (disch := first | omega | rfl | (simp +decide only [go_sem, ↓reduceIte, h7, e, hx] <;> rfl) | fail) only [go_sem, ↓reduceIte, h7, e, hx]
  refine Qb (fun hc => ?_) (fun hc => ?_)
  ·simp +decide (disch := first | omega | rfl | (simp +decide only [go_sem, ↓reduceIte, h7, e, hx] <;> rfl) | fail) only [go_sem, ↓reduceIte, h7, e, hx]
   refine Ql i (by omega) ⟨by omega, ?_, ?_⟩
   ·rw [hdr]
    intro t ht
    rcases List.mem_cons.1 ht with rfl | ht
    ·exact hc
    ·exact hd t ht
   ·simp +decide (disch := first | omega | rfl | (simp +decide only [go_sem, ↓reduceIte, hh4] <;> rfl) | fail) only [go_sem, ↓reduceIte, hh4]
  ·simp +decide (disch := first | omega | rfl | (simp +decide only [go_sem, ↓reduceIte, h7, e, hx] <;> rfl) | fail) only [go_sem, ↓reduceIte, h7, e, hx]
   refine Qar (fun _ => ?_) (fun h => by omega)
   simp +decide (disch := first | omega | rfl | (simp +decide only [go_sem, ↓reduceIte, h7, e, hx] <;> rfl) | fail) only [go_sem, ↓reduceIte, h7, e, hx]
   refine Qa hP (Qn4 htp.m hm (by omega)) rfl rfl rfl ?_
   simp +decide (disch := first | omega | rfl | (simp +decide only [go_sem, ↓reduceIte, h7, e, hx] <;> rfl) | fail) only [go_sem, ↓reduceIte, h7, e, hx]
   refine Qb (fun hc2 => ?_) (fun hc2 => ?_)
   ·have hxm : x.2 = m := (Qso htp.l hl).1 hc2
    have hx0 := hnz _ (List.getElem_mem hi)
    rw [hx] at hx0
    have hfin : Qdz p (rv n a d) m = p.take i ++ (if x.1 + rv n a d = 0 then [] else [(x.1 + rv n a d, m)]) ++ p.drop (i + 1) := by
     have hall' : p = p.take i ++ (x.1, m) :: p.drop (i + 1) := by rw [<- hxm]; exact hall
     rw [Qdz]
     split
     ·rename_i h0
      have e0 : x.1 + 0 = x.1 := Rat.add_zero _
      rw [h0, Qct, e0, if_neg hx0]
      simpa using hall'
     ·conv => lhs; rw [hall']
      exact Qyi (fun t ht => by rw [<- hxm]; exact hts t ht)
    have htl : (p.take i).length <= p.length := List.length_take_le' _ _
    have hdl : (p.drop (i + 1)).length <= p.length := by rw [List.length_drop]; omega
    have hra := Qq5 x.1 (rv n a d)
    have hxr := Qb9 (q := x.1) (k := 2 ^ 32) (by omega)
    have hadd := Qpn (k := 2 ^ 32) hxr (show Raw (2 ^ 32) n a d from ⟨hr.la, hr.ld, by have := hr.sa; omega, by have := hr.sd; omega, by omega⟩) (by omega)
    rw [Qc0] at hadd
    simp +decide (disch := first | omega | rfl | (simp +decide only [go_sem, ↓reduceIte, h7, e, hx, hh4] <;> rfl) | fail) only [go_sem, ↓reduceIte, h7, e, hx, hh4]
    refine Qe0 ?_ ?_
    all_goals
     simp +decide (disch := first | omega | rfl | (simp +decide only [go_sem, ↓reduceIte, h7, e, hx, hh4] <;> rfl) | fail) only [go_sem, ↓reduceIte, h7, e, hx, hh4]
     refine Qa hP hadd rfl rfl rfl ?_
     simp +decide (disch := first | omega | rfl | (simp +decide only [go_sem, ↓reduceIte, h7, e, hx, hh4] <;> rfl) | fail) only [go_sem, ↓reduceIte, h7, e, hx, hh4]
     refine Qa hP (Qtw (a := x.1 + rv n a d) (by omega)) rfl rfl rfl ?_
     simp +decide (disch := first | omega | rfl | (simp +decide only [go_sem, ↓reduceIte, h7, e, hx, hh4] <;> rfl) | fail) only [go_sem, ↓reduceIte, h7, e, hx, hh4]
     refine Qb (fun hz => ?_) (fun hz => ?_)
     ·rw [if_neg (fun h => hz (Qbg.2 h))] at hfin
      simp +decide (disch := first | omega | rfl | (simp +decide only [go_sem, ↓reduceIte, h7, e, hx, hh4] <;> rfl) | fail) only [go_sem, ↓reduceIte, h7, e, hx, hh4]
      rw [Qak (f := PV.term) (y := (x.1 + rv n a d, m)) (xs := p.take i) (ty' := 133) (fz := false) (by simp +decide (disch := first | omega | rfl | (simp +decide only [go_sem, ↓reduceIte] <;> rfl) | fail) only [go_sem, ↓reduceIte]) (by simp +decide (disch := first | omega | rfl | (simp +decide only [go_sem, ↓reduceIte] <;> rfl) | fail) only [go_sem, ↓reduceIte] <;> rfl) (by omega) rfl (by omega) (by omega)]
      simp +decide (disch := first | omega | rfl | (simp +decide only [go_sem, ↓reduceIte, h7, e, hx, hh4] <;> rfl) | fail) only [go_sem, ↓reduceIte, h7, e, hx, hh4]
      rw [Qc8 (f := PV.term) (xs := p.take i ++ [(x.1 + rv n a d, m)]) (ys := p.drop (i + 1)) (by simp +decide (disch := first | omega | rfl | (simp +decide only [go_sem, ↓reduceIte] <;> rfl) | fail) only [go_sem, ↓reduceIte]) (by simp <;> omega) (by omega) (by omega) (by omega)]
      simp +decide (disch := first | omega | rfl | (simp +decide only [go_sem, ↓reduceIte, Qd, List.contains_cons, List.contains_nil, List.flatMap_cons, List.flatMap_nil, List.append_nil] <;> rfl) | fail) only [go_sem, ↓reduceIte, Qd, List.contains_cons, List.contains_nil, List.flatMap_cons, List.flatMap_nil, List.append_nil]
      refine Qc ?_ rfl
      rw [List.take_of_length_le (by simp <;> omega), hfin]
     ·rw [if_pos (Qbg.1 (Decidable.not_not.1 hz)), List.append_nil] at hfin
      simp +decide (disch := first | omega | rfl | (simp +decide only [go_sem, ↓reduceIte, h7, e, hx, hh4] <;> rfl) | fail) only [go_sem, ↓reduceIte, h7, e, hx, hh4]
      rw [Qc8 (f := PV.term) (xs := p.take i) (ys := p.drop (i + 1)) (by simp +decide (disch := first | omega | rfl | (simp +decide only [go_sem, ↓reduceIte] <;> rfl) | fail) only [go_sem, ↓reduceIte]) (by simp <;> omega) (by omega) (by omega) (by omega)]
      simp +decide (disch := first | omega | rfl | (simp +decide only [go_sem, ↓reduceIte, Qd, List.contains_cons, List.contains_nil, List.flatMap_cons, List.flatMap_nil, List.append_nil] <;> rfl) | fail) only [go_sem, ↓reduceIte, Qd, List.contains_cons, List.contains_nil, List.flatMap_cons, List.flatMap_nil, List.append_nil]
      refine Qc ?_ rfl
      rw [List.take_of_length_le (by simp <;> omega), hfin]
   ·have hgt : Q3 p [(rv n a d, m)] = p.take (i + 1) ++ (rv n a d, m) :: p.drop (i + 1) := by
     have := Qsv (m := m) (c := rv n a d) (u := p.take (i + 1)) (v := p.drop (i + 1)) (fun t ht => by
      rw [htk] at ht
      rcases List.mem_append.1 ht with ht | ht
      ·exact Qd1 (hts t ht) (by omega)
      ·simp only [List.mem_singleton] at ht; subst ht; omega) hd
     rwa [List.take_append_drop] at this
    have htl : (p.take (i + 1)).length <= p.length := List.length_take_le' _ _
    have hdl : (p.drop (i + 1)).length <= p.length := by rw [List.length_drop]; omega
    simp +decide (disch := first | omega | rfl | (simp +decide only [go_sem, ↓reduceIte, h7, hh4] <;> rfl) | fail) only [go_sem, ↓reduceIte, h7, hh4]
    refine Qa hP (Qg1 hr (by omega)) rfl rfl rfl ?_
    simp +decide (disch := first | omega | rfl | (simp +decide only [go_sem, ↓reduceIte, h7, hh4] <;> rfl) | fail) only [go_sem, ↓reduceIte, h7, hh4]
    refine Qb (fun hz => ?_) (fun hz => ?_)
    ·have hz' : ¬ rv n a d = 0 := fun h => hz (Qbg.2 h)
     simp +decide (disch := first | omega | rfl | (simp +decide only [go_sem, ↓reduceIte, h7, hh4] <;> rfl) | fail) only [go_sem, ↓reduceIte, h7, hh4]
     refine Qa hP (Qdv hr (by omega)) rfl rfl rfl ?_
     simp +decide (disch := first | omega | rfl | (simp +decide only [go_sem, ↓reduceIte, h7, hh4] <;> rfl) | fail) only [go_sem, ↓reduceIte, h7, hh4]
     rw [Qak (f := PV.term) (y := (rv n a d, m)) (xs := p.take (i + 1)) (ty' := 133) (fz := false) (by simp +decide (disch := first | omega | rfl | (simp +decide only [go_sem, ↓reduceIte] <;> rfl) | fail) only [go_sem, ↓reduceIte]) (by simp +decide (disch := first | omega | rfl | (simp +decide only [go_sem, ↓reduceIte] <;> rfl) | fail) only [go_sem, ↓reduceIte] <;> rfl) (by omega) rfl (by omega) (by omega)]
     simp +decide (disch := first | omega | rfl | (simp +decide only [go_sem, ↓reduceIte, h7, hh4] <;> rfl) | fail) only [go_sem, ↓reduceIte, h7, hh4]
     rw [Qc8 (f := PV.term) (xs := p.take (i + 1) ++ [(rv n a d, m)]) (ys := p.drop (i + 1)) (by simp +decide (disch := first | omega | rfl | (simp +decide only [go_sem, ↓reduceIte] <;> rfl) | fail) only [go_sem, ↓reduceIte]) (by simp <;> omega) (by omega) (by omega) (by omega)]
     simp +decide (disch := first | omega | rfl | (simp +decide only [go_sem, ↓reduceIte, Qd, List.contains_cons, List.contains_nil, List.flatMap_cons, List.flatMap_nil, List.append_nil] <;> rfl) | fail) only [go_sem, ↓reduceIte, Qd, List.contains_cons, List.contains_nil, List.flatMap_cons, List.flatMap_nil, List.append_nil]
     refine Qc ?_ rfl
     rw [List.take_of_length_le (by simp <;> omega), Qdz, if_neg hz', hgt]
     simp
    ·have hz' : rv n a d = 0 := Qbg.1 (Decidable.not_not.1 hz)
     simp +decide (disch := first | omega | rfl | (simp +decide only [go_sem, ↓reduceIte, h7, hh4] <;> rfl) | fail) only [go_sem, ↓reduceIte, h7, hh4]
     rw [Qc8 (f := PV.term) (xs := p.take (i + 1)) (ys := p.drop (i + 1)) (by simp +decide (disch := first | omega | rfl | (simp +decide only [go_sem, ↓reduceIte] <;> rfl) | fail) only [go_sem, ↓reduceIte]) (by simp <;> omega) (by omega) (by omega) (by omega)]
     simp +decide (disch := first | omega | rfl | (simp +decide only [go_sem, ↓reduceIte, Qd, List.contains_cons, List.contains_nil, List.flatMap_cons, List.flatMap_nil, List.append_nil] <;> rfl) | fail) only [go_sem, ↓reduceIte, Qd, List.contains_cons, List.contains_nil, List.flatMap_cons, List.flatMap_nil, List.append_nil]
     refine Qc ?_ rfl
     rw [List.take_of_length_le (by simp <;> omega), Qdz, if_pos hz', Qct, List.take_append_drop]
 ·obtain rfl : j = 0 := by omega
  have hgt : Q3 p [(rv n a d, m)] = [] ++ (rv n a d, m) :: p := Qsv (m := m) (c := rv n a d) (u := []) (v := p) (by simp) (by simpa using hd)
  simp +decide (disch := first | omega | rfl | (simp +decide only [go_sem, ↓reduceIte, h7] <;> rfl) | fail) only [go_sem, ↓reduceIte, h7]
  rw [Qxg (by omega)]
  simp +decide (disch := first | omega | rfl | (simp +decide only [go_sem, ↓reduceIte, h7, hh4] <;> rfl) | fail) only [go_sem, ↓reduceIte, h7, hh4]
  refine Qa hP (Qg1 hr (by omega)) rfl rfl rfl ?_
  simp +decide (disch := first | omega | rfl | (simp +decide only [go_sem, ↓reduceIte, h7, hh4] <;> rfl) | fail) only [go_sem, ↓reduceIte, h7, hh4]
  refine Qb (fun hz => ?_) (fun hz => ?_)
  ·have hz' : ¬ rv n a d = 0 := fun h => hz (Qbg.2 h)
   simp +decide (disch := first | omega | rfl | (simp +decide only [go_sem, ↓reduceIte, h7, hh4] <;> rfl) | fail) only [go_sem, ↓reduceIte, h7, hh4]
   refine Qa hP (Qdv hr (by omega)) rfl rfl rfl ?_
   simp +decide (disch := first | omega | rfl | (simp +decide only [go_sem, ↓reduceIte, h7, hh4] <;> rfl) | fail) only [go_sem, ↓reduceIte, h7, hh4]
   rw [Qak (f := PV.term) (y := (rv n a d, m)) (xs := ([] : List Tm)) (ty' := 133) (fz := false) (by simp +decide (disch := first | omega | rfl | (simp +decide only [go_sem, ↓reduceIte] <;> rfl) | fail) only [go_sem, ↓reduceIte]) (by simp +decide (disch := first | omega | rfl | (simp +decide only [go_sem, ↓reduceIte] <;> rfl) | fail) only [go_sem, ↓reduceIte] <;> rfl) (by omega) (n := 0) rfl (by omega) (by omega)]
   simp +decide (disch := first | omega | rfl | (simp +decide only [go_sem, ↓reduceIte, h7, hh4] <;> rfl) | fail) only [go_sem, ↓reduceIte, h7, hh4]
   rw [Qc8 (f := PV.term) (xs := ([] : List Tm) ++ [(rv n a d, m)]) (ys := p) (by simp +decide (disch := first | omega | rfl | (simp +decide only [go_sem, ↓reduceIte] <;> rfl) | fail) only [go_sem, ↓reduceIte]) (by simp <;> omega) (by omega) (by omega) (by omega)]
   simp +decide (disch := first | omega | rfl | (simp +decide only [go_sem, ↓reduceIte, Qd, List.contains_cons, List.contains_nil, List.flatMap_cons, List.flatMap_nil, List.append_nil] <;> rfl) | fail) only [go_sem, ↓reduceIte, Qd, List.contains_cons, List.contains_nil, List.flatMap_cons, List.flatMap_nil, List.append_nil]
   refine Qc ?_ rfl
   rw [List.take_of_length_le (by simp <;> omega), Qdz, if_neg hz', hgt]
   simp
  ·have hz' : rv n a d = 0 := Qbg.1 (Decidable.not_not.1 hz)
   simp +decide (disch := first | omega | rfl | (simp +decide only [go_sem, ↓reduceIte, h7, hh4] <;> rfl) | fail) only [go_sem, ↓reduceIte, h7, hh4]
   rw [Qc8 (f := PV.term) (xs := ([] : List Tm)) (ys := p) (by simp +decide (disch := first | omega | rfl | (simp +decide only [go_sem, ↓reduceIte] <;> rfl) | fail) only [go_sem, ↓reduceIte]) (by simp <;> omega) (by omega) (by omega) (by omega)]
   simp +decide (disch := first | omega | rfl | (simp +decide only [go_sem, ↓reduceIte, Qd, List.contains_cons, List.contains_nil, List.flatMap_cons, List.flatMap_nil, List.append_nil] <;> rfl) | fail) only [go_sem, ↓reduceIte, Qd, List.contains_cons, List.contains_nil, List.flatMap_cons, List.flatMap_nil, List.append_nil]
   refine Qc ?_ rfl
   rw [List.take_of_length_le (by simp <;> omega), Qdz, if_pos hz', Qct]
end Go.Proofs.YtmnkngmmfnncoaaGreat
namespace Go.Proofs.YtmnkngmmfnncoaaGreat
open Go Go.FW
set_option linter.unusedSimpArgs false
set_option linter.unusedVariables false
set_option maxRecDepth 100000
theorem Qud {a m : List Int} (hla : a.length < 2 ^ 42) (hlm : m.length < 2 ^ 42) : Qe Tryz.prog 184 [PV.mono a, PV.mono m] (· = .bool (Qi7 a m)) := by
 refine Qg Qk Tryz.func184 rfl Qaci (by simp [Q7n]) fun C hP => ?_; simp only [Q7n]
 simp +decide (disch := first | omega | rfl | (simp +decide only [go_sem, ↓reduceIte] <;> rfl) | fail) only [go_sem, ↓reduceIte]
 refine Qy (by repeat (first | exact Qv | exact Qp | exact Qq | exact Qr | apply Qo | apply Qu | apply Qz | apply Q8 | apply Q9 | apply Qn | apply Qaf)) [(4, 19)] [] (fun n J hp => ∃ i, n = a.length - i /\ i <= a.length /\ (∀ j, j < i -> eN a j = eN m j) /\ J 5 = .int .i64 (i : Nat)) a.length ?_ ?_
 ·refine ⟨0, rfl, by omega, by omega, ?_⟩
  simp +decide (disch := first | omega | rfl | (simp +decide only [go_sem, ↓reduceIte] <;> rfl) | fail) only [go_sem, ↓reduceIte]
  rfl
 rintro _ J h ⟨i, rfl, hi, h1, h5⟩
 simp +decide (disch := first | omega | rfl | (simp +decide only [go_sem, ↓reduceIte, h5] <;> rfl) | fail) only [go_sem, ↓reduceIte, h5]
 refine Qb (fun hg => ?_) (fun hg => ?_)
 ·have hi' : i < a.length := by omega
  have he := Qc7 hi'
  generalize hx : a[i] = x at *
  simp +decide (disch := first | omega | rfl | (simp +decide only [go_sem, ↓reduceIte, h5, hx] <;> rfl) | fail) only [go_sem, ↓reduceIte, h5, hx]
  refine Qa hP (Qdj hlm) rfl rfl rfl ?_
  simp +decide (disch := first | omega | rfl | (simp +decide only [go_sem, ↓reduceIte, h5, hx] <;> rfl) | fail) only [go_sem, ↓reduceIte, h5, hx]
  refine Qb (fun hc => ?_) (fun hc => ?_)
  ·simp +decide (disch := first | omega | rfl | (simp +decide only [go_sem, ↓reduceIte] <;> rfl) | fail) only [go_sem, ↓reduceIte]
   refine Qc (congrArg PV.bool ?_) rfl
   cases hz : Qi7 a m with
   | false => rfl
   | true => rw [Qhw] at hz; have := hz i hi'; rw [he] at this; exact absurd this hc
  ·simp +decide (disch := first | omega | rfl | (simp +decide only [go_sem, ↓reduceIte, h5] <;> rfl) | fail) only [go_sem, ↓reduceIte, h5]
   refine Ql (a.length - (i + 1)) (by omega) ⟨i + 1, rfl, by omega, fun j hj => ?_, ?_⟩
   ·by_cases hji : j = i
    ·subst hji; rw [he]; exact Decidable.not_not.1 hc
    ·exact h1 j (by omega)
   ·simp +decide (disch := first | omega | rfl | (simp +decide only [go_sem, ↓reduceIte] <;> rfl) | fail) only [go_sem, ↓reduceIte]
 ·obtain rfl : i = a.length := by omega
  simp +decide (disch := first | omega | rfl | (simp +decide only [go_sem, ↓reduceIte] <;> rfl) | fail) only [go_sem, ↓reduceIte]
  exact Qc (congrArg PV.bool (Qhw.2 h1).symm) rfl
end Go.Proofs.YtmnkngmmfnncoaaGreat
namespace Go.Proofs.YtmnkngmmfnncoaaGreat
open Go Go.FW
set_option linter.unusedSimpArgs false
set_option linter.unusedVariables false
set_option maxRecDepth 100000
end Go.Proofs.YtmnkngmmfnncoaaGreat
namespace Go.Proofs.YtmnkngmmfnncoaaGreat
open Go Go.FW
set_option linter.unusedSimpArgs false
set_option linter.unusedVariables false
set_option maxRecDepth 100000
theorem Qz8 {p : List Tm} {K E : Nat} (hp : PB K E p) (hn : Nrm p) (hK : K <= 2 ^ 32) (hE : E <= 1048576) (hl : p.length <= 2 ^ 36) : Qe Tryz.prog 125 [PV.poly p] (· = PV.poly p) := by
 refine Qg Qk Tryz.func125 rfl Qacf (by simp [Q7k]) fun C hP => ?_; simp only [Q7k]
 simp +decide (disch := first | omega | rfl | (simp +decide only [go_sem, ↓reduceIte] <;> rfl) | fail) only [go_sem, ↓reduceIte]
 refine Qhg 3 4 (by simp +decide (disch := first | omega | rfl | (simp +decide only [go_sem, ↓reduceIte] <;> rfl) | fail) only [go_sem, ↓reduceIte]) ?_
 refine Qy (by repeat (first | exact Qv | exact Qp | exact Qq | exact Qr | apply Qo | apply Qu | apply Qz | apply Q8 | apply Q9 | apply Qn | apply Qaf)) [(3, 32)] [] (fun n J hp => ∃ i, n = p.length - i /\ i <= p.length /\ J 3 = PV.poly (p.take i) /\ J 4 = .int .i64 (i : Nat)) p.length ?_ ?_
 ·refine ⟨0, rfl, by omega, ?_⟩
  simp +decide (disch := first | omega | rfl | (simp +decide only [go_sem, ↓reduceIte] <;> rfl) | fail) only [go_sem, ↓reduceIte]
  simp
 rintro _ J h ⟨i, rfl, hi, h3, h4⟩
 simp +decide (disch := first | omega | rfl | (simp +decide only [go_sem, ↓reduceIte, h3, h4] <;> rfl) | fail) only [go_sem, ↓reduceIte, h3, h4]
 refine Qb (fun hg => ?_) (fun hg => ?_)
 ·have hi' : i < p.length := by omega
  have htp := hp.get hi'
  have htk := Qz6 hn hi'
  have hni := hn.take i
  have hbi := hp.take i
  have hll : (p.take i).length <= p.length := List.length_take_le' _ _
  generalize hx : p[i] = x at *
  have hml := htp.m.len
  have hok : Qb8 x.2 = true := Q2j htp.m hE htp.l
  have htr : Qcs x.2 = x.2 := Q41 htp.l
  have hz := Qwl x.2
  rw [htr, hok, if_pos rfl] at hz
  have hcx := htp.c
  simp +decide (disch := first | omega | rfl | (simp +decide only [go_sem, ↓reduceIte, h3, h4, hx] <;> rfl) | fail) only [go_sem, ↓reduceIte, h3, h4, hx]
  refine Qa hP (Qwr (by omega)) rfl rfl rfl ?_
  rw [htr, if_pos hok]
  simp +decide (disch := first | omega | rfl | (simp +decide only [go_sem, ↓reduceIte, h3, h4, hx] <;> rfl) | fail) only [go_sem, ↓reduceIte, h3, h4, hx]
  refine Qa hP (Qud (m := x.2) (by omega) (by omega)) rfl rfl rfl ?_
  rw [hz]
  simp +decide (disch := first | omega | rfl | (simp +decide only [go_sem, ↓reduceIte, h3, h4, hx] <;> rfl) | fail) only [go_sem, ↓reduceIte, h3, h4, hx]
  have hadd := Qpo (K := K) (E := E) (k := K) hbi hni.s hni.z (Qb9 (q := x.1) (k := K) (by omega)) (by omega) htp.m htp.l (by omega) (by omega) (by omega)
  rw [Qc0, htk] at hadd
  refine Qa hP hadd rfl rfl rfl ?_
  simp +decide (disch := first | omega | rfl | (simp +decide only [go_sem, ↓reduceIte, h3, h4, hx] <;> rfl) | fail) only [go_sem, ↓reduceIte, h3, h4, hx]
  refine Ql (p.length - (i + 1)) (by omega) ⟨i + 1, rfl, by omega, ?_⟩
  simp +decide (disch := first | omega | rfl | (simp +decide only [go_sem, ↓reduceIte] <;> rfl) | fail) only [go_sem, ↓reduceIte]
 ·obtain rfl : i = p.length := by omega
  rw [List.take_length] at h3
  simp +decide (disch := first | omega | rfl | (simp +decide only [go_sem, ↓reduceIte, h3] <;> rfl) | fail) only [go_sem, ↓reduceIte, h3]
  exact Qc rfl rfl
end Go.Proofs.YtmnkngmmfnncoaaGreat
namespace Go.Proofs.YtmnkngmmfnncoaaGreat
open Go Go.FW
set_option linter.unusedSimpArgs false
set_option linter.unusedVariables false
set_option maxRecDepth 100000
end Go.Proofs.YtmnkngmmfnncoaaGreat
namespace Go.FW
open Go
def Qhl (a b : List Int) : Bool := (List.range a.length).all fun i => decide (eN a i <= eN b i)
theorem Q8s {k : Nat} {a b : List Int} (hb : MB k b) : Qhl a b = true ↔ ∀ i, eN a i <= eN b i := by
 unfold Qhl
 rw [List.all_eq_true]
 constructor
 ·intro h i
  by_cases hi : i < a.length
  ·exact of_decide_eq_true (h i (List.mem_range.2 hi))
  ·rw [Qck (by omega)]; exact (hb.eN i).1
 ·intro h i _
  exact decide_eq_true (h i)
theorem Qz9 {a b : List Int} {i : Nat} (hi : i < a.length) (h : ¬ eN a i <= eN b i) : Qhl a b = false := by
 unfold Qhl
 rw [List.all_eq_false]
 exact ⟨i, List.mem_range.2 hi, by simpa using h⟩
theorem Q2v {a b : List Int} (h : ∀ i, i < a.length -> eN a i <= eN b i) : Qhl a b = true := by
 unfold Qhl
 rw [List.all_eq_true]
 intro i hi
 exact decide_eq_true (h i (List.mem_range.1 hi))
def Qio (a b : List Int) : List Int := Qcs (Qgf (· - ·) a b)
theorem Qyl (a b : List Int) (i : Nat) : eN (Qio a b) i = eN a i - eN b i := by rw [Qio, Qhc, Qx9 (by simp)]
theorem Qtx (a b : List Int) : (Qio a b).getLast? ≠ some 0 := Qgw _
theorem Qadj {k : Nat} {a b : List Int} {l : Nat} (ha : MB k a) (hb : MB l b) (h : Qhl b a = true) : MB k (Qio a b) := by
 have hd := (Q8s ha).1 h
 have hl : (Qio a b).length <= 64 := by
  have h1 := Qer (Qgf (· - ·) a b)
  rw [Qc5] at h1
  have := ha.len
  have := hb.len
  unfold Qio; omega
 have key : ∀ x ∈ Qio a b, ∃ i, x = eN a i - eN b i := fun x hx => by
  obtain ⟨i, hi, rfl⟩ := List.getElem_of_mem hx
  exact ⟨i, by rw [<- Qyl, Qc7 hi]⟩
 refine ⟨hl, fun x hx => ?_, fun x hx => ?_⟩
 all_goals
  obtain ⟨i, rfl⟩ := key x hx
  have := hd i
  have := ha.eN i
  have := hb.eN i
  omega
theorem Q8t {k l : Nat} {a b : List Int} (ha : MB k a) (hb : MB l b) (hl : a.getLast? ≠ some 0) (h : Qhl b a = true) : Qat (Qio a b) b = a :=
 Qds (Qcy _ _) hl fun i => by rw [Qch, Qyl]; omega
theorem Qrz (x y : Int) (hy : y ≠ 0) : mkRat (zv (decide (x < 0) != decide (y < 0)) (dig x.natAbs)) y.natAbs = (x : Rat) / (y : Rat) := by
 rw [Rat.mkRat_eq_div, Qgv, <- Rat.intCast_natCast]
 have h3 : (y : Rat) ≠ 0 := by rw [Ne, Rat.intCast_eq_zero_iff]; exact hy
 by_cases hy0 : y < 0
 ·have e2 : (((y.natAbs : Nat) : Int) : Rat) = - (y : Rat) := by rw [<- Rat.intCast_neg]; congr 1; omega
  have e1 : (if (decide (x < 0) != decide (y < 0)) = true then -(x.natAbs : Int) else x.natAbs) = -x := by
   by_cases hx : x < 0 <;> simp [hx, hy0] <;> omega
  rw [e1, e2, Rat.intCast_neg]
  grind
 ·have e2 : (((y.natAbs : Nat) : Int) : Rat) = (y : Rat) := by congr 1; omega
  have e1 : (if (decide (x < 0) != decide (y < 0)) = true then -(x.natAbs : Int) else x.natAbs) = x := by
   by_cases hx : x < 0 <;> simp [hx, hy0] <;> omega
  rw [e1, e2]
theorem Qaf7 {n m : Bool} {a d b c : List Nat} (hd : val d ≠ 0) (hc : val c ≠ 0) (hb : zv m b ≠ 0) : ((zv n a * (val c : Int) : Int) : Rat) / ((zv m b * (val d : Int) : Int) : Rat) = rv n a d / rv m b c := by
 have h1 : ((val d : Int) : Rat) ≠ 0 := by rw [Ne, Rat.intCast_eq_zero_iff]; omega
 have h2 : ((val c : Int) : Rat) ≠ 0 := by rw [Ne, Rat.intCast_eq_zero_iff]; omega
 have h3 : ((zv m b : Int) : Rat) ≠ 0 := by rw [Ne, Rat.intCast_eq_zero_iff]; exact hb
 unfold rv
 rw [Rat.mkRat_eq_div, Rat.mkRat_eq_div, Rat.intCast_mul, Rat.intCast_mul]
 rw [<- Rat.intCast_natCast, <- Rat.intCast_natCast]
 grind
end Go.FW
