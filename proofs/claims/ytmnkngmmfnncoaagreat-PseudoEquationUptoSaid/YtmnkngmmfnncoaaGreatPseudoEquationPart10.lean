/- Part 10 of the proof of PseudoEquation: W8, U5, FwUG. Own lemmas; no conditions. -/
import Derived.Test.YtmnkngmmfnncoaaGreatPseudoEquationPart9
set_option linter.unusedSimpArgs false
set_option linter.unnecessarySimpa false
set_option linter.unusedVariables false
namespace Go.Proofs.YtmnkngmmfnncoaaGreat
open Go Go.FW
set_option linter.unusedSimpArgs false
set_option linter.unusedVariables false
set_option maxRecDepth 100000
theorem Qnq (a b : List Int) : Qfg 0 a b = Qae a b := by unfold Qfg; rw [if_neg (by simp)]
theorem Quf {p q : List Tm} {K E L k0 : Nat} (np : Nrm p) (nq : Nrm q) (bq : PB K E q) (hq : q ≠ []) (hlq : q.length <= 2 ^ 20) (hb : ∀ k, k <= k0 -> PB K E (exP q p k) /\ (exP q p k).length <= L) (hgo : ∀ k, k < k0 -> Q0c q (exP q p k)) (hst : ¬ Q0c q (exP q p k0))
  (hK : K <= 2 ^ 25) (hK2 : 2 <= K) (hE : E <= 2 ^ 36) (hL : L <= 2 ^ 34) (hk0 : k0 <= 2 ^ 34) : Qe Tryz.prog 67 [PV.poly p, PV.poly q] (· = exR q p k0) := by
 have hql : 0 < q.length := List.length_pos_iff.2 hq
 have hqh := Qox hql
 have hqm := bq _ (Qc9 hq)
 have hq0 := nq.z _ (Qc9 hq)
 have hcq := hqm.c
 have hrr : PV.le (.agg [.bool false, .nilS, .nilS]) (.agg [.bool false, .nilS, .nilS]) := Qt _
 refine Qg Qk Tryz.func67 rfl Qafr (by simp [c67]) fun C hP => ?_; simp only [c67]
 simp +decide (disch := first | omega | rfl | (simp +decide only [go_sem, ↓reduceIte] <;> rfl) | fail) only [go_sem, ↓reduceIte]
 refine Qb (fun h => absurd h (by omega)) (fun _ => ?_)
 simp +decide (disch := first | omega | rfl | (simp +decide only [go_sem, ↓reduceIte] <;> rfl) | fail) only [go_sem, ↓reduceIte]
 refine Qi6 6 900 4 133 (by omega) (by simp +decide (disch := first | omega | rfl | (simp +decide only [go_sem, ↓reduceIte] <;> rfl) | fail) only [go_sem, ↓reduceIte]) ?_
 refine Qy (by repeat (first | exact Qv | exact Qp | exact Qq | exact Qr | apply Qo | apply Qu | apply Qz | apply Q8 | apply Q9 | apply Qn | apply Qaf)) [(0, 0), (4, 12), (16, 76)] [9, 52, 55, 900] (fun n J hp => ∃ k, n = k0 - k /\ k <= k0 /\ J 0 = PV.poly (exP q p k) /\ J 6 = .ms 900 k /\ hp 900 = some ⟨4, 133, (exQ q p k).map PV.term, false⟩) k0 ?_ ?_
 ·refine ⟨0, rfl, by omega, ?_⟩
  simp +decide (disch := first | omega | rfl | (simp +decide only [go_sem, ↓reduceIte] <;> rfl) | fail) only [go_sem, ↓reduceIte]
  exact ⟨rfl, rfl⟩
 rintro _ J h ⟨k, rfl, hk, hj0, h6, hh⟩
 obtain ⟨bP, lP⟩ := hb k hk
 have hQl := Qs1 q p k
 simp +decide (disch := first | omega | rfl | (simp +decide only [go_sem, ↓reduceIte, hj0] <;> rfl) | fail) only [go_sem, ↓reduceIte, hj0]
 refine Qb (fun hg => ?_) (fun hg => ?_)
 ·have hPl : 0 < (exP q p k).length := by omega
  have hP0 : exP q p k ≠ [] := List.length_pos_iff.1 hPl
  have hPh := Qox hPl
  have hPm := bP _ (Qc9 hP0)
  have hcp := hPm.c
  have hQuo := Q0a hPm.m hqm.m (by omega)
  have hDiv := Qag1 (a := (hdT (exP q p k)).1) (b := (hdT q).1) (k := K) (by omega) (by omega) (by omega) hq0
  simp +decide (disch := first | omega | rfl | (simp +decide only [go_sem, ↓reduceIte, hj0, hPh, hqh] <;> rfl) | fail) only [go_sem, ↓reduceIte, hj0, hPh, hqh]
  refine Qa hP hQuo rfl rfl rfl ?_
  cases hd : Qhl (hdT q).2 (hdT (exP q p k)).2
  ·have hk0' : k = k0 := by
    apply Decidable.byContradiction; intro hne
    have := (hgo k (by omega)).2
    rw [hd] at this; cases this
   subst hk0'
   have hres : exR q p k = .tup [PV.poly [], .bool false] := by rw [exR, if_neg hP0]
   generalize (hdT (exP q p k)).1 / (hdT q).1 = a at *
   simp +decide (disch := first | omega | rfl | (simp +decide only [go_sem, ↓reduceIte, hj0, hPh, hqh] <;> rfl) | fail) only [go_sem, ↓reduceIte, hj0, hPh, hqh]
   refine Qe0 ?_ ?_
   all_goals
    simp +decide (disch := first | omega | rfl | (simp +decide only [go_sem, ↓reduceIte, hj0, hPh, hqh] <;> rfl) | fail) only [go_sem, ↓reduceIte, hj0, hPh, hqh]
    refine Qa hP hDiv rfl rfl rfl ?_
    simp +decide (disch := first | omega | rfl | (simp +decide only [go_sem, ↓reduceIte, hj0, hPh, hqh] <;> rfl) | fail) only [go_sem, ↓reduceIte, hj0, hPh, hqh]
    exact Qfe hres rfl rfl Qc4 (Qt _)
  ·have hkl : k < k0 := by
    apply Decidable.byContradiction; intro hne
    obtain rfl : k = k0 := by omega
    exact hst ⟨hP0, hd⟩
   obtain ⟨bN, lN⟩ := hb (k + 1) hkl
   have hgk := hgo k hkl
   have hlt := Qagb bP bq (Qyo np nq k) nq hq hgk
   have htT := Qagc bP bq nq hq hgk
   have hTe : exT q (exP q p k) = ((hdT (exP q p k)).1 / (hdT q).1, Qio (hdT (exP q p k)).2 (hdT q).2) := rfl
   have hPe : exP q p (k + 1) = Qhf (exP q p k) (Qad [exT q (exP q p k)] q) := rfl
   have hQe : exQ q p (k + 1) = exQ q p k ++ [exT q (exP q p k)] := rfl
   have hQl1 := Qs1 q p (k + 1)
   rw [show exN q (exP q p k) = exP q p (k + 1) from rfl] at hlt
   rw [hTe] at htT hPe hQe
   generalize (hdT (exP q p k)).1 / (hdT q).1 = a at *
   generalize Qio (hdT (exP q p k)).2 (hdT q).2 = m at *
   have hQe0 := hQe
   generalize hPe0 : exP q p (k + 1) = P' at *
   have b1 : PB (K + K) E [(a, m)] := fun t ht => by
    obtain rfl : t = (a, m) := by simpa using ht
    exact htT
   obtain ⟨b2, l2⟩ := Qcu b1 (bq.mono (K' := K + K) (by omega) (Nat.le_refl _))
   have hmin : min [(a, m)].length q.length * (K + K + (K + K)) <= 1 * (K + K + (K + K)) := Nat.mul_le_mul_right _ (by simp; omega)
   have l2' : (Qad [(a, m)] q).length <= q.length := by simpa using l2
   simp +decide (disch := first | omega | rfl | (simp +decide only [go_sem, ↓reduceIte, hj0, hPh, hqh] <;> rfl) | fail) only [go_sem, ↓reduceIte, hj0, hPh, hqh]
   refine Qe0 ?_ ?_
   ·
    simp +decide (disch := first | omega | rfl | (simp +decide only [go_sem, ↓reduceIte, hj0, hPh, hqh] <;> rfl) | fail) only [go_sem, ↓reduceIte, hj0, hPh, hqh]
    refine Qa hP hDiv rfl rfl rfl ?_
    simp +decide (disch := first | omega | rfl | (simp +decide only [go_sem, ↓reduceIte, hj0, hPh, hqh, h6] <;> rfl) | fail) only [go_sem, ↓reduceIte, hj0, hPh, hqh, h6]
    rw [Qak (f := PV.term) (y := (a, m)) (xs := exQ q p k) (ty' := 133) (fz := false) (by simp +decide (disch := first | omega | rfl | (simp +decide only [go_sem, ↓reduceIte, hh] <;> rfl) | fail) only [go_sem, ↓reduceIte, hh]) (by simp +decide (disch := first | omega | rfl | (simp +decide only [go_sem, ↓reduceIte] <;> rfl) | fail) only [go_sem, ↓reduceIte] <;> rfl) (by omega) hQl.symm (by omega) (by omega)]
    simp +decide (disch := first | omega | rfl | (simp +decide only [go_sem, ↓reduceIte, hj0, hPh, hqh, h6] <;> rfl) | fail) only [go_sem, ↓reduceIte, hj0, hPh, hqh, h6]
    refine Qbz hP (Qb4 b1 (bq.mono (K' := K + K) (by omega) (Nat.le_refl _)) (by omega) (by simp) (by omega) (by simp; omega) (by omega) (by omega)) (by simp +decide (disch := first | omega | rfl | (simp +decide only [go_sem, ↓reduceIte, Qd, List.contains_cons, List.contains_nil, List.flatMap_cons, List.flatMap_nil, List.append_nil] <;> rfl) | fail) only [go_sem, ↓reduceIte, Qd, List.contains_cons, List.contains_nil, List.flatMap_cons, List.flatMap_nil, List.append_nil] <;> rfl) rfl ?_
    simp +decide (disch := first | omega | rfl | (simp +decide only [go_sem, ↓reduceIte, hj0, hPh, hqh, h6] <;> rfl) | fail) only [go_sem, ↓reduceIte, hj0, hPh, hqh, h6]
    refine Qa hP (Qgy (K := 4 * K) (E := E + E) (bP.mono (by omega) (by omega)) (b2.mono (by omega) (by omega)) (by omega) (by omega) (by omega) (by omega) (by omega)) rfl rfl rfl ?_
    rw [<- hPe]
    simp +decide (disch := first | omega | rfl | (simp +decide only [go_sem, ↓reduceIte, hj0, hPh, hqh, h6] <;> rfl) | fail) only [go_sem, ↓reduceIte, hj0, hPh, hqh, h6]
    refine Qar (fun hn => ?_) (fun hn => ?_)
    ·have hnl : 0 < P'.length := by omega
     have hnh := Qox hnl
     have hnm := bN _ (Qc9 (List.length_pos_iff.1 hnl))
     have hlt' := hlt _ (Qc9 (List.length_pos_iff.1 hnl))
     have hge : ¬ 0 <= Qae (hdT P').2 (hdT (exP q p k)).2 := by omega
     simp +decide (disch := first | omega | rfl | (simp +decide only [go_sem, ↓reduceIte, hj0, hPh, hqh, h6, hnh] <;> rfl) | fail) only [go_sem, ↓reduceIte, hj0, hPh, hqh, h6, hnh]
     refine Qa hP (Qmp (o := 0) hnm.m hPm.m (by omega)) rfl rfl rfl ?_
     rw [Qnq]
     simp +decide (disch := first | omega | rfl | (simp +decide only [go_sem, ↓reduceIte, hj0, hPh, hqh, h6, hge] <;> rfl) | fail) only [go_sem, ↓reduceIte, hj0, hPh, hqh, h6, hge]
     refine Ql (k0 - (k + 1)) (by omega) ⟨k + 1, rfl, by omega, ?_⟩
     rw [show FW.exQ q p (k + 1) = exQ q p k ++ [(a, m)] from hQe0, show FW.exP q p (k + 1) = P' from hPe0]
     simp +decide (disch := first | omega | rfl | (simp +decide only [go_sem, ↓reduceIte, Qd, List.contains_cons, List.contains_nil, List.flatMap_cons, List.flatMap_nil, List.append_nil] <;> rfl) | fail) only [go_sem, ↓reduceIte, Qd, List.contains_cons, List.contains_nil, List.flatMap_cons, List.flatMap_nil, List.append_nil]
    ·simp +decide (disch := first | omega | rfl | (simp +decide only [go_sem, ↓reduceIte, hj0, hPh, hqh, h6] <;> rfl) | fail) only [go_sem, ↓reduceIte, hj0, hPh, hqh, h6]
     refine Ql (k0 - (k + 1)) (by omega) ⟨k + 1, rfl, by omega, ?_⟩
     rw [show FW.exQ q p (k + 1) = exQ q p k ++ [(a, m)] from hQe0, show FW.exP q p (k + 1) = P' from hPe0]
     simp +decide (disch := first | omega | rfl | (simp +decide only [go_sem, ↓reduceIte, Qd, List.contains_cons, List.contains_nil, List.flatMap_cons, List.flatMap_nil, List.append_nil] <;> rfl) | fail) only [go_sem, ↓reduceIte, Qd, List.contains_cons, List.contains_nil, List.flatMap_cons, List.flatMap_nil, List.append_nil]
   ·
    simp +decide (disch := first | omega | rfl | (simp +decide only [go_sem, ↓reduceIte, hj0, hPh, hqh] <;> rfl) | fail) only [go_sem, ↓reduceIte, hj0, hPh, hqh]
    refine Qa hP hDiv rfl rfl rfl ?_
    simp +decide (disch := first | omega | rfl | (simp +decide only [go_sem, ↓reduceIte, hj0, hPh, hqh, h6] <;> rfl) | fail) only [go_sem, ↓reduceIte, hj0, hPh, hqh, h6]
    rw [Qak (f := PV.term) (y := (a, m)) (xs := exQ q p k) (ty' := 133) (fz := false) (by simp +decide (disch := first | omega | rfl | (simp +decide only [go_sem, ↓reduceIte, hh] <;> rfl) | fail) only [go_sem, ↓reduceIte, hh]) (by simp +decide (disch := first | omega | rfl | (simp +decide only [go_sem, ↓reduceIte] <;> rfl) | fail) only [go_sem, ↓reduceIte] <;> rfl) (by omega) hQl.symm (by omega) (by omega)]
    simp +decide (disch := first | omega | rfl | (simp +decide only [go_sem, ↓reduceIte, hj0, hPh, hqh, h6] <;> rfl) | fail) only [go_sem, ↓reduceIte, hj0, hPh, hqh, h6]
    refine Qbz hP (Qb4 b1 (bq.mono (K' := K + K) (by omega) (Nat.le_refl _)) (by omega) (by simp) (by omega) (by simp; omega) (by omega) (by omega)) (by simp +decide (disch := first | omega | rfl | (simp +decide only [go_sem, ↓reduceIte, Qd, List.contains_cons, List.contains_nil, List.flatMap_cons, List.flatMap_nil, List.append_nil] <;> rfl) | fail) only [go_sem, ↓reduceIte, Qd, List.contains_cons, List.contains_nil, List.flatMap_cons, List.flatMap_nil, List.append_nil] <;> rfl) rfl ?_
    simp +decide (disch := first | omega | rfl | (simp +decide only [go_sem, ↓reduceIte, hj0, hPh, hqh, h6] <;> rfl) | fail) only [go_sem, ↓reduceIte, hj0, hPh, hqh, h6]
    refine Qa hP (Qgy (K := 4 * K) (E := E + E) (bP.mono (by omega) (by omega)) (b2.mono (by omega) (by omega)) (by omega) (by omega) (by omega) (by omega) (by omega)) rfl rfl rfl ?_
    rw [<- hPe]
    simp +decide (disch := first | omega | rfl | (simp +decide only [go_sem, ↓reduceIte, hj0, hPh, hqh, h6] <;> rfl) | fail) only [go_sem, ↓reduceIte, hj0, hPh, hqh, h6]
    refine Qar (fun hn => ?_) (fun hn => ?_)
    ·have hnl : 0 < P'.length := by omega
     have hnh := Qox hnl
     have hnm := bN _ (Qc9 (List.length_pos_iff.1 hnl))
     have hlt' := hlt _ (Qc9 (List.length_pos_iff.1 hnl))
     have hge : ¬ 0 <= Qae (hdT P').2 (hdT (exP q p k)).2 := by omega
     simp +decide (disch := first | omega | rfl | (simp +decide only [go_sem, ↓reduceIte, hj0, hPh, hqh, h6, hnh] <;> rfl) | fail) only [go_sem, ↓reduceIte, hj0, hPh, hqh, h6, hnh]
     refine Qa hP (Qmp (o := 0) hnm.m hPm.m (by omega)) rfl rfl rfl ?_
     rw [Qnq]
     simp +decide (disch := first | omega | rfl | (simp +decide only [go_sem, ↓reduceIte, hj0, hPh, hqh, h6, hge] <;> rfl) | fail) only [go_sem, ↓reduceIte, hj0, hPh, hqh, h6, hge]
     refine Ql (k0 - (k + 1)) (by omega) ⟨k + 1, rfl, by omega, ?_⟩
     rw [show FW.exQ q p (k + 1) = exQ q p k ++ [(a, m)] from hQe0, show FW.exP q p (k + 1) = P' from hPe0]
     simp +decide (disch := first | omega | rfl | (simp +decide only [go_sem, ↓reduceIte, Qd, List.contains_cons, List.contains_nil, List.flatMap_cons, List.flatMap_nil, List.append_nil] <;> rfl) | fail) only [go_sem, ↓reduceIte, Qd, List.contains_cons, List.contains_nil, List.flatMap_cons, List.flatMap_nil, List.append_nil]
    ·simp +decide (disch := first | omega | rfl | (simp +decide only [go_sem, ↓reduceIte, hj0, hPh, hqh, h6] <;> rfl) | fail) only [go_sem, ↓reduceIte, hj0, hPh, hqh, h6]
     refine Ql (k0 - (k + 1)) (by omega) ⟨k + 1, rfl, by omega, ?_⟩
     rw [show FW.exQ q p (k + 1) = exQ q p k ++ [(a, m)] from hQe0, show FW.exP q p (k + 1) = P' from hPe0]
     simp +decide (disch := first | omega | rfl | (simp +decide only [go_sem, ↓reduceIte, Qd, List.contains_cons, List.contains_nil, List.flatMap_cons, List.flatMap_nil, List.append_nil] <;> rfl) | fail) only [go_sem, ↓reduceIte, Qd, List.contains_cons, List.contains_nil, List.flatMap_cons, List.flatMap_nil, List.append_nil]
 ·have hP0 : exP q p k = [] := List.length_eq_zero_iff.1 (by omega)
  have hk0' : k = k0 := by
   apply Decidable.byContradiction; intro hne
   exact (hgo k (by omega)).1 hP0
  subst hk0'
  simp +decide (disch := first | omega | rfl | (simp +decide only [go_sem, ↓reduceIte, h6, hh, Qd, List.contains_cons, List.contains_nil, List.flatMap_cons, List.flatMap_nil, List.append_nil] <;> rfl) | fail) only [go_sem, ↓reduceIte, h6, hh, Qd, List.contains_cons, List.contains_nil, List.flatMap_cons, List.flatMap_nil, List.append_nil]
  exact Qfe (by rw [exR, if_pos hP0]) rfl rfl (by simp [List.take_of_length_le, hQl, Qt]) (Qt _)
end Go.Proofs.YtmnkngmmfnncoaaGreat
namespace Go.Proofs.YtmnkngmmfnncoaaGreat
open Go Go.FW
set_option linter.unusedSimpArgs false
set_option linter.unusedVariables false
set_option maxRecDepth 100000
structure Smd (n v : Nat) (e : Nat) (l : List RTm) (p : List Tm) : Prop where
 q : p = l.map RTm.tm
 eq : PV.rpoly l = PV.poly p
 ml : ∀ t ∈ p, t.2.length <= v
 va : PVd p
 b : PB 5 e p
 ln : p.length <= n
theorem Qr0 {l : List RTm} {k n v e : Nat} (hb : ∀ t ∈ l, RB k t) (h : Qen n v e l = true) : Smd n v e l (l.map RTm.tm) := by
 simp only [Qen, Bool.and_eq_true, decide_eq_true_eq, List.all_eq_true] at h
 obtain ⟨h1, h2, h3⟩ := h
 obtain ⟨e1, e2⟩ := Q16 hb h3
 refine ⟨rfl, e1, fun t ht => ?_, e2, fun t ht => ?_, by simpa using h1⟩
 rotate_left
 ·obtain ⟨x, hx, rfl⟩ := List.mem_map.1 ht
  have hs := h2 x hx
  simp only [smT, Bool.and_eq_true, decide_eq_true_eq, List.all_eq_true] at hs
  have hv := e2.t _ ht
  have hr := (show Raw 4 x.n x.a x.d from ⟨(hb x hx).r.1, (hb x hx).r.2.1, hs.2.1, hs.2.2.1, by omega⟩).rs
  have hm := MB.ofOk hv.m
  refine ⟨?_, ⟨hm.len, hm.lo, fun y hy => hs.2.2.2 y hy⟩, Qpc hv.m⟩
  show rs (rv x.n x.a x.d) + 1 <= 5
  omega
 ·obtain ⟨x, hx, rfl⟩ := List.mem_map.1 ht
  have hs := h2 x hx
  simp only [smT, Bool.and_eq_true, decide_eq_true_eq, List.all_eq_true] at hs
  exact hs.1
end Go.Proofs.YtmnkngmmfnncoaaGreat
namespace Go.FW
open Go
def pbB (K E : Nat) (p : List Tm) : Bool := p.all fun t => decide (rs t.1 + 1 <= K) && (decide (t.2.length <= 64) && ((t.2.all fun x => decide (0 <= x) && decide (x <= E)) && decide (t.2.getLast? ≠ some 0)))
theorem Qhy {K E : Nat} {p : List Tm} (h : pbB K E p = true) : PB K E p := fun t ht => by
 have := List.all_eq_true.1 h t ht
 simp only [Bool.and_eq_true, decide_eq_true_eq, List.all_eq_true] at this
 obtain ⟨h1, h2, h3, h4⟩ := this
 exact ⟨h1, ⟨h2, fun x hx => (h3 x hx).1, fun x hx => (h3 x hx).2⟩, h4⟩
def Qun : List Tm -> Bool
 | [] => true
 | t :: p => (p.all fun s => decide (0 < Qae t.2 s.2)) && Qun p
theorem Qyp : ∀ {p : List Tm}, Qun p = true -> Qa3 p
 | [], _ => trivial
 | t :: p, h => by
  simp only [Qun, Bool.and_eq_true, List.all_eq_true, decide_eq_true_eq] at h
  exact ⟨h.1, Qyp h.2⟩
def nrmB (p : List Tm) : Bool := (p.all fun t => decide (t.1 ≠ 0) && decide (t.2.getLast? ≠ some 0)) && Qun p
theorem Qr1 {p : List Tm} (h : nrmB p = true) : Nrm p := by
 simp only [nrmB, Bool.and_eq_true, List.all_eq_true, decide_eq_true_eq] at h
 exact ⟨fun t ht => (h.1 t ht).2, fun t ht => (h.1 t ht).1, Qyp h.2⟩
theorem Qwu {p q : PV} (h : PV.le p q) : q.cells.length = p.cells.length /\ ∀ (j : Nat) (y : PV), q.cells[j]? = some y -> ∃ x, p.cells[j]? = some x /\ PV.le1 x y := by
 by_cases hp : ∃ ps, p = .agg ps
 ·obtain ⟨ps, rfl⟩ := hp
  by_cases hq : ∃ qs, q = .agg qs
  ·obtain ⟨qs, rfl⟩ := hq
   exact Qsc ps qs h
  ·have h1 : PV.le1 (.agg ps) q := by
    cases q <;> first | exact h | exact absurd ⟨_, rfl⟩ hq
   unfold PV.le1 at h1
   split at h1
   ·exact absurd ‹PV.agg ps = PV.nilS› (by simp)
   ·exact absurd ⟨_, h1.symm⟩ hq
 ·have h1 : PV.le1 p q := by
   cases p <;> first | exact h | exact absurd ⟨_, rfl⟩ hp
  have h1' := h1
  unfold PV.le1 at h1
  split at h1
  ·refine ⟨rfl, fun j y hy => ?_⟩
   cases j with
   | zero => simp [PV.cells] at hy; subst hy; exact ⟨.nilS, rfl, trivial⟩
   | succ j => simp [PV.cells] at hy
  ·subst h1
   exact ⟨rfl, fun j y hy => ⟨y, hy, Qey y⟩⟩
theorem Q21 {w : World} {X : Nat -> Prop} {e : Nat} {xs ys : List PV} {v : Value} (h : Qx w X (.sl e xs) v) (hl : PV.leT xs ys) : Qx w X (.sl e ys) v := by
 obtain ⟨h1, h2⟩ := Qoj xs ys hl
 cases h with
 | slE _ ad cap hc =>
  have : ys = [] := List.length_eq_zero_iff.1 (by simpa using h1)
  subst this
  exact .slE _ _ _ hc
 | sl _ _ b off cap vs hX hb hl' hc he hv hr =>
  rw [<- h1] at hl' hv ⊢
  refine .sl e ys b off cap vs hX hb hl' hc (fun i y hy => ?_) hv (fun i y hy j z hz => ?_)
  ·obtain ⟨x, hx, hle⟩ := h2 i y hy
   rw [(Qwu hle).1]; exact he i x hx
  ·obtain ⟨x, hx, hle⟩ := h2 i y hy
   obtain ⟨u, hu, hle1⟩ := (Qwu hle).2 j z hz
   exact (hr i x hx j u hu).le hle1
theorem Qe.slLe {P : Program} {f : FuncId} {e : Nat} {xs ys : List PV} {R : PV -> Prop} (h : Qe P f [.sl e ys] R) (hl : PV.leT xs ys) : Qe P f [.sl e xs] R := by
 refine ⟨h.1, fun w X vals g1 g2 g3 => h.2 w X vals g1 g2 (fun i x hx => ?_)⟩
 cases i with
 | zero =>
  simp at hx; subst hx
  exact Q21 (g3 0 _ rfl) hl
 | succ i => simp at hx
end Go.FW
