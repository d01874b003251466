/- Part 6 of the proof of PseudoBack: W1, FwSM, FwUC. Own lemmas; no conditions. -/
import Derived.Test.YtmnkngmmfnncoaaGreatPseudoBackPart5
set_option linter.unusedSimpArgs false
set_option linter.unnecessarySimpa false
set_option linter.unusedVariables false
namespace Go.Proofs.YtmnkngmmfnncoaaGreat
open Go Go.FW
set_option linter.unusedSimpArgs false
set_option linter.unusedVariables false
set_option maxRecDepth 100000
def exi (v : Int) : Nat := if v < 0 then 64 else v.toNat
theorem Qyj (n : Nat) : exi n = n := by unfold exi; rw [if_neg (by omega)]; omega
theorem Qsi {a : List Int} {v : Int} {E : Nat} (h : MB E a) : Qe Tryz.prog 130 [PV.mono a, .int .i64 v] (· = .int .i64 (eN a (exi v))) := by
  have hl := h.len
  have := Qq2 (a := a) (v := v) (by omega)
  have e : (if v < 0 then 0 else eN a v.toNat) = eN a (exi v) := by
    unfold exi; split
    · rw [Qb6 (by omega)]
    · rfl
  rwa [e] at this
theorem Qz2 {m : List Int} {v : Nat} (hl : m.getLast? ≠ some 0) (h : eN m v = 0) : Qb0 m v = m :=
  Qea (Qmj m v) hl fun i => by
    rw [Qha]; split
    · rename_i e; rw [e, h]
    · rfl
theorem Qp0 {p : List Tm} {v : Int} {K E : Nat} (hp : PB K E p) (hlp : p.length ≤ 2 ^ 36) : Qe Tryz.prog 56 [PV.poly p, .int .i64 v] (· = .int .i64 (Qfv p (exi v))) := by
  refine Qg Qk Tryz.func56 rfl Qae9 (by simp [c56]) fun C hP => ?_; simp only [c56]
  simp +decide (disch := first | omega | rfl | (simp +decide only [go_sem, ↓reduceIte] <;> rfl) | fail) only [go_sem, ↓reduceIte]
  refine Qx (by repeat (first | exact Qw | exact Qq | exact Qr | exact Qs | apply Qp | apply Qv | apply Q2 | apply Q7 | apply Q8 | apply Qn)) [(5, 5), (7, 7), (10, 20)] [7] (fun n J hp => ∃ i, n = p.length - i ∧ i ≤ p.length ∧ J 5 = .int .i64 (Qfv (p.take i) (exi v)) ∧ J 10 = .int .i64 (i : Nat)) p.length ?_ ?_
  · refine ⟨0, rfl, by omega, ?_⟩
    simp +decide (disch := first | omega | rfl | (simp +decide only [go_sem, ↓reduceIte] <;> rfl) | fail) only [go_sem, ↓reduceIte]
    exact ⟨rfl, rfl⟩
  rintro _ J h ⟨i, rfl, hi, h5, h10⟩
  simp +decide (disch := first | omega | rfl | (simp +decide only [go_sem, ↓reduceIte, h5, h10] <;> rfl) | fail) only [go_sem, ↓reduceIte, h5, h10]
  refine Qb (fun hg => ?_) (fun hg => ?_)
  · have hi' : i < p.length := by omega
    have htp := hp.get hi'
    have htk := Q2u (v := exi v) hi'
    generalize hx : p[i] = x at *
    have hml := htp.m.len
    simp +decide (disch := first | omega | rfl | (simp +decide only [go_sem, ↓reduceIte, h5, h10, hx] <;> rfl) | fail) only [go_sem, ↓reduceIte, h5, h10, hx]
    refine Qa hP (Qsi htp.m) rfl rfl rfl ?_
    simp +decide (disch := first | omega | rfl | (simp +decide only [go_sem, ↓reduceIte, h5, h10, hx] <;> rfl) | fail) only [go_sem, ↓reduceIte, h5, h10, hx]
    refine Qm (p.length - (i + 1)) (by omega) ⟨i + 1, rfl, by omega, ?_⟩
    rw [htk]
    simp +decide (disch := first | omega | rfl | (simp +decide only [go_sem, ↓reduceIte] <;> rfl) | fail) only [go_sem, ↓reduceIte]
  · obtain rfl : i = p.length := by omega
    rw [List.take_length] at h5
    simp +decide (disch := first | omega | rfl | (simp +decide only [go_sem, ↓reduceIte, h5] <;> rfl) | fail) only [go_sem, ↓reduceIte, h5]
    exact Qc rfl rfl
theorem Qrd {m : List Int} {v : Int} {E : Nat} (hm : MB E m) (hl : m.getLast? ≠ some 0) : Qe Tryz.prog 132 [PV.mono m, .int .i64 v] (· = PV.mono (Qb0 m (exi v))) := by
  have hml := hm.len
  refine Qg Qk Tryz.func132 rfl Qab8 (by simp [Q7i]) fun C hP => ?_; simp only [Q7i]
  simp +decide (disch := first | omega | rfl | (simp +decide only [go_sem, ↓reduceIte] <;> rfl) | fail) only [go_sem, ↓reduceIte]
  refine Qa hP (Qsi hm) rfl rfl rfl ?_
  simp +decide (disch := first | omega | rfl | (simp +decide only [go_sem, ↓reduceIte] <;> rfl) | fail) only [go_sem, ↓reduceIte]
  refine Qb (fun h0 => ?_) (fun h0 => ?_)
  · simp +decide (disch := first | omega | rfl | (simp +decide only [go_sem, ↓reduceIte] <;> rfl) | fail) only [go_sem, ↓reduceIte]
    exact Qc (congrArg PV.mono (Qz2 hl (by omega)).symm) rfl
  · obtain ⟨n, rfl⟩ : ∃ n : Nat, v = n := by
      refine ⟨v.toNat, ?_⟩
      apply Decidable.byContradiction; intro hn
      rw [exi, if_pos (by omega), Qb6 (by omega)] at h0; omega
    rw [Qyj] at h0 ⊢
    generalize n = v at *
    have hsl : (m.set v 0).length = m.length := by simp
    have hvl : v < m.length := by
      apply Decidable.byContradiction; intro hn
      rw [Qb6 (by omega)] at h0; omega
    simp +decide (disch := first | omega | rfl | (simp +decide only [go_sem, ↓reduceIte] <;> rfl) | fail) only [go_sem, ↓reduceIte]
    refine Q7u 5 (by simp +decide (disch := first | omega | rfl | (simp +decide only [go_sem, ↓reduceIte, Qd, List.contains_cons, List.contains_nil, List.flatMap_cons, List.flatMap_nil, List.append_nil] <;> rfl) | fail) only [go_sem, ↓reduceIte, Qd, List.contains_cons, List.contains_nil, List.flatMap_cons, List.flatMap_nil, List.append_nil]) ?_
    simp +decide (disch := first | omega | rfl | (simp +decide only [go_sem, ↓reduceIte, Qd, List.contains_cons, List.contains_nil, List.flatMap_cons, List.flatMap_nil, List.append_nil] <;> rfl) | fail) only [go_sem, ↓reduceIte, Qd, List.contains_cons, List.contains_nil, List.flatMap_cons, List.flatMap_nil, List.append_nil]
    rw [show List.take m.length (Qft (m.set v 0)) = Qft (m.set v 0) from List.take_of_length_le (by simp [Qft])]
    refine Qx (by repeat (first | exact Qw | exact Qq | exact Qr | exact Qs | apply Qp | apply Qv | apply Q2 | apply Q7 | apply Q8 | apply Qn)) [(6, 6), (19, 30)] [] (fun n J hp => n ≤ m.length ∧ Qfh (m.set v 0) n = Qb0 m v ∧ J 6 = .int .i64 n) m.length ?_ ?_
    · refine ⟨Nat.le_refl _, by rw [Qb0, Qcl, hsl], ?_⟩
      simp +decide (disch := first | omega | rfl | (simp +decide only [go_sem, ↓reduceIte] <;> rfl) | fail) only [go_sem, ↓reduceIte]
    rintro n J _ ⟨hn, hc, h6⟩
    simp +decide (disch := first | omega | rfl | (simp +decide only [go_sem, ↓reduceIte, h6] <;> rfl) | fail) only [go_sem, ↓reduceIte, h6]
    refine Qaq (fun hg => ?_) (fun hg => ?_)
    · obtain _ | n := n
      · omega
      have e : ((n + 1 : Nat) : Int) - 1 = n := by omega
      simp only [Qfh] at hc
      simp +decide (disch := first | omega | rfl | (simp +decide only [go_sem, ↓reduceIte, h6, e] <;> rfl) | fail) only [go_sem, ↓reduceIte, h6, e]
      refine Qb (fun hz => ?_) (fun hz => ?_)
      · rw [if_pos (by simp [hz, show n < m.length by omega])] at hc
        simp +decide (disch := first | omega | rfl | (simp +decide only [go_sem, ↓reduceIte, h6, e] <;> rfl) | fail) only [go_sem, ↓reduceIte, h6, e]
        refine Qm n (by omega) ⟨by omega, hc, ?_⟩
        simp +decide (disch := first | omega | rfl | (simp +decide only [go_sem, ↓reduceIte] <;> rfl) | fail) only [go_sem, ↓reduceIte]
      · rw [if_neg (by simpa [show n < m.length by omega] using hz)] at hc
        simp +decide (disch := first | omega | rfl | (simp +decide only [go_sem, ↓reduceIte, h6, e] <;> rfl) | fail) only [go_sem, ↓reduceIte, h6, e]
        exact Qc (congrArg PV.mono hc) rfl
    · obtain rfl : n = 0 := by omega
      simp +decide (disch := first | omega | rfl | (simp +decide only [go_sem, ↓reduceIte, h6] <;> rfl) | fail) only [go_sem, ↓reduceIte, h6]
      exact Qc (congrArg PV.mono hc) rfl
end Go.Proofs.YtmnkngmmfnncoaaGreat
namespace Go.FW
open Go
variable {C : Ctx} {fr : Fr} {hp : HP} {w : World} {K R : Qh}
end Go.FW
namespace Go.FW
open Go
variable {C : Ctx} {fr : Fr} {hp : HP} {K : Qh}
theorem Qt9 {z : List PV} {o n o2 n2 d β m e ty : Nat} {p : PV} {xs : List PV} {fz : Bool} (h : p.flat = true) (hb : hp β = some ⟨e, ty, xs, fz⟩) (hm : m = xs.length) (hB : isB β = false := by decide) :
    Qg0 z [(o, n, p), (o2, n2, .ms β m)] d fr hp K = ((p.cells.length = n ∧ o + n ≤ z.length) ∧ (1 = n2 ∧ o2 + n2 ≤ z.length) ∧ K (upd fr d (.agg (Qdo z [(o, p.cells), (o2, [.sl e xs])]))) (Qah hp [β])) := by
  obtain ⟨s1, s2, s3⟩ := Qdw (hp := hp) h
  have s4 : Qz hp (.ms β m) = .sl e xs := by simp [Qz, Qa2, hB, hb, hm]
  have r4 : (PV.ms β m).refs = [β] := rfl
  have c4 : (PV.sl e xs).cells = [.sl e xs] := rfl
  have d4 : (PV.sl e xs).isData = true := rfl
  unfold Qg0 Quf
  apply propext
  simp only [List.mem_cons, List.not_mem_nil, or_false, forall_eq_or_imp, forall_eq, s1, s3, s4, d4, c4, List.length_cons, List.length_nil, true_and, List.map_cons, List.map_nil, List.flatMap_cons, List.flatMap_nil, s2, r4, List.nil_append, List.append_nil, and_assoc, Nat.zero_add]
theorem Qmm (q : List Tm) : Qaz [] q = [] := by
  rw [List.eq_nil_iff_forall_not_mem]
  intro t ht
  obtain ⟨a, ha, _⟩ := Qpz ht
  cases ha
theorem Qz3 (v n : Nat) : Qdz [] v n = [] := by
  unfold Qdz; split
  · rfl
  · exact Qmm _
theorem Qacd {v n K : Nat} (hv : v < 64) (h0 : 0 < n) (hK : 2 ≤ K) : PB K n [((1 : Rat), Qbt v n)] := fun t ht => by
  obtain rfl : t = (1, Qbt v n) := by simpa using ht
  have := Qpw
  exact ⟨by show rs 1 + 1 ≤ K; omega, Qsh hv, Qkc h0⟩
theorem Qnq {p : List Tm} {v n K E : Nat} (hp : PB K E p) (hv : v < 64) (hn : n ≤ E) (hK : 2 ≤ K) : PB (K + K) (E + E) (Qdz p v n) ∧ (Qdz p v n).length ≤ p.length := by
  unfold Qdz
  split
  · exact ⟨hp.mono (by omega) (by omega), Nat.le_refl _⟩
  · obtain ⟨h1, h2⟩ := Qim hp ((Qacd hv (by omega) hK).mono (Nat.le_refl K) hn)
    refine ⟨h1.mono ?_ (Nat.le_refl _), by simpa using h2⟩
    have : min p.length [((1 : Rat), Qbt v n)].length * (K + K) ≤ 1 * (K + K) := Nat.mul_le_mul_right _ (by simp; omega)
    omega
def Qe1 (l : List (List Tm)) (v : Nat) : Nat → List Tm
  | 0 => []
  | n + 1 => Q4 (Qe1 l v n) (Qdz (l.getD n []) v n)
theorem Qhm {l : List (List Tm)} {v n : Nat} (h : n < l.length) : Qe1 l v (n + 1) = Q4 (Qe1 l v n) (Qdz l[n] v n) := by
  rw [Qe1, List.getD_eq_getElem?_getD, List.getElem?_eq_getElem h]; rfl
theorem Qo8 {l : List (List Tm)} {v K E L : Nat} (hl : ∀ c ∈ l, PB K E c ∧ c.length ≤ L) (hv : v < 64) : ∀ {n : Nat}, n ≤ l.length → l.length ≤ E → 2 ≤ K → PB (n * (K + K)) (E + E) (Qe1 l v n) ∧ (Qe1 l v n).length ≤ n * L
  | 0, _, _, _ => ⟨PB.nil _ _, by simp [Qe1]⟩
  | n + 1, hn, hE, hK => by
    obtain ⟨h1, h2⟩ := Qo8 hl hv (n := n) (by omega) hE hK
    obtain ⟨c1, c2⟩ := hl _ (List.getElem_mem (show n < l.length by omega))
    obtain ⟨h3, h4⟩ := Qnq c1 hv (n := n) (by omega) hK
    rw [Qhm (by omega), Nat.succ_mul, Nat.succ_mul]
    exact ⟨Qya _ _ h1 h3, Nat.le_trans (Qo1 _ _) (by omega)⟩
theorem Qnr {l : List (List Tm)} {v : Nat} (hl : ∀ c ∈ l, Nrm c) : ∀ n, n ≤ l.length → Nrm (Qe1 l v n)
  | 0, _ => Nrm.nil
  | n + 1, hn => by
    rw [Qhm (by omega)]
    exact Qjl (Qnr hl n (by omega)) (Qrc (hl _ (List.getElem_mem _)) v n)
end Go.FW
namespace Go.FW
open Go
theorem Qre : ∀ {p : List Tm}, Qbb p → ∀ n, Qbb (p.take n)
  | _, _, 0 => trivial
  | [], _, n + 1 => trivial
  | t :: p, h, n + 1 => ⟨fun s hs => h.1 s (List.mem_of_mem_take hs), Qre h.2 n⟩
theorem Nrm.take {p : List Tm} (h : Nrm p) (n : Nat) : Nrm (p.take n) := ⟨fun t ht => h.c t (List.mem_of_mem_take ht), fun t ht => h.z t (List.mem_of_mem_take ht), Qre h.s n⟩
theorem Qrf {p : List Tm} (h : Nrm p) : Qld [] p = p := by rw [Q2t Nrm.nil h, Qf6]
theorem Qz4 {p : List Tm} (h : Nrm p) {i : Nat} (hi : i < p.length) : Qdp (p.take i) p[i].1 p[i].2 = p.take (i + 1) := by
  have e := Qrf (h.take (i + 1))
  rwa [List.take_succ_eq_append_getElem hi, Qxh, Qrf (h.take i), ← List.take_succ_eq_append_getElem hi] at e
end Go.FW
