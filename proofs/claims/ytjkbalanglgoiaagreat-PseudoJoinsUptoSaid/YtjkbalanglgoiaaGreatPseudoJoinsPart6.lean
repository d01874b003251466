/- Part 6 of the proof of PseudoJoins: W1, FwSM, FwUC. Own lemmas; no conditions. -/
import Derived.Test.YtjkbalanglgoiaaGreatPseudoJoinsPart5
set_option linter.unusedSimpArgs false
set_option linter.unnecessarySimpa false
set_option linter.unusedVariables false
namespace Go.Proofs.YtjkbalanglgoiaaGreat
open Go Go.FW
set_option linter.unusedSimpArgs false
set_option linter.unusedVariables false
set_option maxRecDepth 100000
def exi (v : Int) : Nat := if v < 0 then 64 else v.toNat
end Go.Proofs.YtjkbalanglgoiaaGreat
namespace Go.FW
open Go
variable {C : Ctx} {fr : Fr} {hp : HP} {w : World} {K R : Kont}
end Go.FW
namespace Go.FW
open Go
variable {C : Ctx} {fr : Fr} {hp : HP} {K : Kont}
def retT4 (R : PV → Prop) (p q s t : PV) : Prop := (p.isData = true ∧ q.isData = true ∧ s.isData = true ∧ t.isData = true) ∧ ∃ r, PV.leR (.tup [p, q, s, t]) r ∧ R r
theorem retK_4 {a b c d : Nat} {Rr : PV → Prop} : retK [.t a, .t b, .t c, .t d] Rr fr hp = retT4 Rr (snap hp (fr a)) (snap hp (fr b)) (snap hp (fr c)) (snap hp (fr d)) := by simp [retK, retT4, okR, rvP]
theorem bld2o {z : List PV} {o n o2 n2 d β m e ty : Nat} {p : PV} {xs : List PV} {fz : Bool} (h : p.flat = true) (hb : hp β = some ⟨e, ty, xs, fz⟩) (hm : m = xs.length) (hB : isB β = false := by decide) :
    bldK z [(o, n, p), (o2, n2, .ms β m)] d fr hp K = ((p.cells.length = n ∧ o + n ≤ z.length) ∧ (1 = n2 ∧ o2 + n2 ≤ z.length) ∧ K (upd fr d (.agg (fillP z [(o, p.cells), (o2, [.sl e xs])]))) (freeze hp [β])) := by
  obtain ⟨s1, s2, s3⟩ := flat_snap (hp := hp) h
  have s4 : snap hp (.ms β m) = .sl e xs := by simp [snap, snap1, hB, hb, hm]
  have r4 : (PV.ms β m).refs = [β] := rfl
  have c4 : (PV.sl e xs).cells = [.sl e xs] := rfl
  have d4 : (PV.sl e xs).isData = true := rfl
  unfold bldK okFill
  apply propext
  simp only [List.mem_cons, List.not_mem_nil, or_false, forall_eq_or_imp, forall_eq, s1, s3, s4, d4, c4, List.length_cons, List.length_nil, true_and, List.map_cons, List.map_nil, List.flatMap_cons, List.flatMap_nil, s2, r4, List.nil_append, List.append_nil, and_assoc, Nat.zero_add]
theorem pmul_nil_l (q : List Tm) : pmul [] q = [] := by
  rw [List.eq_nil_iff_forall_not_mem]
  intro t ht
  obtain ⟨a, ha, _⟩ := mem_pmul ht
  cases ha
theorem praise_nil (v n : Nat) : praise [] v n = [] := by
  unfold praise; split
  · rfl
  · exact pmul_nil_l _
theorem xpow_PB {v n K : Nat} (hv : v < 64) (h0 : 0 < n) (hK : 2 ≤ K) : PB K n [((1 : Rat), xpow v n)] := fun t ht => by
  obtain rfl : t = (1, xpow v n) := by simpa using ht
  have := rs_1
  exact ⟨by show rs 1 + 1 ≤ K; omega, xpow_MB hv, xpow_last h0⟩
theorem praise_bound {p : List Tm} {v n K E : Nat} (hp : PB K E p) (hv : v < 64) (hn : n ≤ E) (hK : 2 ≤ K) : PB (K + K) (E + E) (praise p v n) ∧ (praise p v n).length ≤ p.length := by
  unfold praise
  split
  · exact ⟨hp.mono (by omega) (by omega), Nat.le_refl _⟩
  · obtain ⟨h1, h2⟩ := pmul_bound hp ((xpow_PB hv (by omega) hK).mono (Nat.le_refl K) hn)
    refine ⟨h1.mono ?_ (Nat.le_refl _), by simpa using h2⟩
    have : min p.length [((1 : Rat), xpow v n)].length * (K + K) ≤ 1 * (K + K) := Nat.mul_le_mul_right _ (by simp; omega)
    omega
def pjoinN (l : List (List Tm)) (v : Nat) : Nat → List Tm
  | 0 => []
  | n + 1 => padd (pjoinN l v n) (praise (l.getD n []) v n)
theorem pjoinN_succ {l : List (List Tm)} {v n : Nat} (h : n < l.length) : pjoinN l v (n + 1) = padd (pjoinN l v n) (praise l[n] v n) := by
  rw [pjoinN, List.getD_eq_getElem?_getD, List.getElem?_eq_getElem h]; rfl
theorem pjoin_bound {l : List (List Tm)} {v K E L : Nat} (hl : ∀ c ∈ l, PB K E c ∧ c.length ≤ L) (hv : v < 64) : ∀ {n : Nat}, n ≤ l.length → l.length ≤ E → 2 ≤ K → PB (n * (K + K)) (E + E) (pjoinN l v n) ∧ (pjoinN l v n).length ≤ n * L
  | 0, _, _, _ => ⟨PB.nil _ _, by simp [pjoinN]⟩
  | n + 1, hn, hE, hK => by
    obtain ⟨h1, h2⟩ := pjoin_bound hl hv (n := n) (by omega) hE hK
    obtain ⟨c1, c2⟩ := hl _ (List.getElem_mem (show n < l.length by omega))
    obtain ⟨h3, h4⟩ := praise_bound c1 hv (n := n) (by omega) hK
    rw [pjoinN_succ (by omega), Nat.succ_mul, Nat.succ_mul]
    exact ⟨padd_PB _ _ h1 h3, Nat.le_trans (padd_length _ _) (by omega)⟩
theorem praise_bound' {p : List Tm} {v n K E : Nat} (hp : PB K E p) (hv : v < 64) : PB (K + 2) (E + n) (praise p v n) ∧ (praise p v n).length ≤ p.length := by
  unfold praise
  split
  · exact ⟨hp.mono (by omega) (by omega), Nat.le_refl _⟩
  · obtain ⟨h1, h2⟩ := pmul_bound hp (xpow_PB (n := n) hv (by omega) (Nat.le_refl 2))
    refine ⟨h1.mono ?_ (Nat.le_refl _), by simpa using h2⟩
    have : min p.length [((1 : Rat), xpow v n)].length * (K + 2) ≤ 1 * (K + 2) := Nat.mul_le_mul_right _ (by simp; omega)
    omega
end Go.FW
namespace Go.FW
open Go
theorem psorted_tk : ∀ {p : List Tm}, PSorted p → ∀ n, PSorted (p.take n)
  | _, _, 0 => trivial
  | [], _, n + 1 => trivial
  | t :: p, h, n + 1 => ⟨fun s hs => h.1 s (List.mem_of_mem_take hs), psorted_tk h.2 n⟩
theorem Nrm.take {p : List Tm} (h : Nrm p) (n : Nat) : Nrm (p.take n) := ⟨fun t ht => h.c t (List.mem_of_mem_take ht), fun t ht => h.z t (List.mem_of_mem_take ht), psorted_tk h.s n⟩
theorem addAll_nil {p : List Tm} (h : Nrm p) : addAll [] p = p := by rw [addAll_eq Nrm.nil h, nil_padd]
theorem paddT_take {p : List Tm} (h : Nrm p) {i : Nat} (hi : i < p.length) : paddT (p.take i) p[i].1 p[i].2 = p.take (i + 1) := by
  have e := addAll_nil (h.take (i + 1))
  rwa [List.take_succ_eq_append_getElem hi, addAll_snoc, addAll_nil (h.take i), ← List.take_succ_eq_append_getElem hi] at e
theorem one_nrm : Nrm [((1 : Rat), ([] : List Int))] := Nrm.one (show (1 : Rat) ≠ 0 by decide) (by simp)
theorem pmul_one_r {p : List Tm} (h : Nrm p) : pmul p [(1, [])] = p := by
  refine pev_inj (pmul_nrm h.s one_nrm.s) h fun φ => ?_
  rw [pmul_pev]
  refine pev_congr fun t ht => ?_
  rw [pev_cons, pev_nil, Rat.one_mul, Rat.add_zero, mulM_nil (h.c t ht)]
def ppx (v n : Nat) : List Tm := if n = 0 then [(1, [])] else [(1, xpow v n)]
theorem ppx_nrm (v n : Nat) : Nrm (ppx v n) := by
  unfold ppx; split
  · exact one_nrm
  · exact xpow_nrm (by omega)
theorem ppx_PB {v n : Nat} (hv : v < 64) : PB 2 n (ppx v n) := by
  unfold ppx; split
  · intro t ht
    obtain rfl : t = (1, []) := by simpa using ht
    have := rs_1
    exact ⟨by show rs 1 + 1 ≤ 2; omega, ⟨by simp, by simp, by simp⟩, by simp⟩
  · exact xpow_PB hv (by omega) (Nat.le_refl 2)
theorem ppx_len (v n : Nat) : (ppx v n).length = 1 := by unfold ppx; split <;> rfl
theorem praise_eq {p : List Tm} (h : Nrm p) (v n : Nat) : pmul p (ppx v n) = praise p v n := by
  unfold ppx praise; split
  · exact pmul_one_r h
  · rfl
end Go.FW
