/- Part 14 of the proof of PseudoBack: W11, W15, FwUK. Own lemmas; no conditions. -/
import Derived.Test.YtmnkngmmfnncoaaGreatPseudoBackPart13
set_option linter.unusedSimpArgs false
set_option linter.unnecessarySimpa false
set_option linter.unusedVariables false
namespace Go.Proofs.YtmnkngmmfnncoaaGreat
open Go Go.FW
set_option linter.unusedSimpArgs false
set_option linter.unusedVariables false
set_option maxRecDepth 100000
theorem Qadl {p q : List RTm} {k : Nat} (hb : ∀ t ∈ p, RB k t) (hb2 : ∀ t ∈ q, RB k t) (hk1 : 1 ≤ k) (hk : k < 2 ^ 36) (hl : p.length < 2 ^ 40) (hl2 : q.length < 2 ^ 40) :
    Qe Tryz.prog 64 [.sl 1 [PV.rpoly p, PV.rpoly q]] (· = .bool (Qee 5 4 4 p && Qee 5 4 4 q)) := by
  have := Q24 (ls := [p, q]) (k := k) (by simp; exact ⟨⟨hb, hl⟩, hb2, hl2⟩) hk1 hk (by simp)
  simpa using this
end Go.Proofs.YtmnkngmmfnncoaaGreat
namespace Go.Proofs.YtmnkngmmfnncoaaGreat
open Go Go.FW
set_option linter.unusedSimpArgs false
set_option linter.unusedVariables false
set_option maxRecDepth 100000
end Go.Proofs.YtmnkngmmfnncoaaGreat
namespace Go.FW
open Go
theorem Qwr {p : List Tm} {v : Nat} (np : Nrm p) (φ : List Int → Rat) {l : List (List Tm)} (hl : ∀ n (h : n < l.length), l[n] = Qa4 p v (n : Nat)) : ∀ N, N ≤ l.length →
    pev φ (Qe1 l v N) = pev (fun m => if 0 ≤ eN m v ∧ eN m v < (N : Int) then φ m else 0) p
  | 0, _ => by
    have e : pev (fun m => if 0 ≤ eN m v ∧ eN m v < ((0 : Nat) : Int) then φ m else 0) p = pev (fun _ => 0) p := Qcr fun t _ => (by show (if 0 ≤ eN t.2 v ∧ eN t.2 v < ((0 : Nat) : Int) then φ t.2 else 0) = 0; rw [if_neg (by omega)])
    rw [e, Qmh]; rfl
  | N + 1, h => by
    have ih := Qwr np φ hl N (by omega)
    have hn : ∀ c ∈ l, Nrm c := fun c hc => by
      obtain ⟨i, hi, rfl⟩ := List.getElem_of_mem hc
      rw [hl i hi]; exact Qnp np v _
    have nc := Qnp np v (N : Int)
    rw [Qhm (by omega), hl N (by omega), Qjk (Qnr hn N (by omega)).c (Qrc nc v N).c, ih, Qz1 nc.c]
    have e := Qti (φ := fun m => if eN m v = (N : Int) then φ m else 0) (v := v) (n := N) (fun m hm => if_neg hm) np.c
    have e2 : pev (fun m => (fun m => if eN m v = (N : Int) then φ m else 0) (Qam m (Qbt v N))) (Qa4 p v N) = pev (fun m => φ (Qam m (Qbt v N))) (Qa4 p v N) := by
      refine Qcr fun t ht => ?_
      have := Q7s ht
      show (if eN (Qam t.2 (Qbt v N)) v = (N : Int) then φ (Qam t.2 (Qbt v N)) else 0) = _
      rw [if_pos (by rw [Qdh, this, Qsg, if_pos rfl]; omega)]
    rw [← e2, ← e, ← Qsc]
    refine Qcr fun t _ => ?_
    show (if 0 ≤ eN t.2 v ∧ eN t.2 v < (N : Int) then φ t.2 else 0) + (if eN t.2 v = (N : Int) then φ t.2 else 0) = if 0 ≤ eN t.2 v ∧ eN t.2 v < ((N + 1 : Nat) : Int) then φ t.2 else 0
    by_cases h1 : eN t.2 v = (N : Int)
    · rw [if_neg (by omega), if_pos h1, if_pos (by omega), Rat.zero_add]
    · rw [if_neg h1, Rat.add_zero]
      by_cases h2 : 0 ≤ eN t.2 v ∧ eN t.2 v < (N : Int)
      · rw [if_pos h2, if_pos (by omega)]
      · rw [if_neg h2, if_neg (by omega)]
theorem Q0b {p : List Tm} {v K E : Nat} (np : Nrm p) (bp : PB K E p) {l : List (List Tm)} (hl : ∀ n (h : n < l.length), l[n] = Qa4 p v (n : Nat)) (hd : Qfv p v < (l.length : Nat)) : Qe1 l v l.length = p := by
  have hn : ∀ c ∈ l, Nrm c := fun c hc => by
    obtain ⟨i, hi, rfl⟩ := List.getElem_of_mem hc
    rw [hl i hi]; exact Qnp np v _
  refine Qlc (Qnr hn _ (Nat.le_refl _)) np fun φ => ?_
  rw [Qwr np φ hl _ (Nat.le_refl _)]
  refine Qcr fun t ht => if_pos ⟨((bp t ht).m.eN v).1, ?_⟩
  have := (Qkb p v).2.1 t ht
  omega
theorem Qso {p : List Tm} (np : Nrm p) (h0 : p ≠ []) : plt 0 p = hdT p := by
  obtain ⟨h1, h2⟩ := Qml (o := 0) np h0
  apply Classical.byContradiction
  intro hne
  have h3 := h2 _ (Qb1 h0) (fun e => hne e.symm)
  rcases Qit np.s _ h1 with e | e
  · exact hne e
  · have h4 := Qfi (hdT p).2 (plt 0 p).2
    have h5 : Qay 0 (plt 0 p).2 (hdT p).2 = Qab (plt 0 p).2 (hdT p).2 := by unfold Qay; rw [if_neg (by simp)]
    omega
theorem Qyu {p q : List Tm} (np : Nrm p) (nq : Nrm q) (h1 : p ≠ []) (h2 : q ≠ []) : Qaz p q ≠ [] ∧ hdT (Qaz p q) = ((hdT p).1 * (hdT q).1, Qam (hdT p).2 (hdT q).2) := by
  obtain ⟨h3, h4⟩ := Qacc (o := 0) np nq h1 h2
  rw [Qso (Qet np.s nq.s) h3, Qso np h1, Qso nq h2] at h4
  exact ⟨h3, h4⟩
theorem Qtn {E : Nat} {a b : List Int} (ha : MB E a) (hb : MB E b) (hl : a.getLast? ≠ some 0) : Qf8 b (Qam a b) = true ∧ Qhb (Qam a b) b = a := by
  have hm := ha.mul hb
  have hd : Qf8 b (Qam a b) = true := (Qwh hm).2 fun i => by rw [Qdh]; have := ha.eN i; omega
  refine ⟨hd, ?_⟩
  have e := Qwi hm hb (Qdx a b) hd
  refine Qea (Qnv _ _) hl fun i => ?_
  have := congrArg (fun l => eN l i) e
  simp only [Qdh] at this
  omega
theorem Nrm.drop {p : List Tm} (h : Nrm p) : ∀ k, Nrm (p.drop k)
  | 0 => h
  | k + 1 => by
    have := Nrm.drop h k
    rw [← List.drop_drop]
    cases hd : p.drop k with
    | nil => simpa using Nrm.nil
    | cons t l => rw [hd] at this; simpa using this.tail
theorem Qws {p q : List Tm} {E : Nat} (np : Nrm p) (nq : Nrm q) (bp : ∀ t ∈ p, MB E t.2) (bq : ∀ t ∈ q, MB E t.2) (hq : q ≠ []) : ∀ k, k ≤ p.length → exP q (Qaz p q) k = Qaz (p.drop k) q ∧ exQ q (Qaz p q) k = p.take k
  | 0, _ => ⟨rfl, rfl⟩
  | k + 1, h => by
    obtain ⟨h1, h2⟩ := Qws np nq bp bq hq k (by omega)
    have hk : k < p.length := by omega
    have e1 : p.drop k = p[k] :: p.drop (k + 1) := List.drop_eq_getElem_cons hk
    have n1 := np.drop k
    have n2 := np.drop (k + 1)
    have hne : p.drop k ≠ [] := by rw [e1]; exact List.cons_ne_nil _ _
    obtain ⟨h3, h4⟩ := Qyu n1 nq hne hq
    have e2 : hdT (p.drop k) = p[k] := by rw [e1]; rfl
    rw [e2] at h4
    have hz := nq.z _ (Qb1 hq)
    have hqm := bq _ (Qb1 hq)
    have hpm := bp _ (List.getElem_mem hk)
    obtain ⟨h5, h6⟩ := Qtn hpm hqm (np.c _ (List.getElem_mem hk))
    have eT : exT q (Qaz (p.drop k) q) = p[k] := by
      unfold exT
      rw [h4]
      simp only
      rw [h6]
      have : p[k].1 * (hdT q).1 / (hdT q).1 = p[k].1 := Rat.mul_div_cancel hz
      rw [this]
    have n3 : Nrm (Qaz (p.drop k) q) := Qet n1.s nq.s
    constructor
    · show exN q (exP q (Qaz p q) k) = _
      rw [h1]
      refine Qlc (Qsn n3 nq) (Qet n2.s nq.s) fun φ => ?_
      rw [Qyr n3 nq, eT, Qjm, Qjm, e1, Qag]
      grind
    · show exQ q (Qaz p q) k ++ [exT q (exP q (Qaz p q) k)] = _
      rw [h1, h2, eT, List.take_succ_eq_append_getElem hk]
theorem Qagn {p q : List Tm} {E : Nat} (np : Nrm p) (nq : Nrm q) (bp : ∀ t ∈ p, MB E t.2) (bq : ∀ t ∈ q, MB E t.2) (hq : q ≠ []) {k : Nat} (h : k < p.length) : Qwl q (exP q (Qaz p q) k) := by
  obtain ⟨h1, h2⟩ := Qws np nq bp bq hq k (by omega)
  have e1 : p.drop k = p[k] :: p.drop (k + 1) := List.drop_eq_getElem_cons h
  have hne : p.drop k ≠ [] := by rw [e1]; exact List.cons_ne_nil _ _
  obtain ⟨h3, h4⟩ := Qyu (np.drop k) nq hne hq
  have e2 : hdT (p.drop k) = p[k] := by rw [e1]; rfl
  rw [h1]
  refine ⟨h3, ?_⟩
  rw [h4, e2]
  exact (Qtn (bp _ (List.getElem_mem h)) (bq _ (Qb1 hq)) (np.c _ (List.getElem_mem h))).1
theorem Qyv (r : Rat) : (r.num : Rat) / (r.den : Rat) = r := by
  have := Rat.num_divInt_den r
  rw [Rat.divInt_eq_div, Rat.intCast_natCast] at this
  exact this
theorem Qto (f : Tm → Nat) : ∀ (l : List Tm) (g : Nat), l.foldl (fun g t => Nat.gcd g (f t)) g ∣ g ∧ (∀ t ∈ l, l.foldl (fun g t => Nat.gcd g (f t)) g ∣ f t) ∧ ∀ d, d ∣ g → (∀ t ∈ l, d ∣ f t) → d ∣ l.foldl (fun g t => Nat.gcd g (f t)) g
  | [], g => ⟨Nat.dvd_refl _, (fun t h => by cases h), (fun d h _ => h)⟩
  | t :: l, g => by
    obtain ⟨h1, h2, h3⟩ := Qto f l (Nat.gcd g (f t))
    refine ⟨Nat.dvd_trans h1 (Nat.gcd_dvd_left _ _), fun s hs => ?_, fun d hd hl => ?_⟩
    · rcases List.mem_cons.1 hs with rfl | hs
      · exact Nat.dvd_trans h1 (Nat.gcd_dvd_right _ _)
      · exact h2 s hs
    · exact h3 d (Nat.dvd_gcd hd (hl t (List.mem_cons_self ..))) fun s hs => hl s (List.mem_cons_of_mem _ hs)
structure Qwt (a : Rat) (p : List Tm) : Prop where
  i : ∀ t ∈ p, ∃ z : Int, a * t.1 = (z : Rat)
  g : ∀ d : Nat, (∀ t ∈ p, ∀ z : Int, a * t.1 = (z : Rat) → d ∣ z.natAbs) → d = 1
  s : 0 < a * (hdT p).1
theorem Qwt.uniq {a b : Rat} {p : List Tm} (ha : Qwt a p) (hb : Qwt b p) : a = b := by
  have hs := ha.s
  have hs2 := hb.s
  have ha0 : a ≠ 0 := by rintro rfl; rw [Rat.zero_mul] at hs; exact absurd hs (by decide)
  have hb0 : b ≠ 0 := by rintro rfl; rw [Rat.zero_mul] at hs2; exact absurd hs2 (by decide)
  obtain ⟨r, hr⟩ : ∃ r : Rat, r = b / a := ⟨_, rfl⟩
  have hra : b = r * a := by rw [hr]; exact (Rat.div_mul_cancel ha0).symm
  have hrn : (r.num : Rat) = r * (r.den : Rat) := by
    have hd : ((r.den : Nat) : Rat) ≠ 0 := by
      intro h; exact r.den_nz (by exact_mod_cast h)
    have := Qyv r
    have h2 := Rat.div_mul_cancel (a := (r.num : Rat)) hd
    rw [this] at h2
    exact h2.symm
  have key : ∀ t ∈ p, ∀ z w : Int, a * t.1 = (z : Rat) → b * t.1 = (w : Rat) → w * (r.den : Int) = r.num * z := fun t _ z w hz hw => by
    have : ((w * (r.den : Int) : Int) : Rat) = ((r.num * z : Int) : Rat) := by
      rw [Rat.intCast_mul, Rat.intCast_mul, ← hw, ← hz, hrn, hra]
      have e : (((r.den : Nat) : Int) : Rat) = ((r.den : Nat) : Rat) := Rat.intCast_natCast _
      rw [e]; grind
    exact Rat.intCast_inj.1 this
  have hcop : Nat.Coprime r.num.natAbs r.den := r.reduced
  have hden : r.den = 1 := by
    refine ha.g _ fun t ht z hz => ?_
    obtain ⟨w, hw⟩ := hb.i t ht
    have := key t ht z w hz hw
    have h2 : w.natAbs * r.den = r.num.natAbs * z.natAbs := by
      have := congrArg Int.natAbs this
      rwa [Int.natAbs_mul, Int.natAbs_mul, Int.natAbs_natCast] at this
    exact (hcop.symm).dvd_of_dvd_mul_left ⟨w.natAbs, by rw [← h2, Nat.mul_comm]⟩
  have hnum : r.num.natAbs = 1 := by
    refine hb.g _ fun t ht w hw => ?_
    obtain ⟨z, hz⟩ := ha.i t ht
    have := key t ht z w hz hw
    have h2 : w.natAbs * r.den = r.num.natAbs * z.natAbs := by
      have := congrArg Int.natAbs this
      rwa [Int.natAbs_mul, Int.natAbs_mul, Int.natAbs_natCast] at this
    rw [hden, Nat.mul_one] at h2
    exact ⟨_, h2⟩
  have hr1 : r = 1 ∨ r = -1 := by
    have h3 : r.num = 1 ∨ r.num = -1 := by omega
    have h4 : ((r.den : Nat) : Rat) = 1 := by rw [hden]; rfl
    rw [h4, Rat.mul_one] at hrn
    rcases h3 with h3 | h3
    · left; rw [← hrn, h3]; rfl
    · right; rw [← hrn, h3]; rfl
  rcases hr1 with e | e
  · rw [hra, e, Rat.one_mul]
  · exfalso
    rw [hra, e] at hs2
    grind
theorem Q82 (p : List Tm) : 0 < Qbu p := by
  have := (Qmo p p.length (Nat.le_refl _)).l0
  rwa [List.take_length] at this
theorem Q3k {p : List Tm} {t : Tm} (h : t ∈ p) : t.1.den ∣ Qbu p := by
  obtain ⟨i, hi, rfl⟩ := List.getElem_of_mem h
  exact Q8p p hi
theorem Qny {p : List Tm} (np : Nrm p) (h0 : p ≠ []) : Qwt (Qdb p) p := by
  have hL := Q82 p
  have hG := Qsl np.z h0
  obtain ⟨L, hLe⟩ : ∃ L, L = Qbu p := ⟨_, rfl⟩
  obtain ⟨G, hGe⟩ : ∃ G, G = Qec p := ⟨_, rfl⟩
  obtain ⟨g1, g2, g3⟩ := Qto (fun t => t.1.num.natAbs * (L / t.1.den)) p 0
  have hGL : p.foldl (fun g t => Nat.gcd g (t.1.num.natAbs * (L / t.1.den))) 0 = G := by rw [hGe, ← Q20, ← hLe]; rfl
  rw [hGL] at g2 g3
  have hG0 : ((G : Int) : Rat) ≠ 0 := by
    intro h; exact hG (by rw [← hGe]; have := Rat.intCast_eq_zero_iff.1 h; omega)
  have hc : ∀ t ∈ p, ∃ z : Int, t.1 * ((L : Int) : Rat) = (z : Rat) ∧ z.natAbs = t.1.num.natAbs * (L / t.1.den) := fun t ht => by
    have hd : t.1.den ∣ L := hLe ▸ Q3k ht
    have e := Qxp hd
    obtain ⟨k, hk⟩ := hd
    refine ⟨t.1.num * (k : Int), ?_, ?_⟩
    · have hd0 : ((t.1.den : Nat) : Rat) ≠ 0 := by intro h; exact t.1.den_nz (by exact_mod_cast h)
      have e1 := Qyv t.1
      rw [hk]
      have e2 : (((t.1.den * k : Nat) : Int) : Rat) = ((t.1.den : Nat) : Rat) * ((k : Nat) : Rat) := by
        rw [Rat.intCast_natCast, Rat.natCast_mul]
      rw [e2, Rat.intCast_mul, Rat.intCast_natCast]
      generalize ((k : Nat) : Rat) = kk
      generalize ((t.1.den : Nat) : Rat) = dd at *
      generalize ((t.1.num : Int) : Rat) = nn at *
      have e3 : t.1 * dd = nn := by rw [← e1]; exact Rat.div_mul_cancel hd0
      rw [← Rat.mul_assoc, e3]
    · rw [Int.natAbs_mul, Int.natAbs_natCast, hk, Nat.mul_div_cancel_left _ t.1.den_pos]
  have hfac : ∃ s : Int, (s = 1 ∨ s = -1) ∧ Qdb p = ((s * (L : Int) : Int) : Rat) / ((G : Int) : Rat) ∧ (s = 1 → ¬ (hdT p).1 < 0) ∧ (s = -1 → (hdT p).1 < 0) := by
    unfold Qdb
    rw [← hLe, ← hGe]
    by_cases hn : (p.headD (0, [])).1 < 0
    · refine ⟨-1, .inr rfl, ?_, fun h => absurd h (by decide), fun _ => hn⟩
      rw [if_pos hn]
      have : (-1 : Int) * (L : Int) = -(L : Int) := by omega
      rw [this]
    · refine ⟨1, .inl rfl, ?_, fun _ => hn, fun h => absurd h (by decide)⟩
      rw [if_neg hn, Int.one_mul]
  obtain ⟨s, hs1, hs2, hs3, hs4⟩ := hfac
  have hmul : ∀ t ∈ p, ∃ y : Int, Qdb p * t.1 = (y : Rat) ∧ y.natAbs * G = t.1.num.natAbs * (L / t.1.den) := fun t ht => by
    obtain ⟨z, hz, hza⟩ := hc t ht
    obtain ⟨c, hcc⟩ : (G : Int) ∣ z := Int.ofNat_dvd_left.2 (hza ▸ g2 t ht)
    refine ⟨s * c, ?_, ?_⟩
    · have e : Qdb p * t.1 = (s : Rat) * (t.1 * ((L : Int) : Rat)) / ((G : Int) : Rat) := by
        rw [hs2, Rat.intCast_mul, Rat.div_def, Rat.div_def]; grind
      rw [e, hz, hcc, Rat.intCast_mul, Rat.intCast_mul, Rat.div_def]
      have := Rat.mul_inv_cancel _ hG0
      generalize ((G : Int) : Rat) = gg at *
      generalize (gg)⁻¹ = gi at *
      grind
    · rw [← hza, hcc, Int.natAbs_mul, Int.natAbs_mul, Int.natAbs_natCast]
      have : s.natAbs = 1 := by rcases hs1 with h | h <;> rw [h] <;> rfl
      rw [this, Nat.one_mul, Nat.mul_comm]
  refine ⟨fun t ht => ?_, fun d hd => ?_, ?_⟩
  · obtain ⟨y, hy, _⟩ := hmul t ht; exact ⟨y, hy⟩
  · have h1 : d * G ∣ G := g3 _ (Nat.dvd_zero _) fun t ht => by
      obtain ⟨y, hy, hy2⟩ := hmul t ht
      show d * G ∣ t.1.num.natAbs * (L / t.1.den)
      rw [← hy2]
      exact Nat.mul_dvd_mul_right (hd t ht y hy) G
    have h2 : 0 < G := by omega
    exact Nat.dvd_one.1 (Nat.dvd_of_mul_dvd_mul_right h2 (by rwa [Nat.one_mul]))
  · have hz0 := np.z _ (Qb1 h0)
    have hLp : (0 : Rat) < ((L : Int) : Rat) := by
      have : (0 : Int) < (L : Int) := by omega
      exact_mod_cast this
    have hGp : (0 : Rat) < ((G : Int) : Rat) := by
      have : (0 : Int) < (G : Int) := by omega
      exact_mod_cast this
    have hLG : (0 : Rat) < ((L : Int) : Rat) / ((G : Int) : Rat) := by
      rw [Rat.div_def]
      exact Rat.mul_pos hLp (Rat.inv_pos.2 hGp)
    have e : Qdb p = (s : Rat) * (((L : Int) : Rat) / ((G : Int) : Rat)) := by rw [hs2, Rat.intCast_mul, Rat.div_def, Rat.div_def, Rat.mul_assoc]
    rw [e]
    generalize ((L : Int) : Rat) / ((G : Int) : Rat) = x at *
    rcases hs1 with h | h
    · have := hs3 h
      have e1 : (s : Rat) = 1 := by rw [h]; rfl
      rw [e1, Rat.one_mul]
      exact Rat.mul_pos hLG (by grind)
    · have := hs4 h
      have e1 : (s : Rat) = -1 := by rw [h]; rfl
      rw [e1]
      have h5 := Rat.mul_pos hLG (show (0 : Rat) < -(hdT p).1 by grind)
      grind
theorem Qgw {p : List Tm} (np : Nrm p) {c : Rat} (hc : c ≠ 0) : Qa0 p c = p.map fun t => (t.1 * c, t.2) := by
  rw [Qa0, if_neg hc, Qak]
  induction p with
  | nil => rfl
  | cons t p ih =>
    have hz : t.1 * c ≠ 0 := fun h => by
      rcases Rat.mul_eq_zero.1 h with h | h
      · exact np.z t (by simp) h
      · exact hc h
    have ih' := ih np.tail
    rw [List.filterMap_cons, List.map_cons]
    simp only [if_neg hz]
    rw [ih', Qpu (np.c t (by simp))]
theorem Qnz {p : List Tm} (np : Nrm p) (h0 : p ≠ []) {c : Rat} (hc : c ≠ 0) : Qa0 p c ≠ [] := by
  rw [Qgw np hc]; simpa using h0
theorem Qrm {p : List Tm} (np : Nrm p) (h0 : p ≠ []) {c : Rat} (hc : c ≠ 0) : Qdb (Qa0 p c) * c = Qdb p := by
  have h1 := Qny (Qcn np.s c) (Qnz np h0 hc)
  refine Qwt.uniq (p := p) ⟨fun t ht => ?_, fun d hd => ?_, ?_⟩ (Qny np h0)
  · obtain ⟨z, hz⟩ := h1.i (t.1 * c, t.2) (by rw [Qgw np hc]; exact List.mem_map.2 ⟨t, ht, rfl⟩)
    exact ⟨z, by rw [← hz]; grind⟩
  · refine h1.g d fun t ht z hz => ?_
    rw [Qgw np hc] at ht
    obtain ⟨s, hs, rfl⟩ := List.mem_map.1 ht
    exact hd s hs z (by rw [← hz]; grind)
  · have := h1.s
    have e : hdT (Qa0 p c) = ((hdT p).1 * c, (hdT p).2) := by
      rw [Qgw np hc]
      cases p with
      | nil => exact absurd rfl h0
      | cons t p => rfl
    rw [e] at this
    grind
theorem Qsp {p : List Tm} (np : Nrm p) (h0 : p ≠ []) : Qdb p ≠ 0 := fun h => by
  have := (Qny np h0).s
  rw [h, Rat.zero_mul] at this
  exact absurd this (by decide)
theorem Qadm {p : List Tm} (np : Nrm p) (h0 : p ≠ []) : Qdb (Qa0 p (Qdb p)) = 1 := by
  have h := Qrm np h0 (Qsp np h0)
  have h2 := Qsp np h0
  generalize Qdb (Qa0 p (Qdb p)) = x at *
  generalize Qdb p = y at *
  have : x * y * y⁻¹ = y * y⁻¹ := by rw [h]
  rw [Rat.mul_assoc, Rat.mul_inv_cancel _ h2, Rat.mul_one] at this
  exact this
theorem Q0c {p : List Tm} (np : Nrm p) : Qa0 p 1 = p := by
  rw [Qgw np (by decide)]
  simp
theorem Qwu {p : List Tm} (np : Nrm p) (a b : Rat) : Qa0 (Qa0 p a) b = Qa0 p (a * b) := by
  refine Qlc (Qcn (Qcn np.s a).s b) (Qcn np.s _) fun φ => ?_
  rw [Qiq φ (Qcn np.s a).c, Qiq φ np.c, Qiq φ np.c]
  grind
end Go.FW
