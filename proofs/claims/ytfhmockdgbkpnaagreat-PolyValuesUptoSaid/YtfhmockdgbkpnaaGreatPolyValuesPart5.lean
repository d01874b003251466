/- Part 5 of the proof of PolyValues: FwQA. Own lemmas; no conditions. -/
import Derived.Test.YtfhmockdgbkpnaaGreatPolyValuesPart4
set_option linter.unusedSimpArgs false
set_option linter.unnecessarySimpa false
set_option linter.unusedVariables false
namespace Go.FW
open Go
def pev (φ : List Int → Rat) : List Tm → Rat
  | [] => 0
  | t :: p => t.1 * φ t.2 + pev φ p
theorem pev_nil (φ : List Int → Rat) : pev φ [] = 0 := rfl
theorem pev_cons (φ : List Int → Rat) (t : Tm) (p : List Tm) : pev φ (t :: p) = t.1 * φ t.2 + pev φ p := rfl
theorem pev_append (φ : List Int → Rat) : ∀ (p q : List Tm), pev φ (p ++ q) = pev φ p + pev φ q
  | [], q => by rw [List.nil_append, pev_nil]; grind
  | t :: p, q => by rw [List.cons_append, pev_cons, pev_cons, pev_append φ p q]; grind
theorem pev_congr {φ ψ : List Int → Rat} : ∀ {p : List Tm}, (∀ t ∈ p, φ t.2 = ψ t.2) → pev φ p = pev ψ p
  | [], _ => rfl
  | t :: p, h => by
    rw [pev_cons, pev_cons, h t (by simp), pev_congr (p := p) (fun x hx => h x (by simp [hx]))]
theorem pev_add (φ ψ : List Int → Rat) : ∀ (p : List Tm), pev (fun m => φ m + ψ m) p = pev φ p + pev ψ p
  | [] => by simp only [pev_nil]; grind
  | t :: p => by simp only [pev_cons]; rw [pev_add φ ψ p]; grind
theorem pev_smul (c : Rat) (φ : List Int → Rat) : ∀ (p : List Tm), pev (fun m => c * φ m) p = c * pev φ p
  | [] => by simp only [pev_nil]; grind
  | t :: p => by simp only [pev_cons]; rw [pev_smul c φ p]; grind
theorem pev_zero : ∀ (p : List Tm), pev (fun _ => 0) p = 0
  | [] => rfl
  | t :: p => by simp only [pev_cons]; rw [pev_zero p]; grind
theorem pev_swap (ψ : List Int → List Int → Rat) (q : List Tm) : ∀ (p : List Tm), pev (fun m => pev (fun n => ψ m n) q) p = pev (fun n => pev (fun m => ψ m n) p) q
  | [] => by simp only [pev_nil]; rw [pev_zero]
  | t :: p => by
    simp only [pev_cons]
    rw [pev_swap ψ q p, pev_add (fun n => t.1 * ψ t.2 n), pev_smul]
def Can (p : List Tm) : Prop := ∀ t ∈ p, t.2.getLast? ≠ some 0
def NZ (p : List Tm) : Prop := ∀ t ∈ p, t.1 ≠ 0
structure Nrm (p : List Tm) : Prop where
  c : Can p
  z : NZ p
  s : PSorted p
theorem Can.cons {t : Tm} {p : List Tm} : Can (t :: p) ↔ t.2.getLast? ≠ some 0 ∧ Can p := by simp [Can]
theorem NZ.cons {t : Tm} {p : List Tm} : NZ (t :: p) ↔ t.1 ≠ 0 ∧ NZ p := by simp [NZ]
theorem Nrm.nil : Nrm [] := ⟨by simp [Can], by simp [NZ], trivial⟩
theorem Nrm.tail {t : Tm} {p : List Tm} (h : Nrm (t :: p)) : Nrm p := ⟨(Can.cons.1 h.c).2, (NZ.cons.1 h.z).2, h.s.2⟩
theorem Nrm.one {t : Tm} (h : t.1 ≠ 0) (hm : t.2.getLast? ≠ some 0) : Nrm [t] := ⟨by simpa [Can] using hm, by simpa [NZ] using h, ⟨by simp, trivial⟩⟩
theorem PVd.nrm {p : List Tm} (h : PVd p) : Nrm p := ⟨fun t ht => monoOk_last (h.t t ht).m, fun t ht => (h.t t ht).c, h.s⟩
theorem monoOk_of {E : Nat} {a : List Int} (h : MB E a) (hE : E ≤ 1048576) (hl : a.getLast? ≠ some 0) : monoOk a = true := by
  simp only [monoOk, Bool.and_eq_true, decide_eq_true_eq, List.all_eq_true]
  exact ⟨h.len, hl, fun x hx => ⟨h.lo x hx, by have := h.hi x hx; omega⟩⟩
theorem pev_padd {φ : List Int → Rat} : ∀ {p q : List Tm}, Can p → Can q → pev φ (padd p q) = pev φ p + pev φ q := by
  intro p q
  induction p, q using padd.induct with
  | case1 q => rw [padd, pev_nil]; intros; grind
  | case2 p h => rw [padd_nil, pev_nil]; intros; grind
  | case3 c m p d l q h ih =>
    intro hp hq
    rw [padd, if_pos h, pev_cons, pev_cons, ih (Can.cons.1 hp).2 hq]; grind
  | case4 c m p d l q h1 h2 ih =>
    intro hp hq
    rw [padd, if_neg h1, if_pos h2, pev_cons, ih hp (Can.cons.1 hq).2, pev_cons φ (d, l)]; grind
  | case5 c m p d l q h1 h2 h3 ih =>
    intro hp hq
    have e := cmpM_eq_of h1 h2 (Can.cons.1 hp).1 (Can.cons.1 hq).1
    rw [padd, if_neg h1, if_neg h2, if_pos h3, ih (Can.cons.1 hp).2 (Can.cons.1 hq).2, pev_cons, pev_cons]
    subst e
    have : c * φ m + d * φ m = 0 := by rw [← Rat.add_mul, h3]; grind
    grind
  | case6 c m p d l q h1 h2 h3 ih =>
    intro hp hq
    have e := cmpM_eq_of h1 h2 (Can.cons.1 hp).1 (Can.cons.1 hq).1
    rw [padd, if_neg h1, if_neg h2, if_neg h3, pev_cons, ih (Can.cons.1 hp).2 (Can.cons.1 hq).2, pev_cons, pev_cons]
    subst e
    grind
theorem mem_padd : ∀ {p q : List Tm} {t : Tm}, t ∈ padd p q → (∃ s ∈ p, s.2 = t.2) ∨ (∃ s ∈ q, s.2 = t.2) := by
  intro p q
  induction p, q using padd.induct with
  | case1 q => rw [padd]; intro t ht; exact Or.inr ⟨t, ht, rfl⟩
  | case2 p h => rw [padd_nil]; intro t ht; exact Or.inl ⟨t, ht, rfl⟩
  | case3 c m p d l q h ih =>
    intro t ht
    rw [padd, if_pos h] at ht
    rcases List.mem_cons.1 ht with rfl | ht
    · exact Or.inl ⟨_, by simp, rfl⟩
    · rcases ih ht with ⟨s, h1, h2⟩ | h1
      · exact Or.inl ⟨s, by simp [h1], h2⟩
      · exact Or.inr h1
  | case4 c m p d l q h1 h2 ih =>
    intro t ht
    rw [padd, if_neg h1, if_pos h2] at ht
    rcases List.mem_cons.1 ht with rfl | ht
    · exact Or.inr ⟨_, by simp, rfl⟩
    · rcases ih ht with h3 | ⟨s, h3, h4⟩
      · exact Or.inl h3
      · exact Or.inr ⟨s, by simp [h3], h4⟩
  | case5 c m p d l q h1 h2 h3 ih =>
    intro t ht
    rw [padd, if_neg h1, if_neg h2, if_pos h3] at ht
    rcases ih ht with ⟨s, h4, h5⟩ | ⟨s, h4, h5⟩
    · exact Or.inl ⟨s, by simp [h4], h5⟩
    · exact Or.inr ⟨s, by simp [h4], h5⟩
  | case6 c m p d l q h1 h2 h3 ih =>
    intro t ht
    rw [padd, if_neg h1, if_neg h2, if_neg h3] at ht
    rcases List.mem_cons.1 ht with rfl | ht
    · exact Or.inl ⟨(c, m), by simp, rfl⟩
    · rcases ih ht with ⟨s, h4, h5⟩ | ⟨s, h4, h5⟩
      · exact Or.inl ⟨s, by simp [h4], h5⟩
      · exact Or.inr ⟨s, by simp [h4], h5⟩
theorem padd_can {p q : List Tm} (hp : Can p) (hq : Can q) : Can (padd p q) := fun t ht => by
  rcases mem_padd ht with ⟨s, h1, h2⟩ | ⟨s, h1, h2⟩
  · rw [← h2]; exact hp s h1
  · rw [← h2]; exact hq s h1
theorem padd_nz : ∀ {p q : List Tm}, NZ p → NZ q → NZ (padd p q) := by
  intro p q
  induction p, q using padd.induct with
  | case1 q => rw [padd]; exact fun _ h => h
  | case2 p h => rw [padd_nil]; exact fun h _ => h
  | case3 c m p d l q h ih =>
    intro hp hq
    rw [padd, if_pos h, NZ.cons]
    exact ⟨(NZ.cons.1 hp).1, ih (NZ.cons.1 hp).2 hq⟩
  | case4 c m p d l q h1 h2 ih =>
    intro hp hq
    rw [padd, if_neg h1, if_pos h2, NZ.cons]
    exact ⟨(NZ.cons.1 hq).1, ih hp (NZ.cons.1 hq).2⟩
  | case5 c m p d l q h1 h2 h3 ih =>
    intro hp hq
    rw [padd, if_neg h1, if_neg h2, if_pos h3]
    exact ih (NZ.cons.1 hp).2 (NZ.cons.1 hq).2
  | case6 c m p d l q h1 h2 h3 ih =>
    intro hp hq
    rw [padd, if_neg h1, if_neg h2, if_neg h3, NZ.cons]
    exact ⟨h3, ih (NZ.cons.1 hp).2 (NZ.cons.1 hq).2⟩
theorem cmpM_eq_gt {a b c : List Int} (h : cmpM a b = 0) (h2 : 0 < cmpM b c) : 0 < cmpM a c := by
  have e : ∀ i, eN a i = eN b i := by
    intro i
    have := (cmpN_zero a b _).1 h
    by_cases hi : i < max a.length b.length
    · exact this i hi
    · rw [eN_ge (by omega), eN_ge (by omega)]
  rw [cmpM_congr e (fun _ => rfl)]; exact h2
theorem padd_sorted : ∀ {p q : List Tm}, PSorted p → PSorted q → PSorted (padd p q) := by
  intro p q
  induction p, q using padd.induct with
  | case1 q => rw [padd]; exact fun _ h => h
  | case2 p h => rw [padd_nil]; exact fun h _ => h
  | case3 c m p d l q h ih =>
    intro hp hq
    rw [padd, if_pos h]
    refine ⟨fun t ht => ?_, ih hp.2 hq⟩
    rcases mem_padd ht with ⟨s, h1, h2⟩ | ⟨s, h1, h2⟩
    · rw [← h2]; exact hp.1 s h1
    · rw [← h2]
      rcases List.mem_cons.1 h1 with rfl | h1
      · exact h
      · exact cmpM_gt_trans h (hq.1 s h1)
  | case4 c m p d l q h1 h2 ih =>
    intro hp hq
    rw [padd, if_neg h1, if_pos h2]
    have h2' : 0 < cmpM l m := by have := cmpM_neg m l; omega
    refine ⟨fun t ht => ?_, ih hp hq.2⟩
    rcases mem_padd ht with ⟨s, h3, h4⟩ | ⟨s, h3, h4⟩
    · rw [← h4]
      rcases List.mem_cons.1 h3 with rfl | h3
      · exact h2'
      · exact cmpM_gt_trans h2' (hp.1 s h3)
    · rw [← h4]; exact hq.1 s h3
  | case5 c m p d l q h1 h2 h3 ih =>
    intro hp hq
    rw [padd, if_neg h1, if_neg h2, if_pos h3]
    exact ih hp.2 hq.2
  | case6 c m p d l q h1 h2 h3 ih =>
    intro hp hq
    rw [padd, if_neg h1, if_neg h2, if_neg h3]
    refine ⟨fun t ht => ?_, ih hp.2 hq.2⟩
    rcases mem_padd ht with ⟨s, h4, h5⟩ | ⟨s, h4, h5⟩
    · rw [← h5]; exact hp.1 s h4
    · rw [← h5]; exact cmpM_eq_gt (b := l) (by show cmpM m l = 0; omega) (hq.1 s h4)
theorem padd_nrm {p q : List Tm} (hp : Nrm p) (hq : Nrm q) : Nrm (padd p q) := ⟨padd_can hp.c hq.c, padd_nz hp.z hq.z, padd_sorted hp.s hq.s⟩
def ind (m : List Int) : List Int → Rat := fun n => if n = m then 1 else 0
theorem ev_ind_none {m : List Int} : ∀ {p : List Tm}, (∀ t ∈ p, t.2 ≠ m) → pev (ind m) p = 0
  | [], _ => rfl
  | t :: p, h => by
    rw [pev_cons, ev_ind_none (p := p) (fun x hx => h x (by simp [hx])), ind, if_neg (h t (by simp))]; grind
theorem gt_ne {a b : List Int} (h : 0 < cmpM a b) : b ≠ a := by rintro rfl; rw [cmpM_self] at h; omega
theorem ev_ind_head {t : Tm} {p : List Tm} (h : PSorted (t :: p)) : pev (ind t.2) (t :: p) = t.1 := by
  rw [pev_cons, ev_ind_none (fun s hs => gt_ne (h.1 s hs)), ind, if_pos rfl]; grind
theorem pev_inj : ∀ {p q : List Tm}, Nrm p → Nrm q → (∀ φ, pev φ p = pev φ q) → p = q
  | [], [], _, _, _ => rfl
  | [], t :: q, _, hq, h => by
    have := h (ind t.2)
    rw [ev_ind_head hq.s, pev_nil] at this
    exact absurd this.symm (hq.z t (by simp))
  | t :: p, [], hp, _, h => by
    have := h (ind t.2)
    rw [ev_ind_head hp.s, pev_nil] at this
    exact absurd this (hp.z t (by simp))
  | s :: p, t :: q, hp, hq, h => by
    by_cases h1 : 0 < cmpM s.2 t.2
    · have := h (ind s.2)
      rw [ev_ind_head hp.s, ev_ind_none (fun x hx => ?_)] at this
      · exact absurd this (hp.z s (by simp))
      · rcases List.mem_cons.1 hx with rfl | hx
        · exact gt_ne h1
        · exact gt_ne (cmpM_gt_trans h1 (hq.s.1 x hx))
    · by_cases h2 : cmpM s.2 t.2 < 0
      · have h2' : 0 < cmpM t.2 s.2 := by have := cmpM_neg s.2 t.2; omega
        have := h (ind t.2)
        rw [ev_ind_head hq.s, ev_ind_none (fun x hx => ?_)] at this
        · exact absurd this.symm (hq.z t (by simp))
        · rcases List.mem_cons.1 hx with rfl | hx
          · exact gt_ne h2'
          · exact gt_ne (cmpM_gt_trans h2' (hp.s.1 x hx))
      · have e := cmpM_eq_of h1 h2 (hp.c s (by simp)) (hq.c t (by simp))
        have e2 := h (ind s.2)
        rw [ev_ind_head hp.s, e, ev_ind_head hq.s] at e2
        have e3 : s = t := Prod.ext e2 e
        subst e3
        rw [pev_inj hp.tail hq.tail (fun φ => by have := h φ; rw [pev_cons, pev_cons] at this; grind)]
theorem psum_spec {φ : List Int → Rat} : ∀ (n : Nat) (l : List (List Tm)), l.length ≤ n → (∀ p ∈ l, Can p) → Can (psum l) ∧ pev φ (psum l) = (l.map (pev φ)).sum := by
  intro n
  induction n with
  | zero =>
    intro l hl _
    have : l = [] := List.length_eq_zero_iff.1 (by omega)
    subst this
    rw [psum]; exact ⟨Nrm.nil.c, rfl⟩
  | succ n ih =>
    intro l hl h
    match l, h with
    | [], _ => rw [psum]; exact ⟨Nrm.nil.c, rfl⟩
    | [p], h => rw [psum]; exact ⟨h p (by simp), by simp; grind⟩
    | p :: q :: r, h =>
      rw [psum_many (by simp)]
      generalize hL : p :: q :: r = L at *
      have hlen : 2 ≤ L.length := by rw [← hL]; simp
      obtain ⟨a1, a2⟩ := ih (L.take (L.length / 2)) (by rw [List.length_take]; omega) (fun x hx => h x (List.mem_of_mem_take hx))
      obtain ⟨b1, b2⟩ := ih (L.drop (L.length / 2)) (by rw [List.length_drop]; omega) (fun x hx => h x (List.mem_of_mem_drop hx))
      refine ⟨padd_can a1 b1, ?_⟩
      rw [pev_padd a1 b1, a2, b2, ← List.sum_append, ← List.map_append, List.take_append_drop]
theorem psum_nrm : ∀ (n : Nat) (l : List (List Tm)), l.length ≤ n → (∀ p ∈ l, Nrm p) → Nrm (psum l) := by
  intro n
  induction n with
  | zero =>
    intro l hl _
    have : l = [] := List.length_eq_zero_iff.1 (by omega)
    subst this
    rw [psum]; exact Nrm.nil
  | succ n ih =>
    intro l hl h
    match l, h with
    | [], _ => rw [psum]; exact Nrm.nil
    | [p], h => rw [psum]; exact h p (by simp)
    | p :: q :: r, h =>
      rw [psum_many (by simp)]
      generalize hL : p :: q :: r = L at *
      have hlen : 2 ≤ L.length := by rw [← hL]; simp
      exact padd_nrm (ih (L.take (L.length / 2)) (by rw [List.length_take]; omega) (fun x hx => h x (List.mem_of_mem_take hx)))
        (ih (L.drop (L.length / 2)) (by rw [List.length_drop]; omega) (fun x hx => h x (List.mem_of_mem_drop hx)))
theorem pev_ptimes (φ : List Int → Rat) (t : Tm) : ∀ (p : List Tm), pev φ (ptimes p t) = t.1 * pev (fun m => φ (mulM m t.2)) p
  | [] => by rw [ptimes, List.filterMap_nil, pev_nil, pev_nil]; grind
  | s :: p => by
    have ih := pev_ptimes φ t p
    rw [ptimes] at ih ⊢
    rw [List.filterMap_cons]
    by_cases h : s.1 * t.1 = 0
    · simp only [h, if_true, pev_cons]
      rw [ih]
      have : t.1 * (s.1 * φ (mulM s.2 t.2)) = (s.1 * t.1) * φ (mulM s.2 t.2) := by grind
      rw [Rat.mul_add, this, h]; grind
    · simp only [h, if_false, pev_cons]
      rw [ih]; grind
theorem ptimes_can (p : List Tm) (t : Tm) : Can (ptimes p t) := by
  intro x hx
  simp only [ptimes, List.mem_filterMap] at hx
  obtain ⟨y, hy, h⟩ := hx
  split at h
  · cases h
  · cases h; exact mulM_last _ _
theorem ptimes_nz (p : List Tm) (t : Tm) : NZ (ptimes p t) := by
  intro x hx
  simp only [ptimes, List.mem_filterMap] at hx
  obtain ⟨y, hy, h⟩ := hx
  split at h
  · cases h
  · rename_i h0; cases h; exact h0
theorem ptimes_sorted (t : Tm) : ∀ (p : List Tm), PSorted p → PSorted (ptimes p t)
  | [], _ => trivial
  | s :: p, hp => by
    have ih := ptimes_sorted t p hp.2
    rw [ptimes] at ih ⊢
    rw [List.filterMap_cons]
    split
    · exact ih
    · rename_i b hb
      split at hb
      · cases hb
      · cases hb
        refine ⟨fun x hx => ?_, ih⟩
        simp only [List.mem_filterMap] at hx
        obtain ⟨y, hy, h⟩ := hx
        split at h
        · cases h
        · cases h
          simp only [cmpM_mul]
          exact hp.1 y hy
theorem ptimes_nrm {p : List Tm} (t : Tm) (hp : PSorted p) : Nrm (ptimes p t) := ⟨ptimes_can _ _, ptimes_nz _ _, ptimes_sorted t p hp⟩
theorem sum_ptimes (φ : List Int → Rat) (q : List Tm) : ∀ (p : List Tm), ((p.map (ptimes q)).map (pev φ)).sum = pev (fun m => pev (fun n => φ (mulM m n)) q) p
  | [] => rfl
  | t :: p => by
    rw [List.map_cons, List.map_cons, List.sum_cons, sum_ptimes φ q p, pev_ptimes, pev_cons]
    congr 2
    exact pev_congr fun s _ => by rw [mulM_comm]
theorem pmul0_pev (φ : List Int → Rat) (p q : List Tm) : pev φ (pmul0 p q) = pev (fun m => pev (fun n => φ (mulM m n)) q) p := by
  rw [pmul0, (psum_spec (φ := φ) _ _ (Nat.le_refl _) ?_).2, sum_ptimes]
  intro x hx
  obtain ⟨t, _, rfl⟩ := List.mem_map.1 hx
  exact ptimes_can _ _
theorem pmul_pev (φ : List Int → Rat) (p q : List Tm) : pev φ (pmul p q) = pev (fun m => pev (fun n => φ (mulM m n)) q) p := by
  unfold pmul
  split
  · rw [pmul0_pev, pev_swap (fun m n => φ (mulM m n))]
    exact pev_congr fun s _ => pev_congr fun t _ => by rw [mulM_comm]
  · exact pmul0_pev φ p q
theorem pmul0_nrm {p q : List Tm} (hq : PSorted q) : Nrm (pmul0 p q) := psum_nrm _ _ (Nat.le_refl _) fun x hx => by
  obtain ⟨t, _, rfl⟩ := List.mem_map.1 hx
  exact ptimes_nrm t hq
theorem pmul_nrm {p q : List Tm} (hp : PSorted p) (hq : PSorted q) : Nrm (pmul p q) := by
  unfold pmul
  split
  · exact pmul0_nrm hp
  · exact pmul0_nrm hq
theorem pscale_pev (φ : List Int → Rat) {p : List Tm} (hp : Can p) (a : Rat) : pev φ (pscale p a) = a * pev φ p := by
  unfold pscale
  split
  · rename_i h; rw [h, pev_nil]; grind
  · rw [pev_ptimes]
    congr 1
    exact pev_congr fun s hs => by rw [mulM_nil (hp s hs)]
theorem pscale_nrm {p : List Tm} (hp : PSorted p) (a : Rat) : Nrm (pscale p a) := by
  unfold pscale
  split
  · exact Nrm.nil
  · exact ptimes_nrm _ hp
theorem pneg_pev (φ : List Int → Rat) {p : List Tm} (hp : Can p) : pev φ (pneg p) = - pev φ p := by
  rw [pneg, pscale_pev φ hp]; grind
theorem psub_pev (φ : List Int → Rat) {p q : List Tm} (hp : Can p) (hq : Nrm q) : pev φ (psub p q) = pev φ p - pev φ q := by
  rw [psub, pev_padd hp (show Can (pneg q) from (pscale_nrm hq.s _).c), pneg_pev φ hq.c]; grind
theorem psub_nrm {p q : List Tm} (hp : Nrm p) (hq : Nrm q) : Nrm (psub p q) := padd_nrm hp (pscale_nrm hq.s _)
end Go.FW
