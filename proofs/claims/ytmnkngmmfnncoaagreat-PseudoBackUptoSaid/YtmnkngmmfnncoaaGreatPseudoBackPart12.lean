/- Part 12 of the proof of PseudoBack: P5, U6, P6, V1, W12, FwNA, FwNB. Own lemmas; no conditions. -/
import Derived.Test.YtmnkngmmfnncoaaGreatPseudoBackPart11
set_option linter.unusedSimpArgs false
set_option linter.unnecessarySimpa false
set_option linter.unusedVariables false
namespace Go.Proofs.YtmnkngmmfnncoaaGreat
open Go Go.FW
set_option linter.unusedSimpArgs false
set_option linter.unusedVariables false
set_option maxRecDepth 100000
end Go.Proofs.YtmnkngmmfnncoaaGreat
namespace Go.Proofs.YtmnkngmmfnncoaaGreat
open Go Go.FW
set_option linter.unusedSimpArgs false
set_option linter.unusedVariables false
set_option maxRecDepth 100000
end Go.Proofs.YtmnkngmmfnncoaaGreat
namespace Go.Proofs.YtmnkngmmfnncoaaGreat
open Go Go.FW
set_option linter.unusedSimpArgs false
set_option linter.unusedVariables false
set_option maxRecDepth 100000
end Go.Proofs.YtmnkngmmfnncoaaGreat
namespace Go.Proofs.YtmnkngmmfnncoaaGreat
open Go Go.FW
set_option linter.unusedSimpArgs false
set_option linter.unusedVariables false
set_option maxRecDepth 100000
end Go.Proofs.YtmnkngmmfnncoaaGreat
namespace Go.Proofs.YtmnkngmmfnncoaaGreat
open Go Go.FW
set_option linter.unusedSimpArgs false
set_option linter.unusedVariables false
set_option maxRecDepth 100000
end Go.Proofs.YtmnkngmmfnncoaaGreat
namespace Go.FW
open Go
variable {C : Ctx} {ρ : Nat → Option Nat} {fr fr' : Fr} {hp : HP} {w : World} {K R : Qh}
theorem Qcs.known {p : PV} {v : Value} (h : Qcs C ρ hp w p v) : ∀ γ ∈ p.sref1, hp γ ≠ none := by
  intro γ hγ
  cases p with
  | mso β o n => simp [PV.sref1] at hγ; subst hγ; obtain ⟨_, hb, h1, _⟩ := h; simp [h1]
  | nso β o n => simp [PV.sref1] at hγ; subst hγ; obtain ⟨_, hb, b, cap, h1, _⟩ := h; simp [h1]
  | np β o n => cases h
  | _ => cases hγ
theorem Qb7.known {p : PV} {v : Value} (h : Qb7 C ρ hp w p v) : (∀ γ ∈ p.ref1, hp γ ≠ none) ∧ ∀ γ ∈ p.nref1, hp γ ≠ none := by
  cases p with
  | mp β i o => obtain ⟨b, hb, h1, h2, _⟩ := h; simp [PV.ref1, PV.nref1, h2]
  | mso β o n => obtain ⟨hb, h1, _⟩ := h; simp [PV.ref1, PV.nref1, h1]
  | rb β o n => obtain ⟨b, u, _, _, _, _, hb, h1, _⟩ := h; simp [PV.ref1, PV.nref1, h1]
  | np γ i o => obtain ⟨_, b, hb, h1, h2, _⟩ := h; simp [PV.ref1, PV.nref1, h2]
  | nso γ o n => obtain ⟨_, hb, b, cap, h1, _⟩ := h; simp [PV.ref1, PV.nref1, h1]
  | _ => exact ⟨(fun γ hγ => by cases hγ), (fun γ hγ => by cases hγ)⟩
theorem Ql.known {p : PV} {v : Value} (h : Ql C ρ hp w p v) : (∀ γ ∈ p.refs, hp γ ≠ none) ∧ ∀ γ ∈ p.sref, hp γ ≠ none := by
  cases p with
  | mp β i o => obtain ⟨b, hb, h1, h2, _⟩ := h; simp [PV.refs, PV.sref, h2]
  | mso β o n => obtain ⟨hb, h1, _⟩ := h; simp [PV.refs, PV.sref, h1]
  | rb β o n => obtain ⟨b, u, _, _, _, _, hb, h1, _⟩ := h; simp [PV.refs, PV.sref, h1]
  | np γ i o => obtain ⟨_, b, hb, h1, h2, _⟩ := h; simp [PV.refs, PV.sref, h2]
  | nso γ o n => obtain ⟨_, hb, b, cap, h1, _⟩ := h; simp [PV.refs, PV.sref, h1]
  | rag cs =>
    obtain ⟨vs, _, _, h2⟩ := h
    refine ⟨fun γ hγ => (by cases hγ), fun γ hγ => ?_⟩
    obtain ⟨x, hx, hγ⟩ := List.mem_flatMap.1 hγ
    obtain ⟨i, hi⟩ := List.getElem?_of_mem hx
    exact (h2 i x hi).known γ hγ
  | nst β e ty xs =>
    obtain ⟨_, _, b, hb, cur, cap, _, g2, _, _, _, _, _, _, _, _, h11⟩ := h
    refine ⟨fun γ hγ => (by cases hγ), fun γ hγ => ?_⟩
    rcases List.mem_cons.1 hγ with rfl | hγ
    · simp [g2]
    · obtain ⟨x, hx, hγ⟩ := List.mem_flatMap.1 hγ
      obtain ⟨y, hy, hγ⟩ := List.mem_flatMap.1 hγ
      obtain ⟨i, hi⟩ := List.getElem?_of_mem hx
      obtain ⟨j, hj⟩ := List.getElem?_of_mem hy
      exact (h11 i x hi j y hj).known γ hγ
  | fn f first cap =>
    obtain ⟨fv, cv, _, _, _, h3, h4⟩ := h
    have g : ∀ (l : List PV) (u : Array Value), (∀ (i : Nat) (x : PV), l[i]? = some x → Qb7 C ρ hp w x (u.getD i undef)) → (∀ γ ∈ l.flatMap PV.ref1, hp γ ≠ none) ∧ ∀ γ ∈ l.flatMap PV.nref1, hp γ ≠ none := by
      intro l u hl
      refine ⟨fun γ hγ => ?_, fun γ hγ => ?_⟩ <;>
      · obtain ⟨x, hx, hγ⟩ := List.mem_flatMap.1 hγ
        obtain ⟨i, hi⟩ := List.getElem?_of_mem hx
        first | exact (hl i x hi).known.1 γ hγ | exact (hl i x hi).known.2 γ hγ
    refine ⟨fun γ hγ => ?_, fun γ hγ => ?_⟩
    · rcases List.mem_append.1 hγ with hγ | hγ
      · exact (g first fv h3).1 γ hγ
      · exact (g cap cv h4).1 γ hγ
    · rcases List.mem_append.1 hγ with hγ | hγ
      · exact (g first fv h3).2 γ hγ
      · exact (g cap cv h4).2 γ hγ
  | _ => exact ⟨(fun γ hγ => by cases hγ), (fun γ hγ => by cases hγ)⟩
def isN (β : Nat) : Bool := decide (2000000 ≤ β)
def Qe7 : PV → PV
  | .nst _ _ _ _ => .undef
  | p => if p.refs.any isN || p.sref.any isN then .undef else p
def Q8r (F : Fr) : Fr := fun s => Qe7 (F s)
def Cln (p : PV) : Prop := (∀ β ∈ p.refs, isN β = false) ∧ (∀ β ∈ p.sref, isN β = false) ∧ ∀ γ e ty xs, p ≠ .nst γ e ty xs
theorem Q8s (p : PV) : Cln (Qe7 p) := by
  have h0 : Cln .undef := ⟨(fun β h => by cases h), (fun β h => by cases h), (fun _ _ _ _ h => by cases h)⟩
  unfold Qe7
  split
  · exact h0
  · rename_i hn
    split
    · exact h0
    · rename_i h
      simp only [Bool.or_eq_true, not_or, Bool.not_eq_true, List.any_eq_false] at h
      exact ⟨fun β hβ => by simpa using h.1 β hβ, fun β hβ => by simpa using h.2 β hβ, fun γ e ty xs => hn γ e ty xs⟩
theorem Cln.kill {p : PV} (h : Cln p) {B : List Nat} : Cln (if p.refs.any B.contains then .undef else p) := by
  split
  · exact ⟨(fun β h => by cases h), (fun β h => by cases h), (fun _ _ _ _ h => by cases h)⟩
  · exact h
theorem Qtm {β : Nat} {p : PV} (h : ∀ γ ∈ p.refs, γ ≠ β) : Qal β p = p := by
  unfold Qal
  rw [if_neg]
  intro hc
  exact h β (by simpa using hc) rfl
theorem Q25 {β : Nat} {p : PV} (h : ∀ γ ∈ p.sref1, γ ≠ β) : Qfy β p = p := by
  cases p with
  | mso γ o n => simp only [Qfy]; rw [if_neg (h γ (by simp [PV.sref1]))]
  | nso γ o n => simp only [Qfy]; rw [if_neg (h γ (by simp [PV.sref1]))]
  | _ => rfl
theorem Q26 {β : Nat} {p : PV} (h : ∀ γ ∈ p.refs, γ ≠ β) (h2 : ∀ γ ∈ p.sref, γ ≠ β) (h3 : ∀ γ e ty xs, p ≠ .nst γ e ty xs) : Qbf β p = p := by
  cases p with
  | nst γ e ty xs => exact absurd rfl (h3 _ _ _ _)
  | rag cs =>
    simp only [Qbf]
    congr 1
    conv => rhs; rw [← List.map_id cs]
    exact List.map_congr_left fun x hx => Q25 fun γ hγ => h2 γ (List.mem_flatMap.2 ⟨x, hx, hγ⟩)
  | nso γ o n => simp only [Qbf]; rw [if_neg (h2 γ (by simp [PV.sref]))]
  | np γ i o => simp only [Qbf]; rw [if_neg (h2 γ (by simp [PV.sref]))]
  | fn f first cap =>
    simp only [Qbf]
    rw [if_neg, Qtm h]
    intro hc
    exact h2 β (by simpa [PV.sref] using hc) rfl
  | _ => exact Qtm h
theorem Q27 {β γ : Nat} (h : 2000000 ≤ β) (h2 : isN γ = false) : γ ≠ β := by
  simp [isN] at h2; omega
abbrev bse (B : List Nat) (F : Fr) : Fr := Qaf B (Q8r F)
theorem Qyt (B : List Nat) (F : Fr) (s : Nat) : Cln (bse B F s) := (Q8s (F s)).kill
theorem Q28 {β : Nat} {B : List Nat} {F : Fr} (h : 2000000 ≤ β) : Qdu β (bse B F) = bse B F := by
  funext s
  have hc := Qyt B F s
  exact Q26 (fun γ hγ => Q27 h (hc.1 γ hγ)) (fun γ hγ => Q27 h (hc.2.1 γ hγ)) hc.2.2
theorem Q29 {γ : Nat} {B : List Nat} {F : Fr} : Qdt γ (bse B F) = bse B F := by
  funext s
  have hc := Qyt B F s
  show Qds γ (bse B F s) = _
  generalize bse B F s = p at *
  cases p with
  | nst γ' e ty xs => exact absurd rfl (hc.2.2 _ _ _ _)
  | _ => rfl
theorem Q3a {W : List (Nat × Nat)} {β : Nat} {J F : Fr} : Qdu β (ovr W J F) = ovr W (Qdu β J) (Qdu β F) := by
  funext s; unfold Qdu ovr; split <;> rfl
theorem Q3b {W : List (Nat × Nat)} {β : Nat} {J F : Fr} : Qdt β (ovr W J F) = ovr W (Qdt β J) (Qdt β F) := by
  funext s; unfold Qdt ovr; split <;> rfl
theorem Q3c {β d : Nat} {F : Fr} {v : PV} : Qdu β (upd F d v) = upd (Qdu β F) d (Qbf β v) := by
  funext s; unfold Qdu upd; split <;> rfl
theorem Q3d {β d : Nat} {F : Fr} {v : PV} : Qdt β (upd F d v) = upd (Qdt β F) d (Qds β v) := by
  funext s; unfold Qdt upd; split <;> rfl
theorem Q8t {β : Nat} {F : Fr} {s : Nat} : Qdu β F s = Qbf β (F s) := rfl
theorem Q8u {β : Nat} {F : Fr} {s : Nat} : Qdt β F s = Qds β (F s) := rfl
theorem Qac8 (W : List (Nat × Nat)) (B : List Nat) : Fle fr (ovr W fr (bse B fr)) := fun s => by
  unfold ovr bse Qaf
  split
  · exact .inl rfl
  · split
    · exact .inr rfl
    · unfold Q8r Qe7
      split
      · exact .inr rfl
      · split
        · exact .inr rfl
        · exact .inl rfl
theorem Q8v {sk : List It} {x : SC} (hok : Qc7 R sk) (W : List (Nat × Nat)) (B : List Nat) (I : Nat → Fr → HP → Prop) (m0 : Nat) (h0 : I m0 fr hp)
    (h : ∀ m J hp, I m J hp → vc C R (.c x :: .el (Ql7 W (bse B fr) I m) :: sk) (ovr W J (bse B fr)) hp) : vc C R (.c (.loop x) :: sk) fr hp := by
  refine Qhv (fun m fr' hp' => ∃ J, fr' = ovr W J (bse B fr) ∧ I m J hp') m0 (Qac8 W B).wk ⟨fr, rfl, h0⟩ ?_
  rintro m _ hp' ⟨J, rfl, hI⟩
  refine Qje hok.1 _ _ _ _ _ _ (Nat.le_refl _) (.c x (.el ?_ hok.2)) (Fle.refl _) (h m J hp' hI)
  rintro f f' hp2 hf ⟨J2, hp3, m2, e2, hl, h2⟩
  exact Qpm hl (hf.wk.trans e2) ⟨J2, rfl, h2⟩
def Qbn (l : List (Nat × Nat)) : List PV := l.map fun x => .mso x.1 0 x.2
def Qoo (B n : Nat) : List (Nat × Nat) := (List.range n).map fun i => (B + i, 0)
def Qrl (d : Nat) (S : List Nat) (γ n : Nat) (x : PV) (fr : Fr) : Fr := fun s => if s = γ then x else if S.contains s then .nso γ 0 n else Qal d (fr s)
def hpN (d γ B n e ty e' ty' : Nat) (hp : HP) : HP := fun β => if β = d then none else if β = γ then some ⟨e, ty, [], false⟩ else if B ≤ β ∧ β < B + n then some ⟨e', ty', [], false⟩ else hp β
theorem Qac9 (d γ B n ty e' ty' : Nat) (S : List Nat) (hn : 0 < n) (hd : hp d = some ⟨1, ty, List.replicate n .nilS, false⟩) (hdB : isB d = false) (he' : 0 < e')
    (hγ : 2000000 ≤ γ) (hB : 2000000 ≤ B) (hγB : ¬ (B ≤ γ ∧ γ < B + n)) (h1 : hp γ = none) (h2 : ∀ i, i < n → hp (B + i) = none) (hS : ∀ s ∈ S, fr s = .ms d n) :
    Wk fr hp (Qrl d S γ n (.nst γ 1 ty (Qbn (Qoo B n))) fr) (hpN d γ B n 1 ty e' ty' hp) := by
  rintro C tmps w ⟨ρ, hs⟩
  have hown := hs.own d _ hd
  have hblk := hown.blk
  obtain ⟨b, hρ⟩ : ∃ b, ρ d = some b := by
    cases hq : ρ d with
    | none => rw [hq] at hblk; simp at hblk; omega
    | some b => exact ⟨b, rfl⟩
  rw [hρ] at hblk
  simp only [Qi2 hdB] at hblk
  obtain ⟨hb1, hb2, cur, cap, c1, c2, c3, c4, c5⟩ := hblk
  have hdl : d < 1000000 := by simp [isB] at hdB; exact hdB
  have hBd : ∀ i, B + i ≠ d := fun i => by omega
  generalize hpE : hpN d γ B n 1 ty e' ty' hp = hp'
  obtain ⟨ρ', hρE⟩ : ∃ f : Nat → Option Nat, f = fun β => if β = γ then some b else if B ≤ β ∧ β < B + n then none else ρ β := ⟨_, rfl⟩
  have pγ : hp' γ = some ⟨1, ty, [], false⟩ := by subst hpE; simp only [hpN, if_neg (show ¬ γ = d by omega), if_true]
  have pd : hp' d = none := by subst hpE; simp only [hpN, if_true]
  have pB : ∀ β, B ≤ β ∧ β < B + n → hp' β = some ⟨e', ty', [], false⟩ := fun β hβ => by
    subst hpE; simp only [hpN]
    rw [if_neg (by omega), if_neg (by rintro rfl; exact hγB hβ), if_pos hβ]
  have po : ∀ β, β ≠ d → β ≠ γ → ¬ (B ≤ β ∧ β < B + n) → hp' β = hp β := fun β a1 a2 a3 => by
    subst hpE; simp only [hpN]; rw [if_neg a1, if_neg a2, if_neg a3]
  have rγ : ρ' γ = some b := by subst hρE; simp only [if_true]
  have rB : ∀ β, B ≤ β ∧ β < B + n → ρ' β = none := fun β hβ => by subst hρE; simp only []; rw [if_neg (by rintro rfl; exact hγB hβ), if_pos hβ]
  have ro : ∀ β, β ≠ γ → ¬ (B ≤ β ∧ β < B + n) → ρ' β = ρ β := fun β a2 a3 => by subst hρE; simp only []; rw [if_neg a2, if_neg a3]
  have hBn : ∀ β, B ≤ β ∧ β < B + n → hp β = none := fun β hβ => by
    have := h2 (β - B) (by omega)
    rwa [show B + (β - B) = β by omega] at this
  have hX : ∀ c, Xof C ρ' hp' c → Xof C ρ hp c := by
    rintro c (hx | ⟨β, hb, g1, g2, g3⟩)
    · exact .inl hx
    · by_cases e1 : β = γ
      · subst e1; rw [rγ] at g3; cases g3; exact .inr ⟨d, _, hd, rfl, hρ⟩
      · by_cases e2 : B ≤ β ∧ β < B + n
        · rw [rB β e2] at g3; cases g3
        · by_cases e3 : β = d
          · rw [e3, pd] at g1; cases g1
          · rw [po β e3 e1 e2] at g1; rw [ro β e1 e2] at g3; exact .inr ⟨β, hb, g1, g2, g3⟩
  have hst : Qi4 w w (Xof C ρ hp) (Xof C ρ' hp') := ⟨fun _ _ _ => rfl, fun c _ hn hx => hn (hX c hx), Nat.le_refl _⟩
  have hcnd : ∀ β, hp β ≠ none → β ≠ d → Cnd ρ ρ' hp hp' w w β := fun β hk hne => by
    have a1 : β ≠ γ := fun e => hk (by rw [e]; exact h1)
    have a2 : ¬ (B ≤ β ∧ β < B + n) := fun e => hk (hBn β e)
    refine ⟨ro β a1 a2, fun hb hβ => ⟨hb, by rw [po β hne a1 a2]; exact hβ, rfl, Nat.le_refl _, fun _ _ _ h => h, fun h => ⟨h, rfl, fun _ _ => rfl⟩⟩⟩
  have hcap : ∀ cap', Qa1 w b 1 cap' → cap' = cap := by
    rintro cap' ⟨cur', ty', d1, d2⟩
    rw [c1] at d1; cases d1
    simp only [Nat.mul_one] at c2 d2; omega
  refine ⟨ρ', hs.sz, hs.ext, hs.keep, fun β hb hβ => ?_, fun β β' c g1 g2 g3 g4 => ?_, fun i => ?_⟩
  · by_cases e1 : β = γ
    · subst e1
      rw [pγ] at hβ; cases hβ
      refine ⟨Nat.one_pos, fun i x hx => by simp at hx, ?_⟩
      rw [rγ]
      have : isY β = false := by simp [isY]; omega
      simp only [this]
      exact ⟨hb1, hb2, cur, cap, c1, c2, Nat.zero_le _, c4, fun i x hx => by simp at hx⟩
    · by_cases e2 : B ≤ β ∧ β < B + n
      · rw [pB β e2] at hβ; cases hβ
        refine ⟨he', fun i x hx => by simp at hx, ?_⟩
        rw [rB β e2]
      · by_cases e3 : β = d
        · rw [e3, pd] at hβ; cases hβ
        · rw [po β e3 e1 e2] at hβ
          obtain ⟨q1, q2, q3⟩ := hs.own β hb hβ
          refine ⟨q1, q2, ?_⟩
          rw [ro β e1 e2]
          cases hq : ρ β with
          | none => rw [hq] at q3; exact q3
          | some c => rw [hq] at q3; exact ⟨q3.1, q3.2.1, q3.2.2.move rfl rfl rfl rfl hst.rc⟩
  · have key : ∀ β c, hp' β ≠ none → ρ' β = some c → (β = γ ∧ c = b) ∨ (β ≠ γ ∧ β ≠ d ∧ hp β ≠ none ∧ ρ β = some c) := fun β c g1 g3 => by
      by_cases e1 : β = γ
      · rw [e1, rγ] at g3; cases g3; exact .inl ⟨e1, rfl⟩
      · by_cases e2 : B ≤ β ∧ β < B + n
        · rw [rB β e2] at g3; cases g3
        · by_cases e3 : β = d
          · rw [e3, pd] at g1; exact absurd rfl g1
          · rw [po β e3 e1 e2] at g1; rw [ro β e1 e2] at g3; exact .inr ⟨e1, e3, g1, g3⟩
    rcases key β c g1 g3 with ⟨a1, a2⟩ | ⟨a1, a2, a3, a4⟩ <;> rcases key β' c g2 g4 with ⟨b1, b2⟩ | ⟨b1, b2, b3, b4⟩
    · rw [a1, b1]
    · rw [a2] at b4; exact absurd (hs.inj β' d b b3 (by simp [hd]) b4 hρ) b2
    · rw [b2] at a4; exact absurd (hs.inj β d b a3 (by simp [hd]) a4 hρ) a2
    · exact hs.inj β β' c a3 b3 a4 b4
  · show Ql C ρ' hp' w (Qrl d S γ n (.nst γ 1 ty (Qbn (Qoo B n))) fr i) _
    have isBγ : isB γ = true := by simp [isB]; omega
    unfold Qrl
    by_cases e1 : i = γ
    · rw [if_pos e1]
      refine ⟨isBγ, Nat.one_pos, b, _, cur, cap, rγ, pγ, rfl, rfl, rfl, c1, c2, by simpa [Qbn, Qoo] using c3, c4, fun j x hx => ?_, fun j x hx k y hy => ?_⟩
      · simp only [Qbn, Qoo, List.map_map, List.getElem?_map, Option.map_eq_some_iff] at hx
        obtain ⟨_, _, rfl⟩ := hx; rfl
      · simp only [Qbn, Qoo, List.map_map, List.getElem?_map, Option.map_eq_some_iff] at hx
        obtain ⟨j', hj', rfl⟩ := hx
        have hx0 := hj'
        rw [List.getElem?_range (by have := (List.getElem?_eq_some_iff.1 hj').1; simpa using this)] at hj'
        cases hj'
        have hjn : j < n := by have := (List.getElem?_eq_some_iff.1 hx0).1; simpa using this
        cases k with
        | succ k => cases hy
        | zero =>
          cases hy
          show Qcs C ρ' hp' w (.mso (B + j) 0 0) _
          have hv := c5 j .nilS (by simp [List.getElem?_replicate, hjn]) 0 .nilS rfl
          have e0 : cur.getD (j * 1 + 0) undef = .slice none 0 0 := by generalize cur.getD (j * 1 + 0) undef = u at hv; cases hv; rfl
          refine ⟨by simp [isB]; omega, ⟨e', ty', [], false⟩, pB _ ⟨by omega, by omega⟩, Nat.le_refl _, .inl ⟨rB _ ⟨by omega, by omega⟩, e0, rfl, rfl⟩⟩
    · rw [if_neg e1]
      by_cases e2 : S.contains i = true
      · rw [if_pos e2]
        have hi := hS i (by simpa using e2)
        have hsl := hs.slots i
        rw [hi] at hsl
        obtain ⟨hb, g1, g2, g3⟩ := hsl
        rw [hd] at g1; cases g1
        rcases g3 with ⟨g3, _⟩ | ⟨b', cap', g3, g4, g5, g6⟩
        · rw [hρ] at g3; cases g3
        · rw [hρ] at g3; cases g3
          have := hcap _ g5
          simp only [List.length_replicate] at c3
          exact ⟨isBγ, _, b, cap', pγ, rγ, g4, g5, g6, by omega⟩
      · rw [if_neg e2]
        have hk := Ql.kill (β := d) (hs.slots i)
        have hkn := hk.known
        refine hk.moveC hst (fun β hβ => (hcnd β (hkn.1 β hβ) (Qli β hβ).1).o) (fun β hβ => hcnd β (hkn.2 β hβ) fun e => ?_)
        have := hk.srefB β hβ
        rw [e, hdB] at this; cases this
theorem Q8w {sk : List It} {x : SC} (d γ B n ty e' ty' : Nat) (S : List Nat) (hn : 0 < n) (hd : hp d = some ⟨1, ty, List.replicate n .nilS, false⟩) (hdB : isB d = false) (he' : 0 < e')
    (hγ : 2000000 ≤ γ) (hB : 2000000 ≤ B) (hγB : ¬ (B ≤ γ ∧ γ < B + n)) (h1 : hp γ = none) (h2 : ∀ i, i < n → hp (B + i) = none) (hS : ∀ s ∈ S, fr s = .ms d n)
    (h : vc C R (.c (.loop x) :: sk) (Qrl d S γ n (.nst γ 1 ty (Qbn (Qoo B n))) fr) (hpN d γ B n 1 ty e' ty' hp)) : vc C R (.c (.loop x) :: sk) fr hp := by
  rw [Qdv] at h ⊢
  obtain ⟨I, μ, ⟨fr0, hp0, h3, h3'⟩, h4⟩ := h
  exact ⟨I, μ, ⟨fr0, hp0, (Qac9 d γ B n ty e' ty' S hn hd hdB he' hγ hB hγB h1 h2 hS).trans h3, h3'⟩, h4⟩
theorem Qnw {tmps : Array Value} (h : Q3 C ρ fr hp tmps w) {β b : Nat} {hb : HB} {l : List Nat} (hB : isY β = false) (hβ : hp β = some hb) (hl : β ∈ l) (hρ : ρ β = some b) : ¬ Xof C ρ (Qah hp l) b := by
  have hblk := (h.own β hb hβ).blk
  rw [hρ] at hblk
  rintro (hx | ⟨γ, hg, h1, h2, h3⟩)
  · exact h.notX0 (by simpa [hB] using hblk.1) hx
  · obtain ⟨hg0, g1, _, _, _, _, g6⟩ := Qki h1
    have := h.inj γ β b (by simp [g1]) (by simp [hβ]) h3 hρ
    subst this
    exact g6 h2 hl
theorem Qe4.snap {tmps : Array Value} (h : Q3 C ρ fr hp tmps w) {β o n : Nat} {v : Value} {l : List Nat} {hb : HB} (hr : Qe4 ρ hp w β o n v) (hB : isY β = false) (hl : β ∈ l) (hβ : hp β = some hb) : Qu w (Xof C ρ (Qah hp l)) (.sl hb.e ((hb.xs.drop o).take n)) v := by
  obtain ⟨hb', g1, g2, g3⟩ := hr
  rw [hβ] at g1; cases g1
  rcases g3 with ⟨g3, rfl, rfl, rfl⟩ | ⟨b, cap, g3, rfl, g5, g6⟩
  · simp only [List.take_zero]; exact .slE _ _ _ (Nat.zero_le _)
  · have hown := h.own β hb hβ
    have hblk := hown.blk
    rw [g3] at hblk
    obtain ⟨_, hlt, cur, cap', c1, c2, c3, c4, c5⟩ := hblk
    obtain ⟨cur', ty', d1, d2⟩ := g5
    rw [c1] at d1; cases d1
    have hcc : o + cap = cap' := by
      rw [c2] at d2
      exact (Nat.eq_of_mul_eq_mul_right hown.epos d2).symm
    subst hcc
    have hlen : ((hb.xs.drop o).take n).length = n := by simp; omega
    have hget : ∀ (i : Nat) (x : PV), ((hb.xs.drop o).take n)[i]? = some x → i < n ∧ hb.xs[o + i]? = some x := fun i x hx => by
      have hi : i < n := by have := (List.getElem?_eq_some_iff.1 hx).1; omega
      rw [List.getElem?_take_of_lt hi, List.getElem?_drop] at hx
      exact ⟨hi, hx⟩
    have := Qu.sl (w := w) (X := Xof C ρ (Qah hp l)) hb.e ((hb.xs.drop o).take n) b (o * hb.e) cap (fun i j => cur.getD ((o + i) * hb.e + j) undef) (Qnw h hB hβ hl g3) hlt (by omega) (by omega)
      (fun i x hx => (hown.len _ x (hget i x hx).2).1)
      (fun i hi j hj => by
        rw [hlen] at hi
        have := Qeu (i := o + i) (e := hb.e) (o := 0) (j := j) (n := hb.e) (cap := o + cap) (by omega) (by omega) hj
        rw [Nat.add_zero] at this
        rw [show o * hb.e + i * hb.e + j = (o + i) * hb.e + j by rw [Nat.add_mul]]
        exact Qa8 c1 (by rw [c2]; exact this))
      (fun i x hx j y hy => (c5 _ x (hget i x hx).2 j y hy).freeze)
    rwa [hlen] at this
def Qkf (e' : Nat) (ys : Nat → List PV) (l : List (Nat × Nat)) : List PV := l.map fun x => .sl e' ((ys x.1).take x.2)
def Qwq (γ : Nat) (l : List (Nat × Nat)) (hp : HP) : HP := FW.Qah hp (γ :: l.map (·.1))
theorem Qada (s γ ty e' ty' m : Nat) (l : List (Nat × Nat)) (ys : Nat → List PV) (fz : Nat → Bool) (hn : m = l.length) (hfr : fr γ = .nst γ 1 ty (Qbn l)) (hs0 : fr s = .nso γ 0 m) (hγ : 2000000 ≤ γ) (hB : ∀ x ∈ l, 2000000 ≤ x.1)
    (hr : ∀ x ∈ l, hp x.1 = some ⟨e', ty', ys x.1, fz x.1⟩) : Wk fr hp (upd fr s (.sl 1 (Qkf e' ys l))) (Qwq γ l hp) := by
  subst hn
  rintro C tmps w ⟨ρ, hs⟩
  have hf := hs.freeze (γ :: l.map (·.1))
  refine ⟨ρ, hf.sz, hf.ext, hf.keep, hf.own, hf.inj, fun i => ?_⟩
  unfold upd
  split
  · rename_i hi; subst hi
    have h1 := hs.slots γ
    rw [hfr] at h1
    obtain ⟨_, _, b, hb, cur, cap, g1, g2, g3, g4, g5, g6, g7, g8, g9, g10, g11⟩ := h1
    have h2 := hs.slots i
    rw [hs0] at h2
    obtain ⟨_, hb', b', cap', k1, k2, k3, k4, k5, k6⟩ := h2
    rw [g2] at k1; cases k1
    rw [g1] at k2; cases k2
    generalize tmps.getD i undef = v at *
    subst k3
    have hY : isY γ = false := by simp [isY]; omega
    have hX : ¬ Xof C ρ (Qwq γ l hp) b := Qnw hs hY g2 (List.mem_cons_self ..) g1
    have hlt : b < w.heap.size := (Array.getElem?_eq_some_iff.1 g6).1
    have hlen : (Qkf e' ys l).length = l.length := by simp [Qkf]
    rw [g4] at k4
    obtain ⟨cur', ty'', k4, k7⟩ := k4
    rw [g6] at k4; cases k4
    have hm8 : l.length ≤ cap := by simpa [Qbn] using g8
    have hget : ∀ (i : Nat) (x : PV), (Qkf e' ys l)[i]? = some x → ∃ h : i < l.length, x = .sl e' ((ys l[i].1).take l[i].2) := fun i x hx => by
      have hi : i < l.length := by have := (List.getElem?_eq_some_iff.1 hx).1; omega
      simp [Qkf, List.getElem?_eq_getElem hi] at hx
      exact ⟨hi, hx.symm⟩
    have := Qu.sl (w := w) (X := Xof C ρ (Qwq γ l hp)) 1 (Qkf e' ys l) b 0 cap' (fun i j => cur.getD (i * 1 + j) undef) hX hlt (by rw [hlen]; exact k6) (by omega)
      (fun i x hx => by obtain ⟨_, rfl⟩ := hget i x hx; rfl)
      (fun i hi j hj => by
        rw [hlen] at hi
        rw [Nat.zero_add]
        exact Qa8 g6 (by omega))
      (fun i x hx j y hy => by
        obtain ⟨hi, rfl⟩ := hget i x hx
        cases j with
        | succ j => cases hy
        | zero =>
          cases hy
          have hrow : (Qbn l)[i]? = some (.mso l[i].1 0 l[i].2) := by simp [Qbn, List.getElem?_eq_getElem hi]
          have := g11 i _ hrow 0 _ rfl
          have hB' := hB _ (List.getElem_mem hi)
          have hq := Qe4.snap (l := γ :: l.map (·.1)) hs this.2 (by simp [isY]; omega) (List.mem_cons_of_mem _ (List.mem_map.2 ⟨_, List.getElem_mem hi, rfl⟩)) (hr _ (List.getElem_mem hi))
          exact hq)
    rw [hlen] at this
    rw [Nat.zero_mul]
    exact this
  · exact hf.slots i
def Qnx (R : Qh) : Qh := fun fr hp => ∃ fr' hp', Wk fr hp fr' hp' ∧ R fr' hp'
theorem Qadb {hp' : HP} (hw : Wk fr hp fr' hp') (h : R fr' hp') : Qnx R fr hp := ⟨fr', hp', hw, h⟩
theorem Q3e (h : R fr hp) : Qnx R fr hp := ⟨fr, hp, Wk.refl _ _, h⟩
theorem Qadc : KM (Qnx R) (Qnx R) := by
  rintro f f' hp hf ⟨fr', hp', h1, h2⟩
  exact ⟨fr', hp', hf.wk.trans h1, h2⟩
theorem Qs : Qc7 (Qnx R) [] := ⟨Qadc, .nil⟩
theorem Q3f {P : Program} {f : FuncId} {fn : Func} {sf : SFn} {args : List PV} {Rr : PV → Prop} (hm : P.follows .mixedOrders = true) (hf : P.funcs[f]? = some fn) (hname : (fn.name != "runtime.NumGoroutine") = true) (hc : Qf P fn = some sf) (hn : args.length ≤ sf.n ∧ sf.n ≤ 1000000)
    (hv : ∀ C : Ctx, C.P = P → vc C (Qnx (Qd6 sf.rs Rr)) [.c sf.body] (Qfc args) hp0) : Qe P f args Rr := by
  simp only [Qf, Option.bind_eq_some_iff, Option.map_eq_some_iff] at hc
  obtain ⟨c, hb, sb, hcb, rs, hrs, rfl⟩ := hc
  refine ⟨by simp [Qlo, hf, hb]; simpa using hname, fun w X vals hX hsz hrep => ?_⟩
  let C : Ctx := ⟨P, fn.ntmps, w, X, hX, hn.2, Qa7, fun _ h => h.elim⟩
  refine calls_of_wp hf hb ?_
  have hsz' : (vals ++ Array.replicate (fn.ntmps - vals.size) undef).size = fn.ntmps := by simp at hn ⊢; omega
  have hsim : Sim C (Qfc args) hp0 (vals ++ Array.replicate (fn.ntmps - vals.size) undef) w := by
    refine ⟨fun _ => none, hsz', Ext.refl _ _, fun _ h => h.elim, by simp [hp0], by simp [hp0], fun i => ?_⟩
    unfold Qfc
    cases hi : args[i]? with
    | none => trivial
    | some p =>
      simp only [Option.getD_some]
      have hil : i < vals.size := by rw [hsz]; exact (List.getElem?_eq_some_iff.1 hi).1
      have hr := hrep i p hi
      have e : (vals ++ Array.replicate (fn.ntmps - vals.size) undef).getD i undef = vals.getD i undef := by
        rw [Qbp, if_pos hil]
      rw [e]
      refine Ql.ofData (hr.mono (fun _ _ _ => rfl) (fun b _ hn hx => ?_) (Nat.le_refl _))
      rcases hx with hx | ⟨_, _, h1, _⟩
      · exact hn hx
      · simp [hp0] at h1
  have fin : ∀ (fr : Fr) (hp : HP) (a : Act) (w' : World), a.defers = [] → Sim C fr hp a.tmps w' → Qnx (Qd6 rs Rr) fr hp →
      a.defers = [] ∧ ∃ v, (results fn a.tmps).run P w' = .ok v w' ∧ ∃ v' r, Ending.returned v = .returned v' ∧ Ext Qa7 w w' ∧ Qc3 w' X r v' ∧ Rr r := by
    rintro fr hp a w' hd hs0 ⟨fr1, hp1, hw, hr⟩
    obtain ⟨ρ, hs⟩ := hw C _ _ hs0
    obtain ⟨v, r, h1, h2, h3⟩ := Qna (C := C) rfl hrs hs hr
    exact ⟨hd, v, h1, v, r, rfl, hs.ext, h2, h3⟩
  exact Qih (C := C) (R := Qnx (Qd6 rs Rr)) hm c sb [] _ (Qfc args) hp0 _ w hcb ⟨fun fr hp a w' hd hs hv => (by rw [Qjb] at hv; exact fin fr hp a w' hd hs hv), fun id sk' he => (by simp [FW.Qaa] at he), fin⟩ rfl hsim (hv C rfl)
theorem Qadd {d γ m i : Nat} {k : IntKind} (h : i < m) (he : (hp γ).map (·.e) = some 1) : Qen 1 (.nso γ 0 m) (.int k (i : Int)) d fr hp K = K (upd fr d (.np γ i 0)) hp := by
  have e : (0 : Int) ≤ (i : Int) := by omega
  simp [Qen, e, h, he]
theorem Qade {d γ o m : Nat} : Qkh (.nso γ o m) d fr hp K = K (upd fr d (.int .i64 m)) hp := rfl
theorem Qagj {d γ i ty : Nat} {l : List (Nat × Nat)} (hγ : fr γ = .nst γ 1 ty (Qbn l)) (h : i < l.length) : ldK 1 false (.np γ i 0) d fr hp K = K (upd fr d (.ms (l[i]'h).1 (l[i]'h).2)) hp := by
  have hh : ∃ h : i < l.length, K (upd fr d (.ms (l[i]'h).1 (l[i]'h).2)) hp ↔ K (upd fr d (.ms (l[i]'h).1 (l[i]'h).2)) hp := ⟨h, Iff.rfl⟩
  simp only [ldK, hγ]
  have h2 : i < (Qbn l).length := by simpa [Qbn] using h
  simp only [h2, exists_true_left, true_and, Nat.le_refl, Nat.zero_add, implies_true]
  simp [ldN, Qbn, PV.ncells, PV.cells]
theorem Qagk {γ i ty m β : Nat} {l : List (Nat × Nat)} {fz : Bool} {e0 ty0 : Nat} {xs0 : List PV} (hγ : fr γ = .nst γ 1 ty ((Qbn l).set i .undef)) (hh : hp γ = some ⟨e0, ty0, xs0, false⟩) (h : i < l.length) (hB : isB β = true) :
    stK 1 (.np γ i 0) (.ms β m) fr hp K = K (upd (Qdt γ fr) γ (.nst γ 1 ty (Qbn (l.set i (β, m))))) hp := by
  simp only [stK, hγ]
  have h2 : i < ((Qbn l).set i .undef).length := by simpa [Qbn] using h
  simp only [h2, exists_true_left, true_and, Nat.le_refl, Nat.zero_add, stN, hB, if_true, List.length_cons, List.length_nil, hh, Option.some.injEq, exists_eq_left']
  simp [Qm0, Qm1, Qbn, PV.ncells, PV.cells, List.map_set]
theorem Qadf {e by_ ty ty' d β γ n : Nat} {xs : List PV} {y : PV} {fz : Bool} (hb : hp β = some ⟨e, ty, xs, false⟩) (hy : hp γ = some ⟨e, ty', [y], fz⟩) (h0 : 0 < e) (hn : n = xs.length) (h1 : (n + 1) * by_ ≤ 140737488355328) (h2 : n + 1 ≤ 9223372036854775807) (hB : 2000000 ≤ β) :
    Qef e by_ ty (.ms β n) (.ms γ 1) d fr hp K = K (upd (Qdu β fr) d (.ms β (n + 1))) (Qo hp β ⟨e, ty, xs ++ [y], false⟩) := by
  subst hn
  have b1 : isB β = true := by simp [isB]; omega
  have b2 : isY β = false := by simp [isY]; omega
  simp [Qef, Qdn, hy, hb, h0, b1, b2, h1, h2]
theorem Qxq {α : Type} {f : α → PV} {y : α} {e by_ ty ty' d β γ n : Nat} {xs : List α} {fz : Bool} (hb : hp β = some ⟨e, ty, xs.map f, false⟩) (hy : hp γ = some ⟨e, ty', [f y], fz⟩) (h0 : 0 < e) (hn : n = xs.length) (h1 : (n + 1) * by_ ≤ 140737488355328) (h2 : n + 1 ≤ 9223372036854775807) (hB : 2000000 ≤ β) :
    Qef e by_ ty (.ms β n) (.ms γ 1) d fr hp K = K (upd (Qdu β fr) d (.ms β (n + 1))) (Qo hp β ⟨e, ty, (xs ++ [y]).map f, false⟩) := by
  rw [Qadf hb hy h0 (by simp [hn]) h1 h2 hB]; simp
theorem Q3g {γ e ty k : Nat} {l : List (Nat × Nat)} (h : k < l.length) (hne : γ ≠ (l[k]'h).1) (hd : ∀ j (hj : j < l.length), l[j].1 = (l[k]'h).1 → j = k) : Qbf (l[k]'h).1 (.nst γ e ty (Qbn l)) = .nst γ e ty ((Qbn l).set k .undef) := by
  simp only [Qbf, if_neg hne]
  congr 1
  refine List.ext_getElem (by simp [Qbn]) fun j h1 h2 => ?_
  have hj : j < l.length := by simpa [Qbn] using h1
  simp only [Qbn, List.getElem_map, List.getElem_set, PV.ncells, PV.cells, List.map_cons, List.map_nil, Qm0, Qfy]
  by_cases e : j = k
  · subst e; simp
  · rw [if_neg fun e2 => e (hd j hj e2), if_neg fun e2 => e e2.symm]
theorem Q3h {β γ o n : Nat} (h : γ ≠ β) : Qbf β (.nso γ o n) = .nso γ o n := by simp only [Qbf]; rw [if_neg h]
theorem Q8x {β γ o n : Nat} (h : γ ≠ β) : Qbf β (.np γ o n) = .np γ o n := by simp only [Qbf]; rw [if_neg h]
theorem Qagl :
    (∀ (β : Nat) (k : IntKind) (n : Int), Qbf β (.int k n) = .int k n) ∧
    (∀ (β : Nat) (b : Bool), Qbf β (.bool b) = .bool b) ∧
    (∀ (β e : Nat) (xs : List PV), Qbf β (.sl e xs) = .sl e xs) ∧
    (∀ (β : Nat) (cs : List PV), Qbf β (.agg cs) = .agg cs) ∧
    (∀ (β : Nat) (cs : List PV), Qbf β (.pt cs) = .pt cs) ∧
    (∀ (β : Nat), Qbf β .nilS = .nilS) ∧
    (∀ (β : Nat), Qbf β .undef = .undef) ∧
    (∀ (γ : Nat) (k : IntKind) (n : Int), Qds γ (.int k n) = .int k n) ∧
    (∀ (γ : Nat) (b : Bool), Qds γ (.bool b) = .bool b) ∧
    (∀ (γ e : Nat) (xs : List PV), Qds γ (.sl e xs) = .sl e xs) ∧
    (∀ (γ : Nat) (cs : List PV), Qds γ (.agg cs) = .agg cs) ∧
    (∀ (γ : Nat) (cs : List PV), Qds γ (.pt cs) = .pt cs) ∧
    (∀ (γ : Nat), Qds γ .nilS = .nilS) ∧
    (∀ (γ : Nat), Qds γ .undef = .undef) ∧
    (∀ (γ β o n : Nat), Qds γ (.mso β o n) = .mso β o n) ∧
    (∀ (γ β o n : Nat), Qds γ (.mp β o n) = .mp β o n) ∧
    (∀ (γ β o n : Nat), Qds γ (.rb β o n) = .rb β o n) ∧
    (∀ (γ β o n : Nat), Qds γ (.nso β o n) = .nso β o n) ∧
    (∀ (γ β o n : Nat), Qds γ (.np β o n) = .np β o n) ∧
    (∀ (β γ o n : Nat), Qal β (.nso γ o n) = .nso γ o n) ∧
    (∀ (β γ o n : Nat), Qal β (.np γ o n) = .np γ o n) ∧
    (∀ (β γ e ty : Nat) (xs : List PV), Qal β (.nst γ e ty xs) = .nst γ e ty xs) ∧
    (∀ (β : Nat), Qal β .undef = .undef) ∧
    (∀ (β : Nat) (cs : List PV), Qal β (.pt cs) = .pt cs) := by
  refine ⟨?_, ?_, ?_, ?_, ?_, ?_, ?_, ?_, ?_, ?_, ?_, ?_, ?_, ?_, ?_, ?_, ?_, ?_, ?_, ?_, ?_, ?_, ?_, ?_⟩ <;> intros <;> rfl
theorem Q8y (β γ o n : Nat) : Qbf β (.mso γ o n) = if γ = β then .undef else .mso γ o n := Quy β γ o n
theorem Q8z (β γ o n : Nat) : Qbf β (.mp γ o n) = if γ = β then .undef else .mp γ o n := Quz β γ o n
end Go.FW
namespace Go.FW
open Go
variable {C : Ctx} {ρ : Nat → Option Nat} {fr fr' : Fr} {hp : HP} {w : World} {K R : Qh}
theorem Qadg {F : Fr} {s : Nat} : Q8r F s = Qe7 (F s) := rfl
theorem Qagm :
    (∀ (k : IntKind) (n : Int), Qe7 (.int k n) = .int k n) ∧
    (∀ (b : Bool), Qe7 (.bool b) = .bool b) ∧
    (∀ (e : Nat) (xs : List PV), Qe7 (.sl e xs) = .sl e xs) ∧
    (∀ (cs : List PV), Qe7 (.agg cs) = .agg cs) ∧
    (∀ (cs : List PV), Qe7 (.pt cs) = .pt cs) ∧
    (Qe7 .nilS = .nilS) ∧ (Qe7 .undef = .undef) ∧
    (∀ (β o n : Nat), Qe7 (.mso β o n) = if isN β then .undef else .mso β o n) ∧
    (∀ (β o n : Nat), Qe7 (.mp β o n) = if isN β then .undef else .mp β o n) ∧
    (∀ (β o n : Nat), Qe7 (.rb β o n) = if isN β then .undef else .rb β o n) ∧
    (∀ (β o n : Nat), Qe7 (.nso β o n) = if isN β then .undef else .nso β o n) ∧
    (∀ (β o n : Nat), Qe7 (.np β o n) = if isN β then .undef else .np β o n) := by
  refine ⟨fun _ _ => rfl, fun _ => rfl, fun _ _ => rfl, fun _ => rfl, fun _ => rfl, rfl, rfl, ?_, ?_, ?_, ?_, ?_⟩ <;> intros <;> simp [Qe7, PV.refs, PV.sref]
theorem Qafw {γ e ty : Nat} {xs ys : List PV} (h : xs = ys) : PV.nst γ e ty xs = .nst γ e ty ys := by rw [h]
def rws (B n : Nat) (L : Nat → Nat) : List (Nat × Nat) := (List.range n).map fun i => (B + i, L i)
theorem Qiv (B n : Nat) (L : Nat → Nat) : (rws B n L).length = n := by simp [rws]
theorem Qhc {B n i : Nat} {L : Nat → Nat} (h : i < (rws B n L).length) : (rws B n L)[i] = (B + i, L i) := by simp [rws]
theorem Qadh {B n i m : Nat} {L L' : Nat → Nat} (h : ∀ j, j < n → L' j = if j = i then m else L j) : (rws B n L).set i (B + i, m) = rws B n L' := by
  refine List.ext_getElem (by simp [rws]) fun j h1 h2 => ?_
  have hj : j < n := by simpa [rws] using h2
  rw [Qhc, List.getElem_set, Qhc, h j hj]
  split
  · rename_i e; subst e; simp
  · rename_i e; rw [if_neg fun e2 => e e2.symm]
theorem Q3i {γ e ty k B n : Nat} {L : Nat → Nat} (h : k < n) (hne : ¬ (B ≤ γ ∧ γ < B + n)) : Qbf (B + k) (.nst γ e ty (Qbn (rws B n L))) = .nst γ e ty ((Qbn (rws B n L)).set k .undef) := by
  have hk : k < (rws B n L).length := by rw [Qiv]; exact h
  have := Q3g (γ := γ) (e := e) (ty := ty) hk (by rw [Qhc]; simp only; omega) (fun j hj => by rw [Qhc, Qhc]; simp only; omega)
  rwa [Qhc] at this
theorem Qafx {d γ i ty B n : Nat} {L : Nat → Nat} (hγ : fr γ = .nst γ 1 ty (Qbn (rws B n L))) (h : i < n) : ldK 1 false (.np γ i 0) d fr hp K = K (upd fr d (.ms (B + i) (L i))) hp := by
  rw [Qagj hγ (by rw [Qiv]; exact h), Qhc]
theorem Qafy {γ i ty m B n : Nat} {L : Nat → Nat} {e0 ty0 : Nat} {xs0 : List PV} (hγ : fr γ = .nst γ 1 ty ((Qbn (rws B n L)).set i .undef)) (hh : hp γ = some ⟨e0, ty0, xs0, false⟩) (h : i < n) (hB : 1000000 ≤ B) :
    stK 1 (.np γ i 0) (.ms (B + i) m) fr hp K = K (upd (Qdt γ fr) γ (.nst γ 1 ty (Qbn (rws B n fun j => if j = i then m else L j)))) hp := by
  rw [Qagk (fz := false) hγ hh (by rw [Qiv]; exact h) (by simp [isB]; omega), Qadh fun j _ => rfl]
theorem Q80 {e' B n : Nat} {ys : Nat → List PV} {L : Nat → Nat} : Qkf e' ys (rws B n L) = (List.range n).map fun i => .sl e' ((ys (B + i)).take (L i)) := by
  simp [Qkf, rws]
theorem Q81 {d γ n : Nat} {S : List Nat} {x : PV} {s : Nat} : Qrl d S γ n x fr s = if s = γ then x else if S.contains s then .nso γ 0 n else Qal d (fr s) := rfl
theorem Qafz {d γ B n e ty e' ty' β : Nat} : hpN d γ B n e ty e' ty' hp β = if β = d then none else if β = γ then some ⟨e, ty, [], false⟩ else if B ≤ β ∧ β < B + n then some ⟨e', ty', [], false⟩ else hp β := rfl
theorem Qadi {d γ B n e ty e' ty' i : Nat} (h : i < n) (h1 : B + i ≠ d) (h2 : B + i ≠ γ) : hpN d γ B n e ty e' ty' hp (B + i) = some ⟨e', ty', [], false⟩ := by
  rw [Qafz, if_neg h1, if_neg h2, if_pos ⟨by omega, by omega⟩]
theorem Qadj {by_ ty d : Nat} {k k' : IntKind} {n c : Nat} (h2 : n ≤ c) (h3 : by_ * c ≤ 281474976710656) (h4 : c ≤ 9223372036854775807) :
    mkK 1 by_ ty .nilS (.int k (n : Int)) (.int k' (c : Int)) d fr hp K = K (upd (Qao d fr) d (.ms d n)) (Qo hp d ⟨1, ty, List.replicate n .nilS, false⟩) := by
  rw [Qy6 (e := 1) (by omega) rfl (by omega) (by omega) (by omega) (by omega)]; rfl
theorem Qaf0 {k c : Nat} (h : c < 3000000) : (3000000 + k = c) = False := by simp; omega
theorem Qadk {k c : Nat} (h : c < 3000000) : (c = 3000000 + k) = False := by simp; omega
theorem Qaf1 {k j : Nat} : (3000000 + k = 3000000 + j) = (k = j) := by simp
attribute [go_sem] Qaf0 Qadk Qaf1 Qadj Q81 Q3a Q3b Q3c Q3d Q8t Q8u Q28 Q29 Qagl Q8y Q8z Q3h Q8x Qadd Qade Qadg Qagm
end Go.FW
