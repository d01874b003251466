/- Part 12 of the proof of PseudoParts: P5, U6, P6, V1, W12, FwNA, FwNB. Own lemmas; no conditions. -/
import Derived.Test.YtmnkngmmfnncoaaGreatPseudoPartsPart11
set_option linter.unusedSimpArgs false
set_option linter.unnecessarySimpa false
set_option linter.unusedVariables false
namespace Go.Proofs.YtmnkngmmfnncoaaGreat
open Go Go.FW
set_option linter.unusedSimpArgs false
set_option linter.unusedVariables false
set_option maxRecDepth 100000
end Go.Proofs.YtmnkngmmfnncoaaGreat
namespace Go.Proofs.YtmnkngmmfnncoaaGreat
open Go Go.FW
set_option linter.unusedSimpArgs false
set_option linter.unusedVariables false
set_option maxRecDepth 100000
end Go.Proofs.YtmnkngmmfnncoaaGreat
namespace Go.Proofs.YtmnkngmmfnncoaaGreat
open Go Go.FW
set_option linter.unusedSimpArgs false
set_option linter.unusedVariables false
set_option maxRecDepth 100000
end Go.Proofs.YtmnkngmmfnncoaaGreat
namespace Go.Proofs.YtmnkngmmfnncoaaGreat
open Go Go.FW
set_option linter.unusedSimpArgs false
set_option linter.unusedVariables false
set_option maxRecDepth 100000
end Go.Proofs.YtmnkngmmfnncoaaGreat
namespace Go.Proofs.YtmnkngmmfnncoaaGreat
open Go Go.FW
set_option linter.unusedSimpArgs false
set_option linter.unusedVariables false
set_option maxRecDepth 100000
end Go.Proofs.YtmnkngmmfnncoaaGreat
namespace Go.FW
open Go
variable {C : Ctx} {ρ : Nat → Option Nat} {fr fr' : Fr} {hp : HP} {w : World} {K R : Qh}
theorem Qcg.known {p : PV} {v : Value} (h : Qcg C ρ hp w p v) : ∀ γ ∈ p.sref1, hp γ ≠ none := by
  intro γ hγ
  cases p with
  | mso β o n => simp [PV.sref1] at hγ; subst hγ; obtain ⟨_, hb, h1, _⟩ := h; simp [h1]
  | nso β o n => simp [PV.sref1] at hγ; subst hγ; obtain ⟨_, hb, b, cap, h1, _⟩ := h; simp [h1]
  | np β o n => cases h
  | _ => cases hγ
theorem Qb1.known {p : PV} {v : Value} (h : Qb1 C ρ hp w p v) : (∀ γ ∈ p.ref1, hp γ ≠ none) ∧ ∀ γ ∈ p.nref1, hp γ ≠ none := by
  cases p with
  | mp β i o => obtain ⟨b, hb, h1, h2, _⟩ := h; simp [PV.ref1, PV.nref1, h2]
  | mso β o n => obtain ⟨hb, h1, _⟩ := h; simp [PV.ref1, PV.nref1, h1]
  | rb β o n => obtain ⟨b, u, _, _, _, _, hb, h1, _⟩ := h; simp [PV.ref1, PV.nref1, h1]
  | np γ i o => obtain ⟨_, b, hb, h1, h2, _⟩ := h; simp [PV.ref1, PV.nref1, h2]
  | nso γ o n => obtain ⟨_, hb, b, cap, h1, _⟩ := h; simp [PV.ref1, PV.nref1, h1]
  | _ => exact ⟨(fun γ hγ => by cases hγ), (fun γ hγ => by cases hγ)⟩
theorem Qm.known {p : PV} {v : Value} (h : Qm C ρ hp w p v) : (∀ γ ∈ p.refs, hp γ ≠ none) ∧ ∀ γ ∈ p.sref, hp γ ≠ none := by
  cases p with
  | mp β i o => obtain ⟨b, hb, h1, h2, _⟩ := h; simp [PV.refs, PV.sref, h2]
  | mso β o n => obtain ⟨hb, h1, _⟩ := h; simp [PV.refs, PV.sref, h1]
  | rb β o n => obtain ⟨b, u, _, _, _, _, hb, h1, _⟩ := h; simp [PV.refs, PV.sref, h1]
  | np γ i o => obtain ⟨_, b, hb, h1, h2, _⟩ := h; simp [PV.refs, PV.sref, h2]
  | nso γ o n => obtain ⟨_, hb, b, cap, h1, _⟩ := h; simp [PV.refs, PV.sref, h1]
  | rag cs =>
    obtain ⟨vs, _, _, h2⟩ := h
    refine ⟨fun γ hγ => (by cases hγ), fun γ hγ => ?_⟩
    obtain ⟨x, hx, hγ⟩ := List.mem_flatMap.1 hγ
    obtain ⟨i, hi⟩ := List.getElem?_of_mem hx
    exact (h2 i x hi).known γ hγ
  | nst β e ty xs =>
    obtain ⟨_, _, b, hb, cur, cap, _, g2, _, _, _, _, _, _, _, _, h11⟩ := h
    refine ⟨fun γ hγ => (by cases hγ), fun γ hγ => ?_⟩
    rcases List.mem_cons.1 hγ with rfl | hγ
    · simp [g2]
    · obtain ⟨x, hx, hγ⟩ := List.mem_flatMap.1 hγ
      obtain ⟨y, hy, hγ⟩ := List.mem_flatMap.1 hγ
      obtain ⟨i, hi⟩ := List.getElem?_of_mem hx
      obtain ⟨j, hj⟩ := List.getElem?_of_mem hy
      exact (h11 i x hi j y hj).known γ hγ
  | fn f first cap =>
    obtain ⟨fv, cv, _, _, _, h3, h4⟩ := h
    have g : ∀ (l : List PV) (u : Array Value), (∀ (i : Nat) (x : PV), l[i]? = some x → Qb1 C ρ hp w x (u.getD i undef)) → (∀ γ ∈ l.flatMap PV.ref1, hp γ ≠ none) ∧ ∀ γ ∈ l.flatMap PV.nref1, hp γ ≠ none := by
      intro l u hl
      refine ⟨fun γ hγ => ?_, fun γ hγ => ?_⟩ <;>
      · obtain ⟨x, hx, hγ⟩ := List.mem_flatMap.1 hγ
        obtain ⟨i, hi⟩ := List.getElem?_of_mem hx
        first | exact (hl i x hi).known.1 γ hγ | exact (hl i x hi).known.2 γ hγ
    refine ⟨fun γ hγ => ?_, fun γ hγ => ?_⟩
    · rcases List.mem_append.1 hγ with hγ | hγ
      · exact (g first fv h3).1 γ hγ
      · exact (g cap cv h4).1 γ hγ
    · rcases List.mem_append.1 hγ with hγ | hγ
      · exact (g first fv h3).2 γ hγ
      · exact (g cap cv h4).2 γ hγ
  | _ => exact ⟨(fun γ hγ => by cases hγ), (fun γ hγ => by cases hγ)⟩
def isN (β : Nat) : Bool := decide (2000000 ≤ β)
def Qep : PV → PV
  | .nst _ _ _ _ => .undef
  | p => if p.refs.any isN || p.sref.any isN then .undef else p
def Q6v (F : Fr) : Fr := fun s => Qep (F s)
def Cln (p : PV) : Prop := (∀ β ∈ p.refs, isN β = false) ∧ (∀ β ∈ p.sref, isN β = false) ∧ ∀ γ e ty xs, p ≠ .nst γ e ty xs
theorem Q6w (p : PV) : Cln (Qep p) := by
  have h0 : Cln .undef := ⟨(fun β h => by cases h), (fun β h => by cases h), (fun _ _ _ _ h => by cases h)⟩
  unfold Qep
  split
  · exact h0
  · rename_i hn
    split
    · exact h0
    · rename_i h
      simp only [Bool.or_eq_true, not_or, Bool.not_eq_true, List.any_eq_false] at h
      exact ⟨fun β hβ => by simpa using h.1 β hβ, fun β hβ => by simpa using h.2 β hβ, fun γ e ty xs => hn γ e ty xs⟩
theorem Cln.kill {p : PV} (h : Cln p) {B : List Nat} : Cln (if p.refs.any B.contains then .undef else p) := by
  split
  · exact ⟨(fun β h => by cases h), (fun β h => by cases h), (fun _ _ _ _ h => by cases h)⟩
  · exact h
theorem Qsf {β : Nat} {p : PV} (h : ∀ γ ∈ p.refs, γ ≠ β) : Qak β p = p := by
  unfold Qak
  rw [if_neg]
  intro hc
  exact h β (by simpa using hc) rfl
theorem Q1c {β : Nat} {p : PV} (h : ∀ γ ∈ p.sref1, γ ≠ β) : Qfd β p = p := by
  cases p with
  | mso γ o n => simp only [Qfd]; rw [if_neg (h γ (by simp [PV.sref1]))]
  | nso γ o n => simp only [Qfd]; rw [if_neg (h γ (by simp [PV.sref1]))]
  | _ => rfl
theorem Q1d {β : Nat} {p : PV} (h : ∀ γ ∈ p.refs, γ ≠ β) (h2 : ∀ γ ∈ p.sref, γ ≠ β) (h3 : ∀ γ e ty xs, p ≠ .nst γ e ty xs) : Qa9 β p = p := by
  cases p with
  | nst γ e ty xs => exact absurd rfl (h3 _ _ _ _)
  | rag cs =>
    simp only [Qa9]
    congr 1
    conv => rhs; rw [← List.map_id cs]
    exact List.map_congr_left fun x hx => Q1c fun γ hγ => h2 γ (List.mem_flatMap.2 ⟨x, hx, hγ⟩)
  | nso γ o n => simp only [Qa9]; rw [if_neg (h2 γ (by simp [PV.sref]))]
  | np γ i o => simp only [Qa9]; rw [if_neg (h2 γ (by simp [PV.sref]))]
  | fn f first cap =>
    simp only [Qa9]
    rw [if_neg, Qsf h]
    intro hc
    exact h2 β (by simpa [PV.sref] using hc) rfl
  | _ => exact Qsf h
theorem Q1e {β γ : Nat} (h : 2000000 ≤ β) (h2 : isN γ = false) : γ ≠ β := by
  simp [isN] at h2; omega
abbrev bse (B : List Nat) (F : Fr) : Fr := Qaf B (Q6v F)
theorem Qw2 (B : List Nat) (F : Fr) (s : Nat) : Cln (bse B F s) := (Q6w (F s)).kill
theorem Q1f {β : Nat} {B : List Nat} {F : Fr} (h : 2000000 ≤ β) : Qdh β (bse B F) = bse B F := by
  funext s
  have hc := Qw2 B F s
  exact Q1d (fun γ hγ => Q1e h (hc.1 γ hγ)) (fun γ hγ => Q1e h (hc.2.1 γ hγ)) hc.2.2
theorem Q1g {γ : Nat} {B : List Nat} {F : Fr} : Qdg γ (bse B F) = bse B F := by
  funext s
  have hc := Qw2 B F s
  show Qdf γ (bse B F s) = _
  generalize bse B F s = p at *
  cases p with
  | nst γ' e ty xs => exact absurd rfl (hc.2.2 _ _ _ _)
  | _ => rfl
theorem Q1h {W : List (Nat × Nat)} {β : Nat} {J F : Fr} : Qdh β (ovr W J F) = ovr W (Qdh β J) (Qdh β F) := by
  funext s; unfold Qdh ovr; split <;> rfl
theorem Q1i {W : List (Nat × Nat)} {β : Nat} {J F : Fr} : Qdg β (ovr W J F) = ovr W (Qdg β J) (Qdg β F) := by
  funext s; unfold Qdg ovr; split <;> rfl
theorem Q1j {β d : Nat} {F : Fr} {v : PV} : Qdh β (upd F d v) = upd (Qdh β F) d (Qa9 β v) := by
  funext s; unfold Qdh upd; split <;> rfl
theorem Q1k {β d : Nat} {F : Fr} {v : PV} : Qdg β (upd F d v) = upd (Qdg β F) d (Qdf β v) := by
  funext s; unfold Qdg upd; split <;> rfl
theorem Q6x {β : Nat} {F : Fr} {s : Nat} : Qdh β F s = Qa9 β (F s) := rfl
theorem Q6y {β : Nat} {F : Fr} {s : Nat} : Qdg β F s = Qdf β (F s) := rfl
theorem Qabc (W : List (Nat × Nat)) (B : List Nat) : Fle fr (ovr W fr (bse B fr)) := fun s => by
  unfold ovr bse Qaf
  split
  · exact .inl rfl
  · split
    · exact .inr rfl
    · unfold Q6v Qep
      split
      · exact .inr rfl
      · split
        · exact .inr rfl
        · exact .inl rfl
theorem Q6z {sk : List It} {x : SC} (hok : Qcx R sk) (W : List (Nat × Nat)) (B : List Nat) (I : Nat → Fr → HP → Prop) (m0 : Nat) (h0 : I m0 fr hp)
    (h : ∀ m J hp, I m J hp → vc C R (.c x :: .el (Qle W (bse B fr) I m) :: sk) (ovr W J (bse B fr)) hp) : vc C R (.c (.loop x) :: sk) fr hp := by
  refine Qg8 (fun m fr' hp' => ∃ J, fr' = ovr W J (bse B fr) ∧ I m J hp') m0 (Qabc W B).wk ⟨fr, rfl, h0⟩ ?_
  rintro m _ hp' ⟨J, rfl, hI⟩
  refine Qin hok.1 _ _ _ _ _ _ (Nat.le_refl _) (.c x (.el ?_ hok.2)) (Fle.refl _) (h m J hp' hI)
  rintro f f' hp2 hf ⟨J2, hp3, m2, e2, hl, h2⟩
  exact Qoq hl (hf.wk.trans e2) ⟨J2, rfl, h2⟩
def Qbi (l : List (Nat × Nat)) : List PV := l.map fun x => .mso x.1 0 x.2
def Qnt (B n : Nat) : List (Nat × Nat) := (List.range n).map fun i => (B + i, 0)
def Qqp (d : Nat) (S : List Nat) (γ n : Nat) (x : PV) (fr : Fr) : Fr := fun s => if s = γ then x else if S.contains s then .nso γ 0 n else Qak d (fr s)
def hpN (d γ B n e ty e' ty' : Nat) (hp : HP) : HP := fun β => if β = d then none else if β = γ then some ⟨e, ty, [], false⟩ else if B ≤ β ∧ β < B + n then some ⟨e', ty', [], false⟩ else hp β
theorem Qabd (d γ B n ty e' ty' : Nat) (S : List Nat) (hn : 0 < n) (hd : hp d = some ⟨1, ty, List.replicate n .nilS, false⟩) (hdB : isB d = false) (he' : 0 < e')
    (hγ : 2000000 ≤ γ) (hB : 2000000 ≤ B) (hγB : ¬ (B ≤ γ ∧ γ < B + n)) (h1 : hp γ = none) (h2 : ∀ i, i < n → hp (B + i) = none) (hS : ∀ s ∈ S, fr s = .ms d n) :
    Wk fr hp (Qqp d S γ n (.nst γ 1 ty (Qbi (Qnt B n))) fr) (hpN d γ B n 1 ty e' ty' hp) := by
  rintro C tmps w ⟨ρ, hs⟩
  have hown := hs.own d _ hd
  have hblk := hown.blk
  obtain ⟨b, hρ⟩ : ∃ b, ρ d = some b := by
    cases hq : ρ d with
    | none => rw [hq] at hblk; simp at hblk; omega
    | some b => exact ⟨b, rfl⟩
  rw [hρ] at hblk
  simp only [Qib hdB] at hblk
  obtain ⟨hb1, hb2, cur, cap, c1, c2, c3, c4, c5⟩ := hblk
  have hdl : d < 1000000 := by simp [isB] at hdB; exact hdB
  have hBd : ∀ i, B + i ≠ d := fun i => by omega
  generalize hpE : hpN d γ B n 1 ty e' ty' hp = hp'
  obtain ⟨ρ', hρE⟩ : ∃ f : Nat → Option Nat, f = fun β => if β = γ then some b else if B ≤ β ∧ β < B + n then none else ρ β := ⟨_, rfl⟩
  have pγ : hp' γ = some ⟨1, ty, [], false⟩ := by subst hpE; simp only [hpN, if_neg (show ¬ γ = d by omega), if_true]
  have pd : hp' d = none := by subst hpE; simp only [hpN, if_true]
  have pB : ∀ β, B ≤ β ∧ β < B + n → hp' β = some ⟨e', ty', [], false⟩ := fun β hβ => by
    subst hpE; simp only [hpN]
    rw [if_neg (by omega), if_neg (by rintro rfl; exact hγB hβ), if_pos hβ]
  have po : ∀ β, β ≠ d → β ≠ γ → ¬ (B ≤ β ∧ β < B + n) → hp' β = hp β := fun β a1 a2 a3 => by
    subst hpE; simp only [hpN]; rw [if_neg a1, if_neg a2, if_neg a3]
  have rγ : ρ' γ = some b := by subst hρE; simp only [if_true]
  have rB : ∀ β, B ≤ β ∧ β < B + n → ρ' β = none := fun β hβ => by subst hρE; simp only []; rw [if_neg (by rintro rfl; exact hγB hβ), if_pos hβ]
  have ro : ∀ β, β ≠ γ → ¬ (B ≤ β ∧ β < B + n) → ρ' β = ρ β := fun β a2 a3 => by subst hρE; simp only []; rw [if_neg a2, if_neg a3]
  have hBn : ∀ β, B ≤ β ∧ β < B + n → hp β = none := fun β hβ => by
    have := h2 (β - B) (by omega)
    rwa [show B + (β - B) = β by omega] at this
  have hX : ∀ c, Xof C ρ' hp' c → Xof C ρ hp c := by
    rintro c (hx | ⟨β, hb, g1, g2, g3⟩)
    · exact .inl hx
    · by_cases e1 : β = γ
      · subst e1; rw [rγ] at g3; cases g3; exact .inr ⟨d, _, hd, rfl, hρ⟩
      · by_cases e2 : B ≤ β ∧ β < B + n
        · rw [rB β e2] at g3; cases g3
        · by_cases e3 : β = d
          · rw [e3, pd] at g1; cases g1
          · rw [po β e3 e1 e2] at g1; rw [ro β e1 e2] at g3; exact .inr ⟨β, hb, g1, g2, g3⟩
  have hst : Qid w w (Xof C ρ hp) (Xof C ρ' hp') := ⟨fun _ _ _ => rfl, fun c _ hn hx => hn (hX c hx), Nat.le_refl _⟩
  have hcnd : ∀ β, hp β ≠ none → β ≠ d → Cnd ρ ρ' hp hp' w w β := fun β hk hne => by
    have a1 : β ≠ γ := fun e => hk (by rw [e]; exact h1)
    have a2 : ¬ (B ≤ β ∧ β < B + n) := fun e => hk (hBn β e)
    refine ⟨ro β a1 a2, fun hb hβ => ⟨hb, by rw [po β hne a1 a2]; exact hβ, rfl, Nat.le_refl _, fun _ _ _ h => h, fun h => ⟨h, rfl, fun _ _ => rfl⟩⟩⟩
  have hcap : ∀ cap', Qax w b 1 cap' → cap' = cap := by
    rintro cap' ⟨cur', ty', d1, d2⟩
    rw [c1] at d1; cases d1
    simp only [Nat.mul_one] at c2 d2; omega
  refine ⟨ρ', hs.sz, hs.ext, hs.keep, fun β hb hβ => ?_, fun β β' c g1 g2 g3 g4 => ?_, fun i => ?_⟩
  · by_cases e1 : β = γ
    · subst e1
      rw [pγ] at hβ; cases hβ
      refine ⟨Nat.one_pos, fun i x hx => by simp at hx, ?_⟩
      rw [rγ]
      have : isY β = false := by simp [isY]; omega
      simp only [this]
      exact ⟨hb1, hb2, cur, cap, c1, c2, Nat.zero_le _, c4, fun i x hx => by simp at hx⟩
    · by_cases e2 : B ≤ β ∧ β < B + n
      · rw [pB β e2] at hβ; cases hβ
        refine ⟨he', fun i x hx => by simp at hx, ?_⟩
        rw [rB β e2]
      · by_cases e3 : β = d
        · rw [e3, pd] at hβ; cases hβ
        · rw [po β e3 e1 e2] at hβ
          obtain ⟨q1, q2, q3⟩ := hs.own β hb hβ
          refine ⟨q1, q2, ?_⟩
          rw [ro β e1 e2]
          cases hq : ρ β with
          | none => rw [hq] at q3; exact q3
          | some c => rw [hq] at q3; exact ⟨q3.1, q3.2.1, q3.2.2.move rfl rfl rfl rfl hst.rc⟩
  · have key : ∀ β c, hp' β ≠ none → ρ' β = some c → (β = γ ∧ c = b) ∨ (β ≠ γ ∧ β ≠ d ∧ hp β ≠ none ∧ ρ β = some c) := fun β c g1 g3 => by
      by_cases e1 : β = γ
      · rw [e1, rγ] at g3; cases g3; exact .inl ⟨e1, rfl⟩
      · by_cases e2 : B ≤ β ∧ β < B + n
        · rw [rB β e2] at g3; cases g3
        · by_cases e3 : β = d
          · rw [e3, pd] at g1; exact absurd rfl g1
          · rw [po β e3 e1 e2] at g1; rw [ro β e1 e2] at g3; exact .inr ⟨e1, e3, g1, g3⟩
    rcases key β c g1 g3 with ⟨a1, a2⟩ | ⟨a1, a2, a3, a4⟩ <;> rcases key β' c g2 g4 with ⟨b1, b2⟩ | ⟨b1, b2, b3, b4⟩
    · rw [a1, b1]
    · rw [a2] at b4; exact absurd (hs.inj β' d b b3 (by simp [hd]) b4 hρ) b2
    · rw [b2] at a4; exact absurd (hs.inj β d b a3 (by simp [hd]) a4 hρ) a2
    · exact hs.inj β β' c a3 b3 a4 b4
  · show Qm C ρ' hp' w (Qqp d S γ n (.nst γ 1 ty (Qbi (Qnt B n))) fr i) _
    have isBγ : isB γ = true := by simp [isB]; omega
    unfold Qqp
    by_cases e1 : i = γ
    · rw [if_pos e1]
      refine ⟨isBγ, Nat.one_pos, b, _, cur, cap, rγ, pγ, rfl, rfl, rfl, c1, c2, by simpa [Qbi, Qnt] using c3, c4, fun j x hx => ?_, fun j x hx k y hy => ?_⟩
      · simp only [Qbi, Qnt, List.map_map, List.getElem?_map, Option.map_eq_some_iff] at hx
        obtain ⟨_, _, rfl⟩ := hx; rfl
      · simp only [Qbi, Qnt, List.map_map, List.getElem?_map, Option.map_eq_some_iff] at hx
        obtain ⟨j', hj', rfl⟩ := hx
        have hx0 := hj'
        rw [List.getElem?_range (by have := (List.getElem?_eq_some_iff.1 hj').1; simpa using this)] at hj'
        cases hj'
        have hjn : j < n := by have := (List.getElem?_eq_some_iff.1 hx0).1; simpa using this
        cases k with
        | succ k => cases hy
        | zero =>
          cases hy
          show Qcg C ρ' hp' w (.mso (B + j) 0 0) _
          have hv := c5 j .nilS (by simp [List.getElem?_replicate, hjn]) 0 .nilS rfl
          have e0 : cur.getD (j * 1 + 0) undef = .slice none 0 0 := by generalize cur.getD (j * 1 + 0) undef = u at hv; cases hv; rfl
          refine ⟨by simp [isB]; omega, ⟨e', ty', [], false⟩, pB _ ⟨by omega, by omega⟩, Nat.le_refl _, .inl ⟨rB _ ⟨by omega, by omega⟩, e0, rfl, rfl⟩⟩
    · rw [if_neg e1]
      by_cases e2 : S.contains i = true
      · rw [if_pos e2]
        have hi := hS i (by simpa using e2)
        have hsl := hs.slots i
        rw [hi] at hsl
        obtain ⟨hb, g1, g2, g3⟩ := hsl
        rw [hd] at g1; cases g1
        rcases g3 with ⟨g3, _⟩ | ⟨b', cap', g3, g4, g5, g6⟩
        · rw [hρ] at g3; cases g3
        · rw [hρ] at g3; cases g3
          have := hcap _ g5
          simp only [List.length_replicate] at c3
          exact ⟨isBγ, _, b, cap', pγ, rγ, g4, g5, g6, by omega⟩
      · rw [if_neg e2]
        have hk := Qm.kill (β := d) (hs.slots i)
        have hkn := hk.known
        refine hk.moveC hst (fun β hβ => (hcnd β (hkn.1 β hβ) (Qks β hβ).1).o) (fun β hβ => hcnd β (hkn.2 β hβ) fun e => ?_)
        have := hk.srefB β hβ
        rw [e, hdB] at this; cases this
theorem Q60 {sk : List It} {x : SC} (d γ B n ty e' ty' : Nat) (S : List Nat) (hn : 0 < n) (hd : hp d = some ⟨1, ty, List.replicate n .nilS, false⟩) (hdB : isB d = false) (he' : 0 < e')
    (hγ : 2000000 ≤ γ) (hB : 2000000 ≤ B) (hγB : ¬ (B ≤ γ ∧ γ < B + n)) (h1 : hp γ = none) (h2 : ∀ i, i < n → hp (B + i) = none) (hS : ∀ s ∈ S, fr s = .ms d n)
    (h : vc C R (.c (.loop x) :: sk) (Qqp d S γ n (.nst γ 1 ty (Qbi (Qnt B n))) fr) (hpN d γ B n 1 ty e' ty' hp)) : vc C R (.c (.loop x) :: sk) fr hp := by
  rw [Qdi] at h ⊢
  obtain ⟨I, μ, ⟨fr0, hp0, h3, h3'⟩, h4⟩ := h
  exact ⟨I, μ, ⟨fr0, hp0, (Qabd d γ B n ty e' ty' S hn hd hdB he' hγ hB hγB h1 h2 hS).trans h3, h3'⟩, h4⟩
theorem Qm3 {tmps : Array Value} (h : Q2 C ρ fr hp tmps w) {β b : Nat} {hb : HB} {l : List Nat} (hB : isY β = false) (hβ : hp β = some hb) (hl : β ∈ l) (hρ : ρ β = some b) : ¬ Xof C ρ (Qag hp l) b := by
  have hblk := (h.own β hb hβ).blk
  rw [hρ] at hblk
  rintro (hx | ⟨γ, hg, h1, h2, h3⟩)
  · exact h.notX0 (by simpa [hB] using hblk.1) hx
  · obtain ⟨hg0, g1, _, _, _, _, g6⟩ := Qjt h1
    have := h.inj γ β b (by simp [g1]) (by simp [hβ]) h3 hρ
    subst this
    exact g6 h2 hl
theorem Qem.snap {tmps : Array Value} (h : Q2 C ρ fr hp tmps w) {β o n : Nat} {v : Value} {l : List Nat} {hb : HB} (hr : Qem ρ hp w β o n v) (hB : isY β = false) (hl : β ∈ l) (hβ : hp β = some hb) : Qw w (Xof C ρ (Qag hp l)) (.sl hb.e ((hb.xs.drop o).take n)) v := by
  obtain ⟨hb', g1, g2, g3⟩ := hr
  rw [hβ] at g1; cases g1
  rcases g3 with ⟨g3, rfl, rfl, rfl⟩ | ⟨b, cap, g3, rfl, g5, g6⟩
  · simp only [List.take_zero]; exact .slE _ _ _ (Nat.zero_le _)
  · have hown := h.own β hb hβ
    have hblk := hown.blk
    rw [g3] at hblk
    obtain ⟨_, hlt, cur, cap', c1, c2, c3, c4, c5⟩ := hblk
    obtain ⟨cur', ty', d1, d2⟩ := g5
    rw [c1] at d1; cases d1
    have hcc : o + cap = cap' := by
      rw [c2] at d2
      exact (Nat.eq_of_mul_eq_mul_right hown.epos d2).symm
    subst hcc
    have hlen : ((hb.xs.drop o).take n).length = n := by simp; omega
    have hget : ∀ (i : Nat) (x : PV), ((hb.xs.drop o).take n)[i]? = some x → i < n ∧ hb.xs[o + i]? = some x := fun i x hx => by
      have hi : i < n := by have := (List.getElem?_eq_some_iff.1 hx).1; omega
      rw [List.getElem?_take_of_lt hi, List.getElem?_drop] at hx
      exact ⟨hi, hx⟩
    have := Qw.sl (w := w) (X := Xof C ρ (Qag hp l)) hb.e ((hb.xs.drop o).take n) b (o * hb.e) cap (fun i j => cur.getD ((o + i) * hb.e + j) undef) (Qm3 h hB hβ hl g3) hlt (by omega) (by omega)
      (fun i x hx => (hown.len _ x (hget i x hx).2).1)
      (fun i hi j hj => by
        rw [hlen] at hi
        have := Qee (i := o + i) (e := hb.e) (o := 0) (j := j) (n := hb.e) (cap := o + cap) (by omega) (by omega) hj
        rw [Nat.add_zero] at this
        rw [show o * hb.e + i * hb.e + j = (o + i) * hb.e + j by rw [Nat.add_mul]]
        exact Qa3 c1 (by rw [c2]; exact this))
      (fun i x hx j y hy => (c5 _ x (hget i x hx).2 j y hy).freeze)
    rwa [hlen] at this
def Qjp (e' : Nat) (ys : Nat → List PV) (l : List (Nat × Nat)) : List PV := l.map fun x => .sl e' ((ys x.1).take x.2)
def Qu7 (γ : Nat) (l : List (Nat × Nat)) (hp : HP) : HP := FW.Qag hp (γ :: l.map (·.1))
theorem Qabe (s γ ty e' ty' m : Nat) (l : List (Nat × Nat)) (ys : Nat → List PV) (fz : Nat → Bool) (hn : m = l.length) (hfr : fr γ = .nst γ 1 ty (Qbi l)) (hs0 : fr s = .nso γ 0 m) (hγ : 2000000 ≤ γ) (hB : ∀ x ∈ l, 2000000 ≤ x.1)
    (hr : ∀ x ∈ l, hp x.1 = some ⟨e', ty', ys x.1, fz x.1⟩) : Wk fr hp (upd fr s (.sl 1 (Qjp e' ys l))) (Qu7 γ l hp) := by
  subst hn
  rintro C tmps w ⟨ρ, hs⟩
  have hf := hs.freeze (γ :: l.map (·.1))
  refine ⟨ρ, hf.sz, hf.ext, hf.keep, hf.own, hf.inj, fun i => ?_⟩
  unfold upd
  split
  · rename_i hi; subst hi
    have h1 := hs.slots γ
    rw [hfr] at h1
    obtain ⟨_, _, b, hb, cur, cap, g1, g2, g3, g4, g5, g6, g7, g8, g9, g10, g11⟩ := h1
    have h2 := hs.slots i
    rw [hs0] at h2
    obtain ⟨_, hb', b', cap', k1, k2, k3, k4, k5, k6⟩ := h2
    rw [g2] at k1; cases k1
    rw [g1] at k2; cases k2
    generalize tmps.getD i undef = v at *
    subst k3
    have hY : isY γ = false := by simp [isY]; omega
    have hX : ¬ Xof C ρ (Qu7 γ l hp) b := Qm3 hs hY g2 (List.mem_cons_self ..) g1
    have hlt : b < w.heap.size := (Array.getElem?_eq_some_iff.1 g6).1
    have hlen : (Qjp e' ys l).length = l.length := by simp [Qjp]
    rw [g4] at k4
    obtain ⟨cur', ty'', k4, k7⟩ := k4
    rw [g6] at k4; cases k4
    have hm8 : l.length ≤ cap := by simpa [Qbi] using g8
    have hget : ∀ (i : Nat) (x : PV), (Qjp e' ys l)[i]? = some x → ∃ h : i < l.length, x = .sl e' ((ys l[i].1).take l[i].2) := fun i x hx => by
      have hi : i < l.length := by have := (List.getElem?_eq_some_iff.1 hx).1; omega
      simp [Qjp, List.getElem?_eq_getElem hi] at hx
      exact ⟨hi, hx.symm⟩
    have := Qw.sl (w := w) (X := Xof C ρ (Qu7 γ l hp)) 1 (Qjp e' ys l) b 0 cap' (fun i j => cur.getD (i * 1 + j) undef) hX hlt (by rw [hlen]; exact k6) (by omega)
      (fun i x hx => by obtain ⟨_, rfl⟩ := hget i x hx; rfl)
      (fun i hi j hj => by
        rw [hlen] at hi
        rw [Nat.zero_add]
        exact Qa3 g6 (by omega))
      (fun i x hx j y hy => by
        obtain ⟨hi, rfl⟩ := hget i x hx
        cases j with
        | succ j => cases hy
        | zero =>
          cases hy
          have hrow : (Qbi l)[i]? = some (.mso l[i].1 0 l[i].2) := by simp [Qbi, List.getElem?_eq_getElem hi]
          have := g11 i _ hrow 0 _ rfl
          have hB' := hB _ (List.getElem_mem hi)
          have hq := Qem.snap (l := γ :: l.map (·.1)) hs this.2 (by simp [isY]; omega) (List.mem_cons_of_mem _ (List.mem_map.2 ⟨_, List.getElem_mem hi, rfl⟩)) (hr _ (List.getElem_mem hi))
          exact hq)
    rw [hlen] at this
    rw [Nat.zero_mul]
    exact this
  · exact hf.slots i
def Qm4 (R : Qh) : Qh := fun fr hp => ∃ fr' hp', Wk fr hp fr' hp' ∧ R fr' hp'
theorem Qabf {hp' : HP} (hw : Wk fr hp fr' hp') (h : R fr' hp') : Qm4 R fr hp := ⟨fr', hp', hw, h⟩
theorem Q1l (h : R fr hp) : Qm4 R fr hp := ⟨fr, hp, Wk.refl _ _, h⟩
theorem Qabg : KM (Qm4 R) (Qm4 R) := by
  rintro f f' hp hf ⟨fr', hp', h1, h2⟩
  exact ⟨fr', hp', hf.wk.trans h1, h2⟩
theorem Qs : Qcx (Qm4 R) [] := ⟨Qabg, .nil⟩
theorem Q1m {P : Program} {f : FuncId} {fn : Func} {sf : SFn} {args : List PV} {Rr : PV → Prop} (hm : P.follows .mixedOrders = true) (hf : P.funcs[f]? = some fn) (hname : (fn.name != "runtime.NumGoroutine") = true) (hc : Qd P fn = some sf) (hn : args.length ≤ sf.n ∧ sf.n ≤ 1000000)
    (hv : ∀ C : Ctx, C.P = P → vc C (Qm4 (Qdq sf.rs Rr)) [.c sf.body] (Qeu args) hp0) : Qe P f args Rr := by
  simp only [Qd, Option.bind_eq_some_iff, Option.map_eq_some_iff] at hc
  obtain ⟨c, hb, sb, hcb, rs, hrs, rfl⟩ := hc
  refine ⟨by simp [Qky, hf, hb]; simpa using hname, fun w X vals hX hsz hrep => ?_⟩
  let C : Ctx := ⟨P, fn.ntmps, w, X, hX, hn.2, Qa1, fun _ h => h.elim⟩
  refine calls_of_wp hf hb ?_
  have hsz' : (vals ++ Array.replicate (fn.ntmps - vals.size) undef).size = fn.ntmps := by simp at hn ⊢; omega
  have hsim : Sim C (Qeu args) hp0 (vals ++ Array.replicate (fn.ntmps - vals.size) undef) w := by
    refine ⟨fun _ => none, hsz', Ext.refl _ _, fun _ h => h.elim, by simp [hp0], by simp [hp0], fun i => ?_⟩
    unfold Qeu
    cases hi : args[i]? with
    | none => trivial
    | some p =>
      simp only [Option.getD_some]
      have hil : i < vals.size := by rw [hsz]; exact (List.getElem?_eq_some_iff.1 hi).1
      have hr := hrep i p hi
      have e : (vals ++ Array.replicate (fn.ntmps - vals.size) undef).getD i undef = vals.getD i undef := by
        rw [Qbl, if_pos hil]
      rw [e]
      refine Qm.ofData (hr.mono (fun _ _ _ => rfl) (fun b _ hn hx => ?_) (Nat.le_refl _))
      rcases hx with hx | ⟨_, _, h1, _⟩
      · exact hn hx
      · simp [hp0] at h1
  have fin : ∀ (fr : Fr) (hp : HP) (a : Act) (w' : World), a.defers = [] → Sim C fr hp a.tmps w' → Qm4 (Qdq rs Rr) fr hp →
      a.defers = [] ∧ ∃ v, (results fn a.tmps).run P w' = .ok v w' ∧ ∃ v' r, Ending.returned v = .returned v' ∧ Ext Qa1 w w' ∧ Qct w' X r v' ∧ Rr r := by
    rintro fr hp a w' hd hs0 ⟨fr1, hp1, hw, hr⟩
    obtain ⟨ρ, hs⟩ := hw C _ _ hs0
    obtain ⟨v, r, h1, h2, h3⟩ := Qmg (C := C) rfl hrs hs hr
    exact ⟨hd, v, h1, v, r, rfl, hs.ext, h2, h3⟩
  exact Qhs (C := C) (R := Qm4 (Qdq rs Rr)) hm c sb [] _ (Qeu args) hp0 _ w hcb ⟨fun fr hp a w' hd hs hv => (by rw [Qik] at hv; exact fin fr hp a w' hd hs hv), fun id sk' he => (by simp [FW.Qab] at he), fin⟩ rfl hsim (hv C rfl)
theorem Qabh {d γ m i : Nat} {k : IntKind} (h : i < m) (he : (hp γ).map (·.e) = some 1) : Qd6 1 (.nso γ 0 m) (.int k (i : Int)) d fr hp K = K (upd fr d (.np γ i 0)) hp := by
  have e : (0 : Int) ≤ (i : Int) := by omega
  simp [Qd6, e, h, he]
theorem Qabi {d γ o m : Nat} : Qjs (.nso γ o m) d fr hp K = K (upd fr d (.int .i64 m)) hp := rfl
theorem Qaeq {d γ i ty : Nat} {l : List (Nat × Nat)} (hγ : fr γ = .nst γ 1 ty (Qbi l)) (h : i < l.length) : ldK 1 false (.np γ i 0) d fr hp K = K (upd fr d (.ms (l[i]'h).1 (l[i]'h).2)) hp := by
  have hh : ∃ h : i < l.length, K (upd fr d (.ms (l[i]'h).1 (l[i]'h).2)) hp ↔ K (upd fr d (.ms (l[i]'h).1 (l[i]'h).2)) hp := ⟨h, Iff.rfl⟩
  simp only [ldK, hγ]
  have h2 : i < (Qbi l).length := by simpa [Qbi] using h
  simp only [h2, exists_true_left, true_and, Nat.le_refl, Nat.zero_add, implies_true]
  simp [ldN, Qbi, PV.ncells, PV.cells]
theorem Qaer {γ i ty m β : Nat} {l : List (Nat × Nat)} {fz : Bool} {e0 ty0 : Nat} {xs0 : List PV} (hγ : fr γ = .nst γ 1 ty ((Qbi l).set i .undef)) (hh : hp γ = some ⟨e0, ty0, xs0, false⟩) (h : i < l.length) (hB : isB β = true) :
    stK 1 (.np γ i 0) (.ms β m) fr hp K = K (upd (Qdg γ fr) γ (.nst γ 1 ty (Qbi (l.set i (β, m))))) hp := by
  simp only [stK, hγ]
  have h2 : i < ((Qbi l).set i .undef).length := by simpa [Qbi] using h
  simp only [h2, exists_true_left, true_and, Nat.le_refl, Nat.zero_add, stN, hB, if_true, List.length_cons, List.length_nil, hh, Option.some.injEq, exists_eq_left']
  simp [Ql6, Ql7, Qbi, PV.ncells, PV.cells, List.map_set]
theorem Qabj {e by_ ty ty' d β γ n : Nat} {xs : List PV} {y : PV} {fz : Bool} (hb : hp β = some ⟨e, ty, xs, false⟩) (hy : hp γ = some ⟨e, ty', [y], fz⟩) (h0 : 0 < e) (hn : n = xs.length) (h1 : (n + 1) * by_ ≤ 140737488355328) (h2 : n + 1 ≤ 9223372036854775807) (hB : 2000000 ≤ β) :
    Qdw e by_ ty (.ms β n) (.ms γ 1) d fr hp K = K (upd (Qdh β fr) d (.ms β (n + 1))) (Qo hp β ⟨e, ty, xs ++ [y], false⟩) := by
  subst hn
  have b1 : isB β = true := by simp [isB]; omega
  have b2 : isY β = false := by simp [isY]; omega
  simp [Qdw, Qc9, hy, hb, h0, b1, b2, h1, h2]
theorem Qv2 {α : Type} {f : α → PV} {y : α} {e by_ ty ty' d β γ n : Nat} {xs : List α} {fz : Bool} (hb : hp β = some ⟨e, ty, xs.map f, false⟩) (hy : hp γ = some ⟨e, ty', [f y], fz⟩) (h0 : 0 < e) (hn : n = xs.length) (h1 : (n + 1) * by_ ≤ 140737488355328) (h2 : n + 1 ≤ 9223372036854775807) (hB : 2000000 ≤ β) :
    Qdw e by_ ty (.ms β n) (.ms γ 1) d fr hp K = K (upd (Qdh β fr) d (.ms β (n + 1))) (Qo hp β ⟨e, ty, (xs ++ [y]).map f, false⟩) := by
  rw [Qabj hb hy h0 (by simp [hn]) h1 h2 hB]; simp
theorem Q1n {γ e ty k : Nat} {l : List (Nat × Nat)} (h : k < l.length) (hne : γ ≠ (l[k]'h).1) (hd : ∀ j (hj : j < l.length), l[j].1 = (l[k]'h).1 → j = k) : Qa9 (l[k]'h).1 (.nst γ e ty (Qbi l)) = .nst γ e ty ((Qbi l).set k .undef) := by
  simp only [Qa9, if_neg hne]
  congr 1
  refine List.ext_getElem (by simp [Qbi]) fun j h1 h2 => ?_
  have hj : j < l.length := by simpa [Qbi] using h1
  simp only [Qbi, List.getElem_map, List.getElem_set, PV.ncells, PV.cells, List.map_cons, List.map_nil, Ql6, Qfd]
  by_cases e : j = k
  · subst e; simp
  · rw [if_neg fun e2 => e (hd j hj e2), if_neg fun e2 => e e2.symm]
theorem Q1o {β γ o n : Nat} (h : γ ≠ β) : Qa9 β (.nso γ o n) = .nso γ o n := by simp only [Qa9]; rw [if_neg h]
theorem Q61 {β γ o n : Nat} (h : γ ≠ β) : Qa9 β (.np γ o n) = .np γ o n := by simp only [Qa9]; rw [if_neg h]
theorem Qaes :
    (∀ (β : Nat) (k : IntKind) (n : Int), Qa9 β (.int k n) = .int k n) ∧
    (∀ (β : Nat) (b : Bool), Qa9 β (.bool b) = .bool b) ∧
    (∀ (β e : Nat) (xs : List PV), Qa9 β (.sl e xs) = .sl e xs) ∧
    (∀ (β : Nat) (cs : List PV), Qa9 β (.agg cs) = .agg cs) ∧
    (∀ (β : Nat) (cs : List PV), Qa9 β (.pt cs) = .pt cs) ∧
    (∀ (β : Nat), Qa9 β .nilS = .nilS) ∧
    (∀ (β : Nat), Qa9 β .undef = .undef) ∧
    (∀ (γ : Nat) (k : IntKind) (n : Int), Qdf γ (.int k n) = .int k n) ∧
    (∀ (γ : Nat) (b : Bool), Qdf γ (.bool b) = .bool b) ∧
    (∀ (γ e : Nat) (xs : List PV), Qdf γ (.sl e xs) = .sl e xs) ∧
    (∀ (γ : Nat) (cs : List PV), Qdf γ (.agg cs) = .agg cs) ∧
    (∀ (γ : Nat) (cs : List PV), Qdf γ (.pt cs) = .pt cs) ∧
    (∀ (γ : Nat), Qdf γ .nilS = .nilS) ∧
    (∀ (γ : Nat), Qdf γ .undef = .undef) ∧
    (∀ (γ β o n : Nat), Qdf γ (.mso β o n) = .mso β o n) ∧
    (∀ (γ β o n : Nat), Qdf γ (.mp β o n) = .mp β o n) ∧
    (∀ (γ β o n : Nat), Qdf γ (.rb β o n) = .rb β o n) ∧
    (∀ (γ β o n : Nat), Qdf γ (.nso β o n) = .nso β o n) ∧
    (∀ (γ β o n : Nat), Qdf γ (.np β o n) = .np β o n) ∧
    (∀ (β γ o n : Nat), Qak β (.nso γ o n) = .nso γ o n) ∧
    (∀ (β γ o n : Nat), Qak β (.np γ o n) = .np γ o n) ∧
    (∀ (β γ e ty : Nat) (xs : List PV), Qak β (.nst γ e ty xs) = .nst γ e ty xs) ∧
    (∀ (β : Nat), Qak β .undef = .undef) ∧
    (∀ (β : Nat) (cs : List PV), Qak β (.pt cs) = .pt cs) := by
  refine ⟨?_, ?_, ?_, ?_, ?_, ?_, ?_, ?_, ?_, ?_, ?_, ?_, ?_, ?_, ?_, ?_, ?_, ?_, ?_, ?_, ?_, ?_, ?_, ?_⟩ <;> intros <;> rfl
theorem Q62 (β γ o n : Nat) : Qa9 β (.mso γ o n) = if γ = β then .undef else .mso γ o n := Qtp β γ o n
theorem Q63 (β γ o n : Nat) : Qa9 β (.mp γ o n) = if γ = β then .undef else .mp γ o n := Qtq β γ o n
end Go.FW
namespace Go.FW
open Go
variable {C : Ctx} {ρ : Nat → Option Nat} {fr fr' : Fr} {hp : HP} {w : World} {K R : Qh}
theorem Qabk {F : Fr} {s : Nat} : Q6v F s = Qep (F s) := rfl
theorem Qaet :
    (∀ (k : IntKind) (n : Int), Qep (.int k n) = .int k n) ∧
    (∀ (b : Bool), Qep (.bool b) = .bool b) ∧
    (∀ (e : Nat) (xs : List PV), Qep (.sl e xs) = .sl e xs) ∧
    (∀ (cs : List PV), Qep (.agg cs) = .agg cs) ∧
    (∀ (cs : List PV), Qep (.pt cs) = .pt cs) ∧
    (Qep .nilS = .nilS) ∧ (Qep .undef = .undef) ∧
    (∀ (β o n : Nat), Qep (.mso β o n) = if isN β then .undef else .mso β o n) ∧
    (∀ (β o n : Nat), Qep (.mp β o n) = if isN β then .undef else .mp β o n) ∧
    (∀ (β o n : Nat), Qep (.rb β o n) = if isN β then .undef else .rb β o n) ∧
    (∀ (β o n : Nat), Qep (.nso β o n) = if isN β then .undef else .nso β o n) ∧
    (∀ (β o n : Nat), Qep (.np β o n) = if isN β then .undef else .np β o n) := by
  refine ⟨fun _ _ => rfl, fun _ => rfl, fun _ _ => rfl, fun _ => rfl, fun _ => rfl, rfl, rfl, ?_, ?_, ?_, ?_, ?_⟩ <;> intros <;> simp [Qep, PV.refs, PV.sref]
theorem Qad4 {γ e ty : Nat} {xs ys : List PV} (h : xs = ys) : PV.nst γ e ty xs = .nst γ e ty ys := by rw [h]
def rws (B n : Nat) (L : Nat → Nat) : List (Nat × Nat) := (List.range n).map fun i => (B + i, L i)
theorem Qh4 (B n : Nat) (L : Nat → Nat) : (rws B n L).length = n := by simp [rws]
theorem Qgq {B n i : Nat} {L : Nat → Nat} (h : i < (rws B n L).length) : (rws B n L)[i] = (B + i, L i) := by simp [rws]
theorem Qabl {B n i m : Nat} {L L' : Nat → Nat} (h : ∀ j, j < n → L' j = if j = i then m else L j) : (rws B n L).set i (B + i, m) = rws B n L' := by
  refine List.ext_getElem (by simp [rws]) fun j h1 h2 => ?_
  have hj : j < n := by simpa [rws] using h2
  rw [Qgq, List.getElem_set, Qgq, h j hj]
  split
  · rename_i e; subst e; simp
  · rename_i e; rw [if_neg fun e2 => e e2.symm]
theorem Q1p {γ e ty k B n : Nat} {L : Nat → Nat} (h : k < n) (hne : ¬ (B ≤ γ ∧ γ < B + n)) : Qa9 (B + k) (.nst γ e ty (Qbi (rws B n L))) = .nst γ e ty ((Qbi (rws B n L)).set k .undef) := by
  have hk : k < (rws B n L).length := by rw [Qh4]; exact h
  have := Q1n (γ := γ) (e := e) (ty := ty) hk (by rw [Qgq]; simp only; omega) (fun j hj => by rw [Qgq, Qgq]; simp only; omega)
  rwa [Qgq] at this
theorem Qad5 {d γ i ty B n : Nat} {L : Nat → Nat} (hγ : fr γ = .nst γ 1 ty (Qbi (rws B n L))) (h : i < n) : ldK 1 false (.np γ i 0) d fr hp K = K (upd fr d (.ms (B + i) (L i))) hp := by
  rw [Qaeq hγ (by rw [Qh4]; exact h), Qgq]
theorem Qad6 {γ i ty m B n : Nat} {L : Nat → Nat} {e0 ty0 : Nat} {xs0 : List PV} (hγ : fr γ = .nst γ 1 ty ((Qbi (rws B n L)).set i .undef)) (hh : hp γ = some ⟨e0, ty0, xs0, false⟩) (h : i < n) (hB : 1000000 ≤ B) :
    stK 1 (.np γ i 0) (.ms (B + i) m) fr hp K = K (upd (Qdg γ fr) γ (.nst γ 1 ty (Qbi (rws B n fun j => if j = i then m else L j)))) hp := by
  rw [Qaer (fz := false) hγ hh (by rw [Qh4]; exact h) (by simp [isB]; omega), Qabl fun j _ => rfl]
theorem Q64 {e' B n : Nat} {ys : Nat → List PV} {L : Nat → Nat} : Qjp e' ys (rws B n L) = (List.range n).map fun i => .sl e' ((ys (B + i)).take (L i)) := by
  simp [Qjp, rws]
theorem Q65 {d γ n : Nat} {S : List Nat} {x : PV} {s : Nat} : Qqp d S γ n x fr s = if s = γ then x else if S.contains s then .nso γ 0 n else Qak d (fr s) := rfl
theorem Qad7 {d γ B n e ty e' ty' β : Nat} : hpN d γ B n e ty e' ty' hp β = if β = d then none else if β = γ then some ⟨e, ty, [], false⟩ else if B ≤ β ∧ β < B + n then some ⟨e', ty', [], false⟩ else hp β := rfl
theorem Qabm {d γ B n e ty e' ty' i : Nat} (h : i < n) (h1 : B + i ≠ d) (h2 : B + i ≠ γ) : hpN d γ B n e ty e' ty' hp (B + i) = some ⟨e', ty', [], false⟩ := by
  rw [Qad7, if_neg h1, if_neg h2, if_pos ⟨by omega, by omega⟩]
theorem Qabn {by_ ty d : Nat} {k k' : IntKind} {n c : Nat} (h2 : n ≤ c) (h3 : by_ * c ≤ 281474976710656) (h4 : c ≤ 9223372036854775807) :
    mkK 1 by_ ty .nilS (.int k (n : Int)) (.int k' (c : Int)) d fr hp K = K (upd (Qan d fr) d (.ms d n)) (Qo hp d ⟨1, ty, List.replicate n .nilS, false⟩) := by
  rw [Qxd (e := 1) (by omega) rfl (by omega) (by omega) (by omega) (by omega)]; rfl
theorem Qad8 {k c : Nat} (h : c < 3000000) : (3000000 + k = c) = False := by simp; omega
theorem Qabo {k c : Nat} (h : c < 3000000) : (c = 3000000 + k) = False := by simp; omega
theorem Qad9 {k j : Nat} : (3000000 + k = 3000000 + j) = (k = j) := by simp
attribute [go_sem] Qad8 Qabo Qad9 Qabn Q65 Q1h Q1i Q1j Q1k Q6x Q6y Q1f Q1g Qaes Q62 Q63 Q1o Q61 Qabh Qabi Qabk Qaet
end Go.FW
