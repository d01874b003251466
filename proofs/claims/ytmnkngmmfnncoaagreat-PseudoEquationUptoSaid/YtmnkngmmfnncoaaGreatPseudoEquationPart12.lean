/- Part 12 of the proof of PseudoEquation: P5, U6, P6, V1, W12, FwNA, FwNB. Own lemmas; no conditions. -/
import Derived.Test.YtmnkngmmfnncoaaGreatPseudoEquationPart11
set_option linter.unusedSimpArgs false
set_option linter.unnecessarySimpa false
set_option linter.unusedVariables false
namespace Go.Proofs.YtmnkngmmfnncoaaGreat
open Go Go.FW
set_option linter.unusedSimpArgs false
set_option linter.unusedVariables false
set_option maxRecDepth 100000
end Go.Proofs.YtmnkngmmfnncoaaGreat
namespace Go.Proofs.YtmnkngmmfnncoaaGreat
open Go Go.FW
set_option linter.unusedSimpArgs false
set_option linter.unusedVariables false
set_option maxRecDepth 100000
end Go.Proofs.YtmnkngmmfnncoaaGreat
namespace Go.Proofs.YtmnkngmmfnncoaaGreat
open Go Go.FW
set_option linter.unusedSimpArgs false
set_option linter.unusedVariables false
set_option maxRecDepth 100000
end Go.Proofs.YtmnkngmmfnncoaaGreat
namespace Go.Proofs.YtmnkngmmfnncoaaGreat
open Go Go.FW
set_option linter.unusedSimpArgs false
set_option linter.unusedVariables false
set_option maxRecDepth 100000
end Go.Proofs.YtmnkngmmfnncoaaGreat
namespace Go.Proofs.YtmnkngmmfnncoaaGreat
open Go Go.FW
set_option linter.unusedSimpArgs false
set_option linter.unusedVariables false
set_option maxRecDepth 100000
end Go.Proofs.YtmnkngmmfnncoaaGreat
namespace Go.FW
open Go
variable {C : Ctx} {ρ : Nat -> Option Nat} {fr fr' : Fr} {hp : HP} {w : World} {K R : Qh}
theorem Qcz.known {p : PV} {v : Value} (h : Qcz C ρ hp w p v) : ∀ γ ∈ p.sref1, hp γ ≠ none := by
 intro γ hγ
 cases p with
 | mso β o n => simp [PV.sref1] at hγ; subst hγ; obtain ⟨_, hb, h1, _⟩ := h; simp [h1]
 | nso β o n => simp [PV.sref1] at hγ; subst hγ; obtain ⟨_, hb, b, cap, h1, _⟩ := h; simp [h1]
 | np β o n => cases h
 | _ => cases hγ
theorem Qcb.known {p : PV} {v : Value} (h : Qcb C ρ hp w p v) : (∀ γ ∈ p.ref1, hp γ ≠ none) /\ ∀ γ ∈ p.nref1, hp γ ≠ none := by
 cases p with
 | mp β i o => obtain ⟨b, hb, h1, h2, _⟩ := h; simp [PV.ref1, PV.nref1, h2]
 | mso β o n => obtain ⟨hb, h1, _⟩ := h; simp [PV.ref1, PV.nref1, h1]
 | rb β o n => obtain ⟨b, u, _, _, _, _, hb, h1, _⟩ := h; simp [PV.ref1, PV.nref1, h1]
 | np γ i o => obtain ⟨_, b, hb, h1, h2, _⟩ := h; simp [PV.ref1, PV.nref1, h2]
 | nso γ o n => obtain ⟨_, hb, b, cap, h1, _⟩ := h; simp [PV.ref1, PV.nref1, h1]
 | _ => exact ⟨(fun γ hγ => by cases hγ), (fun γ hγ => by cases hγ)⟩
theorem Qm.known {p : PV} {v : Value} (h : Qm C ρ hp w p v) : (∀ γ ∈ p.refs, hp γ ≠ none) /\ ∀ γ ∈ p.sref, hp γ ≠ none := by
 cases p with
 | mp β i o => obtain ⟨b, hb, h1, h2, _⟩ := h; simp [PV.refs, PV.sref, h2]
 | mso β o n => obtain ⟨hb, h1, _⟩ := h; simp [PV.refs, PV.sref, h1]
 | rb β o n => obtain ⟨b, u, _, _, _, _, hb, h1, _⟩ := h; simp [PV.refs, PV.sref, h1]
 | np γ i o => obtain ⟨_, b, hb, h1, h2, _⟩ := h; simp [PV.refs, PV.sref, h2]
 | nso γ o n => obtain ⟨_, hb, b, cap, h1, _⟩ := h; simp [PV.refs, PV.sref, h1]
 | rag cs =>
  obtain ⟨vs, _, _, h2⟩ := h
  refine ⟨fun γ hγ => (by cases hγ), fun γ hγ => ?_⟩
  obtain ⟨x, hx, hγ⟩ := List.mem_flatMap.1 hγ
  obtain ⟨i, hi⟩ := List.getElem?_of_mem hx
  exact (h2 i x hi).known γ hγ
 | nst β e ty xs =>
  obtain ⟨_, _, b, hb, cur, cap, _, g2, _, _, _, _, _, _, _, _, h11⟩ := h
  refine ⟨fun γ hγ => (by cases hγ), fun γ hγ => ?_⟩
  rcases List.mem_cons.1 hγ with rfl | hγ
  ·simp [g2]
  ·obtain ⟨x, hx, hγ⟩ := List.mem_flatMap.1 hγ
   obtain ⟨y, hy, hγ⟩ := List.mem_flatMap.1 hγ
   obtain ⟨i, hi⟩ := List.getElem?_of_mem hx
   obtain ⟨j, hj⟩ := List.getElem?_of_mem hy
   exact (h11 i x hi j y hj).known γ hγ
 | fn f first cap =>
  obtain ⟨fv, cv, _, _, _, h3, h4⟩ := h
  have g : ∀ (l : List PV) (u : Array Value), (∀ (i : Nat) (x : PV), l[i]? = some x -> Qcb C ρ hp w x (u.getD i undef)) -> (∀ γ ∈ l.flatMap PV.ref1, hp γ ≠ none) /\ ∀ γ ∈ l.flatMap PV.nref1, hp γ ≠ none := by
   intro l u hl
   refine ⟨fun γ hγ => ?_, fun γ hγ => ?_⟩ <;>
   ·obtain ⟨x, hx, hγ⟩ := List.mem_flatMap.1 hγ
    obtain ⟨i, hi⟩ := List.getElem?_of_mem hx
    first | exact (hl i x hi).known.1 γ hγ | exact (hl i x hi).known.2 γ hγ
  refine ⟨fun γ hγ => ?_, fun γ hγ => ?_⟩
  ·rcases List.mem_append.1 hγ with hγ | hγ
   ·exact (g first fv h3).1 γ hγ
   ·exact (g cap cv h4).1 γ hγ
  ·rcases List.mem_append.1 hγ with hγ | hγ
   ·exact (g first fv h3).2 γ hγ
   ·exact (g cap cv h4).2 γ hγ
 | _ => exact ⟨(fun γ hγ => by cases hγ), (fun γ hγ => by cases hγ)⟩
def isN (β : Nat) : Bool := decide (2000000 <= β)
def Qfh : PV -> PV
 | .nst _ _ _ _ => .undef
 | p => if p.refs.any isN || p.sref.any isN then .undef else p
def Q8w (F : Fr) : Fr := fun s => Qfh (F s)
def Cln (p : PV) : Prop := (∀ β ∈ p.refs, isN β = false) /\ (∀ β ∈ p.sref, isN β = false) /\ ∀ γ e ty xs, p ≠ .nst γ e ty xs
theorem Q8x (p : PV) : Cln (Qfh p) := by
 have h0 : Cln .undef := ⟨(fun β h => by cases h), (fun β h => by cases h), (fun _ _ _ _ h => by cases h)⟩
 unfold Qfh
 split
 ·exact h0
 ·rename_i hn
  split
  ·exact h0
  ·rename_i h
   simp only [Bool.or_eq_true, not_or, Bool.not_eq_true, List.any_eq_false] at h
   exact ⟨fun β hβ => by simpa using h.1 β hβ, fun β hβ => by simpa using h.2 β hβ, fun γ e ty xs => hn γ e ty xs⟩
theorem Cln.kill {p : PV} (h : Cln p) {B : List Nat} : Cln (if p.refs.any B.contains then .undef else p) := by
 split
 ·exact ⟨(fun β h => by cases h), (fun β h => by cases h), (fun _ _ _ _ h => by cases h)⟩
 ·exact h
theorem Qtz {β : Nat} {p : PV} (h : ∀ γ ∈ p.refs, γ ≠ β) : Qaq β p = p := by
 unfold Qaq
 rw [if_neg]
 intro hc
 exact h β (by simpa using hc) rfl
theorem Q23 {β : Nat} {p : PV} (h : ∀ γ ∈ p.sref1, γ ≠ β) : Qf6 β p = p := by
 cases p with
 | mso γ o n => simp only [Qf6]; rw [if_neg (h γ (by simp [PV.sref1]))]
 | nso γ o n => simp only [Qf6]; rw [if_neg (h γ (by simp [PV.sref1]))]
 | _ => rfl
theorem Q24 {β : Nat} {p : PV} (h : ∀ γ ∈ p.refs, γ ≠ β) (h2 : ∀ γ ∈ p.sref, γ ≠ β) (h3 : ∀ γ e ty xs, p ≠ .nst γ e ty xs) : Qbi β p = p := by
 cases p with
 | nst γ e ty xs => exact absurd rfl (h3 _ _ _ _)
 | rag cs =>
  simp only [Qbi]
  congr 1
  conv => rhs; rw [<- List.map_id cs]
  exact List.map_congr_left fun x hx => Q23 fun γ hγ => h2 γ (List.mem_flatMap.2 ⟨x, hx, hγ⟩)
 | nso γ o n => simp only [Qbi]; rw [if_neg (h2 γ (by simp [PV.sref]))]
 | np γ i o => simp only [Qbi]; rw [if_neg (h2 γ (by simp [PV.sref]))]
 | fn f first cap =>
  simp only [Qbi]
  rw [if_neg, Qtz h]
  intro hc
  exact h2 β (by simpa [PV.sref] using hc) rfl
 | _ => exact Qtz h
theorem Q25 {β γ : Nat} (h : 2000000 <= β) (h2 : isN γ = false) : γ ≠ β := by
 simp [isN] at h2; omega
abbrev bse (B : List Nat) (F : Fr) : Fr := Qaj B (Q8w F)
theorem Qyq (B : List Nat) (F : Fr) (s : Nat) : Cln (bse B F s) := (Q8x (F s)).kill
theorem Q26 {β : Nat} {B : List Nat} {F : Fr} (h : 2000000 <= β) : Qd5 β (bse B F) = bse B F := by
 funext s
 have hc := Qyq B F s
 exact Q24 (fun γ hγ => Q25 h (hc.1 γ hγ)) (fun γ hγ => Q25 h (hc.2.1 γ hγ)) hc.2.2
theorem Q27 {γ : Nat} {B : List Nat} {F : Fr} : Qd4 γ (bse B F) = bse B F := by
 funext s
 have hc := Qyq B F s
 show Qd3 γ (bse B F s) = _
 generalize bse B F s = p at *
 cases p with
 | nst γ' e ty xs => exact absurd rfl (hc.2.2 _ _ _ _)
 | _ => rfl
theorem Q28 {W : List (Nat × Nat)} {β : Nat} {J F : Fr} : Qd5 β (ovr W J F) = ovr W (Qd5 β J) (Qd5 β F) := by
 funext s; unfold Qd5 ovr; split <;> rfl
theorem Q29 {W : List (Nat × Nat)} {β : Nat} {J F : Fr} : Qd4 β (ovr W J F) = ovr W (Qd4 β J) (Qd4 β F) := by
 funext s; unfold Qd4 ovr; split <;> rfl
theorem Q3a {β d : Nat} {F : Fr} {v : PV} : Qd5 β (upd F d v) = upd (Qd5 β F) d (Qbi β v) := by
 funext s; unfold Qd5 upd; split <;> rfl
theorem Q3b {β d : Nat} {F : Fr} {v : PV} : Qd4 β (upd F d v) = upd (Qd4 β F) d (Qd3 β v) := by
 funext s; unfold Qd4 upd; split <;> rfl
theorem Q8y {β : Nat} {F : Fr} {s : Nat} : Qd5 β F s = Qbi β (F s) := rfl
theorem Q8z {β : Nat} {F : Fr} {s : Nat} : Qd4 β F s = Qd3 β (F s) := rfl
theorem Qadp (W : List (Nat × Nat)) (B : List Nat) : Fle fr (ovr W fr (bse B fr)) := fun s => by
 unfold ovr bse Qaj
 split
 ·exact .inl rfl
 ·split
  ·exact .inr rfl
  ·unfold Q8w Qfh
   split
   ·exact .inr rfl
   ·split
    ·exact .inr rfl
    ·exact .inl rfl
theorem Q80 {sk : List It} {x : SC} (hok : Qdg R sk) (W : List (Nat × Nat)) (B : List Nat) (I : Nat -> Fr -> HP -> Prop) (m0 : Nat) (h0 : I m0 fr hp)
  (h : ∀ m J hp, I m J hp -> vc C R (.c x :: .el (Qmg W (bse B fr) I m) :: sk) (ovr W J (bse B fr)) hp) : vc C R (.c (.loop x) :: sk) fr hp := by
 refine Qh6 (fun m fr' hp' => ∃ J, fr' = ovr W J (bse B fr) /\ I m J hp') m0 (Qadp W B).wk ⟨fr, rfl, h0⟩ ?_
 rintro m _ hp' ⟨J, rfl, hI⟩
 refine Qjk hok.1 _ _ _ _ _ _ (Nat.le_refl _) (.c x (.el ?_ hok.2)) (Fle.refl _) (h m J hp' hI)
 rintro f f' hp2 hf ⟨J2, hp3, m2, e2, hl, h2⟩
 exact Qpw hl (hf.wk.trans e2) ⟨J2, rfl, h2⟩
def Qbq (l : List (Nat × Nat)) : List PV := l.map fun x => .mso x.1 0 x.2
def Qoy (B n : Nat) : List (Nat × Nat) := (List.range n).map fun i => (B + i, 0)
def Qr2 (d : Nat) (S : List Nat) (γ n : Nat) (x : PV) (fr : Fr) : Fr := fun s => if s = γ then x else if S.contains s then .nso γ 0 n else Qaq d (fr s)
def hpN (d γ B n e ty e' ty' : Nat) (hp : HP) : HP := fun β => if β = d then none else if β = γ then some ⟨e, ty, [], false⟩ else if B <= β /\ β < B + n then some ⟨e', ty', [], false⟩ else hp β
theorem Qadq (d γ B n ty e' ty' : Nat) (S : List Nat) (hn : 0 < n) (hd : hp d = some ⟨1, ty, List.replicate n .nilS, false⟩) (hdB : isB d = false) (he' : 0 < e')
  (hγ : 2000000 <= γ) (hB : 2000000 <= B) (hγB : ¬ (B <= γ /\ γ < B + n)) (h1 : hp γ = none) (h2 : ∀ i, i < n -> hp (B + i) = none) (hS : ∀ s ∈ S, fr s = .ms d n) :
  Wk fr hp (Qr2 d S γ n (.nst γ 1 ty (Qbq (Qoy B n))) fr) (hpN d γ B n 1 ty e' ty' hp) := by
 rintro C tmps w ⟨ρ, hs⟩
 have hown := hs.own d _ hd
 have hblk := hown.blk
 obtain ⟨b, hρ⟩ : ∃ b, ρ d = some b := by
  cases hq : ρ d with
  | none => rw [hq] at hblk; simp at hblk; omega
  | some b => exact ⟨b, rfl⟩
 rw [hρ] at hblk
 simp only [Qi9 hdB] at hblk
 obtain ⟨hb1, hb2, cur, cap, c1, c2, c3, c4, c5⟩ := hblk
 have hdl : d < 1000000 := by simp [isB] at hdB; exact hdB
 have hBd : ∀ i, B + i ≠ d := fun i => by omega
 generalize hpE : hpN d γ B n 1 ty e' ty' hp = hp'
 obtain ⟨ρ', hρE⟩ : ∃ f : Nat -> Option Nat, f = fun β => if β = γ then some b else if B <= β /\ β < B + n then none else ρ β := ⟨_, rfl⟩
 have pγ : hp' γ = some ⟨1, ty, [], false⟩ := by subst hpE; simp only [hpN, if_neg (show ¬ γ = d by omega), if_true]
 have pd : hp' d = none := by subst hpE; simp only [hpN, if_true]
 have pB : ∀ β, B <= β /\ β < B + n -> hp' β = some ⟨e', ty', [], false⟩ := fun β hβ => by
  subst hpE; simp only [hpN]
  rw [if_neg (by omega), if_neg (by rintro rfl; exact hγB hβ), if_pos hβ]
 have po : ∀ β, β ≠ d -> β ≠ γ -> ¬ (B <= β /\ β < B + n) -> hp' β = hp β := fun β a1 a2 a3 => by
  subst hpE; simp only [hpN]; rw [if_neg a1, if_neg a2, if_neg a3]
 have rγ : ρ' γ = some b := by subst hρE; simp only [if_true]
 have rB : ∀ β, B <= β /\ β < B + n -> ρ' β = none := fun β hβ => by subst hρE; simp only []; rw [if_neg (by rintro rfl; exact hγB hβ), if_pos hβ]
 have ro : ∀ β, β ≠ γ -> ¬ (B <= β /\ β < B + n) -> ρ' β = ρ β := fun β a2 a3 => by subst hρE; simp only []; rw [if_neg a2, if_neg a3]
 have hBn : ∀ β, B <= β /\ β < B + n -> hp β = none := fun β hβ => by
  have := h2 (β - B) (by omega)
  rwa [show B + (β - B) = β by omega] at this
 have hX : ∀ c, Xof C ρ' hp' c -> Xof C ρ hp c := by
  rintro c (hx | ⟨β, hb, g1, g2, g3⟩)
  ·exact .inl hx
  ·by_cases e1 : β = γ
   ·subst e1; rw [rγ] at g3; cases g3; exact .inr ⟨d, _, hd, rfl, hρ⟩
   ·by_cases e2 : B <= β /\ β < B + n
    ·rw [rB β e2] at g3; cases g3
    ·by_cases e3 : β = d
     ·rw [e3, pd] at g1; cases g1
     ·rw [po β e3 e1 e2] at g1; rw [ro β e1 e2] at g3; exact .inr ⟨β, hb, g1, g2, g3⟩
 have hst : Qja w w (Xof C ρ hp) (Xof C ρ' hp') := ⟨fun _ _ _ => rfl, fun c _ hn hx => hn (hX c hx), Nat.le_refl _⟩
 have hcnd : ∀ β, hp β ≠ none -> β ≠ d -> Cnd ρ ρ' hp hp' w w β := fun β hk hne => by
  have a1 : β ≠ γ := fun e => hk (by rw [e]; exact h1)
  have a2 : ¬ (B <= β /\ β < B + n) := fun e => hk (hBn β e)
  refine ⟨ro β a1 a2, fun hb hβ => ⟨hb, by rw [po β hne a1 a2]; exact hβ, rfl, Nat.le_refl _, fun _ _ _ h => h, fun h => ⟨h, rfl, fun _ _ => rfl⟩⟩⟩
 have hcap : ∀ cap', Qa5 w b 1 cap' -> cap' = cap := by
  rintro cap' ⟨cur', ty', d1, d2⟩
  rw [c1] at d1; cases d1
  simp only [Nat.mul_one] at c2 d2; omega
 refine ⟨ρ', hs.sz, hs.ext, hs.keep, fun β hb hβ => ?_, fun β β' c g1 g2 g3 g4 => ?_, fun i => ?_⟩
 ·by_cases e1 : β = γ
  ·subst e1
   rw [pγ] at hβ; cases hβ
   refine ⟨Nat.one_pos, fun i x hx => by simp at hx, ?_⟩
   rw [rγ]
   have : isY β = false := by simp [isY]; omega
   simp only [this]
   exact ⟨hb1, hb2, cur, cap, c1, c2, Nat.zero_le _, c4, fun i x hx => by simp at hx⟩
  ·by_cases e2 : B <= β /\ β < B + n
   ·rw [pB β e2] at hβ; cases hβ
    refine ⟨he', fun i x hx => by simp at hx, ?_⟩
    rw [rB β e2]
   ·by_cases e3 : β = d
    ·rw [e3, pd] at hβ; cases hβ
    ·rw [po β e3 e1 e2] at hβ
     obtain ⟨q1, q2, q3⟩ := hs.own β hb hβ
     refine ⟨q1, q2, ?_⟩
     rw [ro β e1 e2]
     cases hq : ρ β with
     | none => rw [hq] at q3; exact q3
     | some c => rw [hq] at q3; exact ⟨q3.1, q3.2.1, q3.2.2.move rfl rfl rfl rfl hst.rc⟩
 ·have key : ∀ β c, hp' β ≠ none -> ρ' β = some c -> (β = γ /\ c = b) ∨ (β ≠ γ /\ β ≠ d /\ hp β ≠ none /\ ρ β = some c) := fun β c g1 g3 => by
   by_cases e1 : β = γ
   ·rw [e1, rγ] at g3; cases g3; exact .inl ⟨e1, rfl⟩
   ·by_cases e2 : B <= β /\ β < B + n
    ·rw [rB β e2] at g3; cases g3
    ·by_cases e3 : β = d
     ·rw [e3, pd] at g1; exact absurd rfl g1
     ·rw [po β e3 e1 e2] at g1; rw [ro β e1 e2] at g3; exact .inr ⟨e1, e3, g1, g3⟩
  rcases key β c g1 g3 with ⟨a1, a2⟩ | ⟨a1, a2, a3, a4⟩ <;> rcases key β' c g2 g4 with ⟨b1, b2⟩ | ⟨b1, b2, b3, b4⟩
  ·rw [a1, b1]
  ·rw [a2] at b4; exact absurd (hs.inj β' d b b3 (by simp [hd]) b4 hρ) b2
  ·rw [b2] at a4; exact absurd (hs.inj β d b a3 (by simp [hd]) a4 hρ) a2
  ·exact hs.inj β β' c a3 b3 a4 b4
 ·show Qm C ρ' hp' w (Qr2 d S γ n (.nst γ 1 ty (Qbq (Qoy B n))) fr i) _
  have isBγ : isB γ = true := by simp [isB]; omega
  unfold Qr2
  by_cases e1 : i = γ
  ·rw [if_pos e1]
   refine ⟨isBγ, Nat.one_pos, b, _, cur, cap, rγ, pγ, rfl, rfl, rfl, c1, c2, by simpa [Qbq, Qoy] using c3, c4, fun j x hx => ?_, fun j x hx k y hy => ?_⟩
   ·simp only [Qbq, Qoy, List.map_map, List.getElem?_map, Option.map_eq_some_iff] at hx
    obtain ⟨_, _, rfl⟩ := hx; rfl
   ·simp only [Qbq, Qoy, List.map_map, List.getElem?_map, Option.map_eq_some_iff] at hx
    obtain ⟨j', hj', rfl⟩ := hx
    have hx0 := hj'
    rw [List.getElem?_range (by have := (List.getElem?_eq_some_iff.1 hj').1; simpa using this)] at hj'
    cases hj'
    have hjn : j < n := by have := (List.getElem?_eq_some_iff.1 hx0).1; simpa using this
    cases k with
    | succ k => cases hy
    | zero =>
     cases hy
     show Qcz C ρ' hp' w (.mso (B + j) 0 0) _
     have hv := c5 j .nilS (by simp [List.getElem?_replicate, hjn]) 0 .nilS rfl
     have e0 : cur.getD (j * 1 + 0) undef = .slice none 0 0 := by generalize cur.getD (j * 1 + 0) undef = u at hv; cases hv; rfl
     refine ⟨by simp [isB]; omega, ⟨e', ty', [], false⟩, pB _ ⟨by omega, by omega⟩, Nat.le_refl _, .inl ⟨rB _ ⟨by omega, by omega⟩, e0, rfl, rfl⟩⟩
  ·rw [if_neg e1]
   by_cases e2 : S.contains i = true
   ·rw [if_pos e2]
    have hi := hS i (by simpa using e2)
    have hsl := hs.slots i
    rw [hi] at hsl
    obtain ⟨hb, g1, g2, g3⟩ := hsl
    rw [hd] at g1; cases g1
    rcases g3 with ⟨g3, _⟩ | ⟨b', cap', g3, g4, g5, g6⟩
    ·rw [hρ] at g3; cases g3
    ·rw [hρ] at g3; cases g3
     have := hcap _ g5
     simp only [List.length_replicate] at c3
     exact ⟨isBγ, _, b, cap', pγ, rγ, g4, g5, g6, by omega⟩
   ·rw [if_neg e2]
    have hk := Qm.kill (β := d) (hs.slots i)
    have hkn := hk.known
    refine hk.moveC hst (fun β hβ => (hcnd β (hkn.1 β hβ) (Qls β hβ).1).o) (fun β hβ => hcnd β (hkn.2 β hβ) fun e => ?_)
    have := hk.srefB β hβ
    rw [e, hdB] at this; cases this
theorem Q81 {sk : List It} {x : SC} (d γ B n ty e' ty' : Nat) (S : List Nat) (hn : 0 < n) (hd : hp d = some ⟨1, ty, List.replicate n .nilS, false⟩) (hdB : isB d = false) (he' : 0 < e')
  (hγ : 2000000 <= γ) (hB : 2000000 <= B) (hγB : ¬ (B <= γ /\ γ < B + n)) (h1 : hp γ = none) (h2 : ∀ i, i < n -> hp (B + i) = none) (hS : ∀ s ∈ S, fr s = .ms d n)
  (h : vc C R (.c (.loop x) :: sk) (Qr2 d S γ n (.nst γ 1 ty (Qbq (Qoy B n))) fr) (hpN d γ B n 1 ty e' ty' hp)) : vc C R (.c (.loop x) :: sk) fr hp := by
 rw [Qd6] at h ⊢
 obtain ⟨I, μ, ⟨fr0, hp0, h3, h3'⟩, h4⟩ := h
 exact ⟨I, μ, ⟨fr0, hp0, (Qadq d γ B n ty e' ty' S hn hd hdB he' hγ hB hγB h1 h2 hS).trans h3, h3'⟩, h4⟩
theorem Qn9 {tmps : Array Value} (h : Q5 C ρ fr hp tmps w) {β b : Nat} {hb : HB} {l : List Nat} (hB : isY β = false) (hβ : hp β = some hb) (hl : β ∈ l) (hρ : ρ β = some b) : ¬ Xof C ρ (Qan hp l) b := by
 have hblk := (h.own β hb hβ).blk
 rw [hρ] at hblk
 rintro (hx | ⟨γ, hg, h1, h2, h3⟩)
 ·exact h.notX0 (by simpa [hB] using hblk.1) hx
 ·obtain ⟨hg0, g1, _, _, _, _, g6⟩ := Qkq h1
  have := h.inj γ β b (by simp [g1]) (by simp [hβ]) h3 hρ
  subst this
  exact g6 h2 hl
theorem Qfd.snap {tmps : Array Value} (h : Q5 C ρ fr hp tmps w) {β o n : Nat} {v : Value} {l : List Nat} {hb : HB} (hr : Qfd ρ hp w β o n v) (hB : isY β = false) (hl : β ∈ l) (hβ : hp β = some hb) : Qx w (Xof C ρ (Qan hp l)) (.sl hb.e ((hb.xs.drop o).take n)) v := by
 obtain ⟨hb', g1, g2, g3⟩ := hr
 rw [hβ] at g1; cases g1
 rcases g3 with ⟨g3, rfl, rfl, rfl⟩ | ⟨b, cap, g3, rfl, g5, g6⟩
 ·simp only [List.take_zero]; exact .slE _ _ _ (Nat.zero_le _)
 ·have hown := h.own β hb hβ
  have hblk := hown.blk
  rw [g3] at hblk
  obtain ⟨_, hlt, cur, cap', c1, c2, c3, c4, c5⟩ := hblk
  obtain ⟨cur', ty', d1, d2⟩ := g5
  rw [c1] at d1; cases d1
  have hcc : o + cap = cap' := by
   rw [c2] at d2
   exact (Nat.eq_of_mul_eq_mul_right hown.epos d2).symm
  subst hcc
  have hlen : ((hb.xs.drop o).take n).length = n := by simp; omega
  have hget : ∀ (i : Nat) (x : PV), ((hb.xs.drop o).take n)[i]? = some x -> i < n /\ hb.xs[o + i]? = some x := fun i x hx => by
   have hi : i < n := by have := (List.getElem?_eq_some_iff.1 hx).1; omega
   rw [List.getElem?_take_of_lt hi, List.getElem?_drop] at hx
   exact ⟨hi, hx⟩
  have := Qx.sl (w := w) (X := Xof C ρ (Qan hp l)) hb.e ((hb.xs.drop o).take n) b (o * hb.e) cap (fun i j => cur.getD ((o + i) * hb.e + j) undef) (Qn9 h hB hβ hl g3) hlt (by omega) (by omega)
   (fun i x hx => (hown.len _ x (hget i x hx).2).1)
   (fun i hi j hj => by
    rw [hlen] at hi
    have := Qe4 (i := o + i) (e := hb.e) (o := 0) (j := j) (n := hb.e) (cap := o + cap) (by omega) (by omega) hj
    rw [Nat.add_zero] at this
    rw [show o * hb.e + i * hb.e + j = (o + i) * hb.e + j by rw [Nat.add_mul]]
    exact Qbc c1 (by rw [c2]; exact this))
   (fun i x hx j y hy => (c5 _ x (hget i x hx).2 j y hy).freeze)
  rwa [hlen] at this
def Qkn (e' : Nat) (ys : Nat -> List PV) (l : List (Nat × Nat)) : List PV := l.map fun x => .sl e' ((ys x.1).take x.2)
def Qww (γ : Nat) (l : List (Nat × Nat)) (hp : HP) : HP := FW.Qan hp (γ :: l.map (·.1))
theorem Qadr (s γ ty e' ty' m : Nat) (l : List (Nat × Nat)) (ys : Nat -> List PV) (fz : Nat -> Bool) (hn : m = l.length) (hfr : fr γ = .nst γ 1 ty (Qbq l)) (hs0 : fr s = .nso γ 0 m) (hγ : 2000000 <= γ) (hB : ∀ x ∈ l, 2000000 <= x.1)
  (hr : ∀ x ∈ l, hp x.1 = some ⟨e', ty', ys x.1, fz x.1⟩) : Wk fr hp (upd fr s (.sl 1 (Qkn e' ys l))) (Qww γ l hp) := by
 subst hn
 rintro C tmps w ⟨ρ, hs⟩
 have hf := hs.freeze (γ :: l.map (·.1))
 refine ⟨ρ, hf.sz, hf.ext, hf.keep, hf.own, hf.inj, fun i => ?_⟩
 unfold upd
 split
 ·rename_i hi; subst hi
  have h1 := hs.slots γ
  rw [hfr] at h1
  obtain ⟨_, _, b, hb, cur, cap, g1, g2, g3, g4, g5, g6, g7, g8, g9, g10, g11⟩ := h1
  have h2 := hs.slots i
  rw [hs0] at h2
  obtain ⟨_, hb', b', cap', k1, k2, k3, k4, k5, k6⟩ := h2
  rw [g2] at k1; cases k1
  rw [g1] at k2; cases k2
  generalize tmps.getD i undef = v at *
  subst k3
  have hY : isY γ = false := by simp [isY]; omega
  have hX : ¬ Xof C ρ (Qww γ l hp) b := Qn9 hs hY g2 (List.mem_cons_self ..) g1
  have hlt : b < w.heap.size := (Array.getElem?_eq_some_iff.1 g6).1
  have hlen : (Qkn e' ys l).length = l.length := by simp [Qkn]
  rw [g4] at k4
  obtain ⟨cur', ty'', k4, k7⟩ := k4
  rw [g6] at k4; cases k4
  have hm8 : l.length <= cap := by simpa [Qbq] using g8
  have hget : ∀ (i : Nat) (x : PV), (Qkn e' ys l)[i]? = some x -> ∃ h : i < l.length, x = .sl e' ((ys l[i].1).take l[i].2) := fun i x hx => by
   have hi : i < l.length := by have := (List.getElem?_eq_some_iff.1 hx).1; omega
   simp [Qkn, List.getElem?_eq_getElem hi] at hx
   exact ⟨hi, hx.symm⟩
  have := Qx.sl (w := w) (X := Xof C ρ (Qww γ l hp)) 1 (Qkn e' ys l) b 0 cap' (fun i j => cur.getD (i * 1 + j) undef) hX hlt (by rw [hlen]; exact k6) (by omega)
   (fun i x hx => by obtain ⟨_, rfl⟩ := hget i x hx; rfl)
   (fun i hi j hj => by
    rw [hlen] at hi
    rw [Nat.zero_add]
    exact Qbc g6 (by omega))
   (fun i x hx j y hy => by
    obtain ⟨hi, rfl⟩ := hget i x hx
    cases j with
    | succ j => cases hy
    | zero =>
     cases hy
     have hrow : (Qbq l)[i]? = some (.mso l[i].1 0 l[i].2) := by simp [Qbq, List.getElem?_eq_getElem hi]
     have := g11 i _ hrow 0 _ rfl
     have hB' := hB _ (List.getElem_mem hi)
     have hq := Qfd.snap (l := γ :: l.map (·.1)) hs this.2 (by simp [isY]; omega) (List.mem_cons_of_mem _ (List.mem_map.2 ⟨_, List.getElem_mem hi, rfl⟩)) (hr _ (List.getElem_mem hi))
     exact hq)
  rw [hlen] at this
  rw [Nat.zero_mul]
  exact this
 ·exact hf.slots i
def Qoa (R : Qh) : Qh := fun fr hp => ∃ fr' hp', Wk fr hp fr' hp' /\ R fr' hp'
theorem Qads {hp' : HP} (hw : Wk fr hp fr' hp') (h : R fr' hp') : Qoa R fr hp := ⟨fr', hp', hw, h⟩
theorem Q3c (h : R fr hp) : Qoa R fr hp := ⟨fr, hp, Wk.refl _ _, h⟩
theorem Qadt : KM (Qoa R) (Qoa R) := by
 rintro f f' hp hf ⟨fr', hp', h1, h2⟩
 exact ⟨fr', hp', hf.wk.trans h1, h2⟩
theorem Qr : Qdg (Qoa R) [] := ⟨Qadt, .nil⟩
theorem Q3d {P : Program} {f : FuncId} {fn : Func} {sf : SFn} {args : List PV} {Rr : PV -> Prop} (hm : P.follows .mixedOrders = true) (hf : P.funcs[f]? = some fn) (hname : (fn.name != "runtime.NumGoroutine") = true) (hc : Qf P fn = some sf) (hn : args.length <= sf.n /\ sf.n <= 1000000)
  (hv : ∀ C : Ctx, C.P = P -> vc C (Qoa (Qdq sf.rs Rr)) [.c sf.body] (Qfm args) hp0) : Qe P f args Rr := by
 simp only [Qf, Option.bind_eq_some_iff, Option.map_eq_some_iff] at hc
 obtain ⟨c, hb, sb, hcb, rs, hrs, rfl⟩ := hc
 refine ⟨by simp [Qly, hf, hb]; simpa using hname, fun w X vals hX hsz hrep => ?_⟩
 let C : Ctx := ⟨P, fn.ntmps, w, X, hX, hn.2, Qbb, fun _ h => h.elim⟩
 refine calls_of_wp hf hb ?_
 have hsz' : (vals ++ Array.replicate (fn.ntmps - vals.size) undef).size = fn.ntmps := by simp at hn ⊢; omega
 have hsim : Sim C (Qfm args) hp0 (vals ++ Array.replicate (fn.ntmps - vals.size) undef) w := by
  refine ⟨fun _ => none, hsz', Ext.refl _ _, fun _ h => h.elim, by simp [hp0], by simp [hp0], fun i => ?_⟩
  unfold Qfm
  cases hi : args[i]? with
  | none => trivial
  | some p =>
   simp only [Option.getD_some]
   have hil : i < vals.size := by rw [hsz]; exact (List.getElem?_eq_some_iff.1 hi).1
   have hr := hrep i p hi
   have e : (vals ++ Array.replicate (fn.ntmps - vals.size) undef).getD i undef = vals.getD i undef := by
    rw [Qbt, if_pos hil]
   rw [e]
   refine Qm.ofData (hr.mono (fun _ _ _ => rfl) (fun b _ hn hx => ?_) (Nat.le_refl _))
   rcases hx with hx | ⟨_, _, h1, _⟩
   ·exact hn hx
   ·simp [hp0] at h1
 have fin : ∀ (fr : Fr) (hp : HP) (a : Act) (w' : World), a.defers = [] -> Sim C fr hp a.tmps w' -> Qoa (Qdq rs Rr) fr hp ->
   a.defers = [] /\ ∃ v, (results fn a.tmps).run P w' = .ok v w' /\ ∃ v' r, Ending.returned v = .returned v' /\ Ext Qbb w w' /\ Qdc w' X r v' /\ Rr r := by
  rintro fr hp a w' hd hs0 ⟨fr1, hp1, hw, hr⟩
  obtain ⟨ρ, hs⟩ := hw C _ _ hs0
  obtain ⟨v, r, h1, h2, h3⟩ := Qnj (C := C) rfl hrs hs hr
  exact ⟨hd, v, h1, v, r, rfl, hs.ext, h2, h3⟩
 exact Qit (C := C) (R := Qoa (Qdq rs Rr)) hm c sb [] _ (Qfm args) hp0 _ w hcb ⟨fun fr hp a w' hd hs hv => (by rw [Qjh] at hv; exact fin fr hp a w' hd hs hv), fun id sk' he => (by simp [FW.Qac] at he), fin⟩ rfl hsim (hv C rfl)
theorem Qadu {d γ m i : Nat} {k : IntKind} (h : i < m) (he : (hp γ).map (·.e) = some 1) : Qex 1 (.nso γ 0 m) (.int k (i : Int)) d fr hp K = K (upd fr d (.np γ i 0)) hp := by
 have e : (0 : Int) <= (i : Int) := by omega
 simp [Qex, e, h, he]
theorem Qadv {d γ o m : Nat} : Qkp (.nso γ o m) d fr hp K = K (upd fr d (.int .i64 m)) hp := rfl
theorem Qag2 {d γ i ty : Nat} {l : List (Nat × Nat)} (hγ : fr γ = .nst γ 1 ty (Qbq l)) (h : i < l.length) : ldK 1 false (.np γ i 0) d fr hp K = K (upd fr d (.ms (l[i]'h).1 (l[i]'h).2)) hp := by
 have hh : ∃ h : i < l.length, K (upd fr d (.ms (l[i]'h).1 (l[i]'h).2)) hp ↔ K (upd fr d (.ms (l[i]'h).1 (l[i]'h).2)) hp := ⟨h, Iff.rfl⟩
 simp only [ldK, hγ]
 have h2 : i < (Qbq l).length := by simpa [Qbq] using h
 simp only [h2, exists_true_left, true_and, Nat.le_refl, Nat.zero_add, implies_true]
 simp [ldN, Qbq, PV.ncells, PV.cells]
theorem Qag3 {γ i ty m β : Nat} {l : List (Nat × Nat)} {fz : Bool} {e0 ty0 : Nat} {xs0 : List PV} (hγ : fr γ = .nst γ 1 ty ((Qbq l).set i .undef)) (hh : hp γ = some ⟨e0, ty0, xs0, false⟩) (h : i < l.length) (hB : isB β = true) :
  stK 1 (.np γ i 0) (.ms β m) fr hp K = K (upd (Qd4 γ fr) γ (.nst γ 1 ty (Qbq (l.set i (β, m))))) hp := by
 simp only [stK, hγ]
 have h2 : i < ((Qbq l).set i .undef).length := by simpa [Qbq] using h
 simp only [h2, exists_true_left, true_and, Nat.le_refl, Nat.zero_add, stN, hB, if_true, List.length_cons, List.length_nil, hh, Option.some.injEq, exists_eq_left']
 simp [Qm9, Qna, Qbq, PV.ncells, PV.cells, List.map_set]
theorem Qadw {e by_ ty ty' d β γ n : Nat} {xs : List PV} {y : PV} {fz : Bool} (hb : hp β = some ⟨e, ty, xs, false⟩) (hy : hp γ = some ⟨e, ty', [y], fz⟩) (h0 : 0 < e) (hn : n = xs.length) (h1 : (n + 1) * by_ <= 140737488355328) (h2 : n + 1 <= 9223372036854775807) (hB : 2000000 <= β) :
  Qeo e by_ ty (.ms β n) (.ms γ 1) d fr hp K = K (upd (Qd5 β fr) d (.ms β (n + 1))) (Qs hp β ⟨e, ty, xs ++ [y], false⟩) := by
 subst hn
 have b1 : isB β = true := by simp [isB]; omega
 have b2 : isY β = false := by simp [isY]; omega
 simp [Qeo, Qdx, hy, hb, h0, b1, b2, h1, h2]
theorem Qxq {α : Type} {f : α -> PV} {y : α} {e by_ ty ty' d β γ n : Nat} {xs : List α} {fz : Bool} (hb : hp β = some ⟨e, ty, xs.map f, false⟩) (hy : hp γ = some ⟨e, ty', [f y], fz⟩) (h0 : 0 < e) (hn : n = xs.length) (h1 : (n + 1) * by_ <= 140737488355328) (h2 : n + 1 <= 9223372036854775807) (hB : 2000000 <= β) :
  Qeo e by_ ty (.ms β n) (.ms γ 1) d fr hp K = K (upd (Qd5 β fr) d (.ms β (n + 1))) (Qs hp β ⟨e, ty, (xs ++ [y]).map f, false⟩) := by
 rw [Qadw hb hy h0 (by simp [hn]) h1 h2 hB]; simp
theorem Q3e {γ e ty k : Nat} {l : List (Nat × Nat)} (h : k < l.length) (hne : γ ≠ (l[k]'h).1) (hd : ∀ j (hj : j < l.length), l[j].1 = (l[k]'h).1 -> j = k) : Qbi (l[k]'h).1 (.nst γ e ty (Qbq l)) = .nst γ e ty ((Qbq l).set k .undef) := by
 simp only [Qbi, if_neg hne]
 congr 1
 refine List.ext_getElem (by simp [Qbq]) fun j h1 h2 => ?_
 have hj : j < l.length := by simpa [Qbq] using h1
 simp only [Qbq, List.getElem_map, List.getElem_set, PV.ncells, PV.cells, List.map_cons, List.map_nil, Qm9, Qf6]
 by_cases e : j = k
 ·subst e; simp
 ·rw [if_neg fun e2 => e (hd j hj e2), if_neg fun e2 => e e2.symm]
theorem Q3f {β γ o n : Nat} (h : γ ≠ β) : Qbi β (.nso γ o n) = .nso γ o n := by simp only [Qbi]; rw [if_neg h]
theorem Q82 {β γ o n : Nat} (h : γ ≠ β) : Qbi β (.np γ o n) = .np γ o n := by simp only [Qbi]; rw [if_neg h]
theorem Qag4 :
  (∀ (β : Nat) (k : IntKind) (n : Int), Qbi β (.int k n) = .int k n) /\
  (∀ (β : Nat) (b : Bool), Qbi β (.bool b) = .bool b) /\
  (∀ (β e : Nat) (xs : List PV), Qbi β (.sl e xs) = .sl e xs) /\
  (∀ (β : Nat) (cs : List PV), Qbi β (.agg cs) = .agg cs) /\
  (∀ (β : Nat) (cs : List PV), Qbi β (.pt cs) = .pt cs) /\
  (∀ (β : Nat), Qbi β .nilS = .nilS) /\
  (∀ (β : Nat), Qbi β .undef = .undef) /\
  (∀ (γ : Nat) (k : IntKind) (n : Int), Qd3 γ (.int k n) = .int k n) /\
  (∀ (γ : Nat) (b : Bool), Qd3 γ (.bool b) = .bool b) /\
  (∀ (γ e : Nat) (xs : List PV), Qd3 γ (.sl e xs) = .sl e xs) /\
  (∀ (γ : Nat) (cs : List PV), Qd3 γ (.agg cs) = .agg cs) /\
  (∀ (γ : Nat) (cs : List PV), Qd3 γ (.pt cs) = .pt cs) /\
  (∀ (γ : Nat), Qd3 γ .nilS = .nilS) /\
  (∀ (γ : Nat), Qd3 γ .undef = .undef) /\
  (∀ (γ β o n : Nat), Qd3 γ (.mso β o n) = .mso β o n) /\
  (∀ (γ β o n : Nat), Qd3 γ (.mp β o n) = .mp β o n) /\
  (∀ (γ β o n : Nat), Qd3 γ (.rb β o n) = .rb β o n) /\
  (∀ (γ β o n : Nat), Qd3 γ (.nso β o n) = .nso β o n) /\
  (∀ (γ β o n : Nat), Qd3 γ (.np β o n) = .np β o n) /\
  (∀ (β γ o n : Nat), Qaq β (.nso γ o n) = .nso γ o n) /\
  (∀ (β γ o n : Nat), Qaq β (.np γ o n) = .np γ o n) /\
  (∀ (β γ e ty : Nat) (xs : List PV), Qaq β (.nst γ e ty xs) = .nst γ e ty xs) /\
  (∀ (β : Nat), Qaq β .undef = .undef) /\
  (∀ (β : Nat) (cs : List PV), Qaq β (.pt cs) = .pt cs) := by
 refine ⟨?_, ?_, ?_, ?_, ?_, ?_, ?_, ?_, ?_, ?_, ?_, ?_, ?_, ?_, ?_, ?_, ?_, ?_, ?_, ?_, ?_, ?_, ?_, ?_⟩ <;> intros <;> rfl
theorem Q83 (β γ o n : Nat) : Qbi β (.mso γ o n) = if γ = β then .undef else .mso γ o n := Qvb β γ o n
theorem Q84 (β γ o n : Nat) : Qbi β (.mp γ o n) = if γ = β then .undef else .mp γ o n := Qvc β γ o n
end Go.FW
namespace Go.FW
open Go
variable {C : Ctx} {ρ : Nat -> Option Nat} {fr fr' : Fr} {hp : HP} {w : World} {K R : Qh}
theorem Qadx {F : Fr} {s : Nat} : Q8w F s = Qfh (F s) := rfl
theorem Qag5 :
  (∀ (k : IntKind) (n : Int), Qfh (.int k n) = .int k n) /\
  (∀ (b : Bool), Qfh (.bool b) = .bool b) /\
  (∀ (e : Nat) (xs : List PV), Qfh (.sl e xs) = .sl e xs) /\
  (∀ (cs : List PV), Qfh (.agg cs) = .agg cs) /\
  (∀ (cs : List PV), Qfh (.pt cs) = .pt cs) /\
  (Qfh .nilS = .nilS) /\ (Qfh .undef = .undef) /\
  (∀ (β o n : Nat), Qfh (.mso β o n) = if isN β then .undef else .mso β o n) /\
  (∀ (β o n : Nat), Qfh (.mp β o n) = if isN β then .undef else .mp β o n) /\
  (∀ (β o n : Nat), Qfh (.rb β o n) = if isN β then .undef else .rb β o n) /\
  (∀ (β o n : Nat), Qfh (.nso β o n) = if isN β then .undef else .nso β o n) /\
  (∀ (β o n : Nat), Qfh (.np β o n) = if isN β then .undef else .np β o n) := by
 refine ⟨fun _ _ => rfl, fun _ => rfl, fun _ _ => rfl, fun _ => rfl, fun _ => rfl, rfl, rfl, ?_, ?_, ?_, ?_, ?_⟩ <;> intros <;> simp [Qfh, PV.refs, PV.sref]
theorem Qage {γ e ty : Nat} {xs ys : List PV} (h : xs = ys) : PV.nst γ e ty xs = .nst γ e ty ys := by rw [h]
def rws (B n : Nat) (L : Nat -> Nat) : List (Nat × Nat) := (List.range n).map fun i => (B + i, L i)
theorem Qi1 (B n : Nat) (L : Nat -> Nat) : (rws B n L).length = n := by simp [rws]
theorem Qhm {B n i : Nat} {L : Nat -> Nat} (h : i < (rws B n L).length) : (rws B n L)[i] = (B + i, L i) := by simp [rws]
theorem Qady {B n i m : Nat} {L L' : Nat -> Nat} (h : ∀ j, j < n -> L' j = if j = i then m else L j) : (rws B n L).set i (B + i, m) = rws B n L' := by
 refine List.ext_getElem (by simp [rws]) fun j h1 h2 => ?_
 have hj : j < n := by simpa [rws] using h2
 rw [Qhm, List.getElem_set, Qhm, h j hj]
 split
 ·rename_i e; subst e; simp
 ·rename_i e; rw [if_neg fun e2 => e e2.symm]
theorem Q3g {γ e ty k B n : Nat} {L : Nat -> Nat} (h : k < n) (hne : ¬ (B <= γ /\ γ < B + n)) : Qbi (B + k) (.nst γ e ty (Qbq (rws B n L))) = .nst γ e ty ((Qbq (rws B n L)).set k .undef) := by
 have hk : k < (rws B n L).length := by rw [Qi1]; exact h
 have := Q3e (γ := γ) (e := e) (ty := ty) hk (by rw [Qhm]; simp only; omega) (fun j hj => by rw [Qhm, Qhm]; simp only; omega)
 rwa [Qhm] at this
theorem Qagf {d γ i ty B n : Nat} {L : Nat -> Nat} (hγ : fr γ = .nst γ 1 ty (Qbq (rws B n L))) (h : i < n) : ldK 1 false (.np γ i 0) d fr hp K = K (upd fr d (.ms (B + i) (L i))) hp := by
 rw [Qag2 hγ (by rw [Qi1]; exact h), Qhm]
theorem Qagg {γ i ty m B n : Nat} {L : Nat -> Nat} {e0 ty0 : Nat} {xs0 : List PV} (hγ : fr γ = .nst γ 1 ty ((Qbq (rws B n L)).set i .undef)) (hh : hp γ = some ⟨e0, ty0, xs0, false⟩) (h : i < n) (hB : 1000000 <= B) :
  stK 1 (.np γ i 0) (.ms (B + i) m) fr hp K = K (upd (Qd4 γ fr) γ (.nst γ 1 ty (Qbq (rws B n fun j => if j = i then m else L j)))) hp := by
 rw [Qag3 (fz := false) hγ hh (by rw [Qi1]; exact h) (by simp [isB]; omega), Qady fun j _ => rfl]
theorem Q85 {e' B n : Nat} {ys : Nat -> List PV} {L : Nat -> Nat} : Qkn e' ys (rws B n L) = (List.range n).map fun i => .sl e' ((ys (B + i)).take (L i)) := by
 simp [Qkn, rws]
theorem Q86 {d γ n : Nat} {S : List Nat} {x : PV} {s : Nat} : Qr2 d S γ n x fr s = if s = γ then x else if S.contains s then .nso γ 0 n else Qaq d (fr s) := rfl
theorem Qagh {d γ B n e ty e' ty' β : Nat} : hpN d γ B n e ty e' ty' hp β = if β = d then none else if β = γ then some ⟨e, ty, [], false⟩ else if B <= β /\ β < B + n then some ⟨e', ty', [], false⟩ else hp β := rfl
theorem Qadz {d γ B n e ty e' ty' i : Nat} (h : i < n) (h1 : B + i ≠ d) (h2 : B + i ≠ γ) : hpN d γ B n e ty e' ty' hp (B + i) = some ⟨e', ty', [], false⟩ := by
 rw [Qagh, if_neg h1, if_neg h2, if_pos ⟨by omega, by omega⟩]
theorem Qad0 {by_ ty d : Nat} {k k' : IntKind} {n c : Nat} (h2 : n <= c) (h3 : by_ * c <= 281474976710656) (h4 : c <= 9223372036854775807) :
  mkK 1 by_ ty .nilS (.int k (n : Int)) (.int k' (c : Int)) d fr hp K = K (upd (Qav d fr) d (.ms d n)) (Qs hp d ⟨1, ty, List.replicate n .nilS, false⟩) := by
 rw [Qy2 (e := 1) (by omega) rfl (by omega) (by omega) (by omega) (by omega)]; rfl
theorem Qagi {k c : Nat} (h : c < 3000000) : (3000000 + k = c) = False := by simp; omega
theorem Qad1 {k c : Nat} (h : c < 3000000) : (c = 3000000 + k) = False := by simp; omega
theorem Qagj {k j : Nat} : (3000000 + k = 3000000 + j) = (k = j) := by simp
attribute [go_sem] Qagi Qad1 Qagj Qad0 Q86 Q28 Q29 Q3a Q3b Q8y Q8z Q26 Q27 Qag4 Q83 Q84 Q3f Q82 Qadu Qadv Qadx Qag5
end Go.FW
