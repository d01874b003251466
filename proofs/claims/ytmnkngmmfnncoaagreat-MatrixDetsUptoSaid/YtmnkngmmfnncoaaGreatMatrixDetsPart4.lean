/- Part 4 of the proof of MatrixDets: FwNG, FwNS, FwNT, FwQA, FwSD, FwSE, FwSF, FwSG, FwSH, FwSI, FwSJ, FwSK, FwSL, FwUA, FwSM, FwUC, FwVA. Own lemmas; no conditions. -/
import Derived.Test.YtmnkngmmfnncoaaGreatMatrixDetsPart3
set_option linter.unusedSimpArgs false
set_option linter.unnecessarySimpa false
set_option linter.unusedVariables false
namespace Go.FW
open Go
variable {C : Ctx} {ρ : Nat -> Option Nat} {fr fr' : Fr} {hp hp' : HP} {w w' : World} {K R : Qf}
theorem Qqu {P : Program} {pr : Bool} (hP : C.P = P) {g : FuncId} {args pargs : List PV} {d : Option Nat} {G : Fr} {hp0 : HP} {Post : PV -> Fr -> HP -> Prop} (h : Qb9 P g pargs G hp0 Post) (gv : Nat -> Option Nat) (τ : Nat -> Nat) (hh : Qml C hp hp0 gv)
  (hτ : ∀ β γ, gv β = some γ -> τ γ = β) (hargs : args.map (rnP τ) = pargs) (hna : ∀ x ∈ args, ∀ γ ∈ x.refs ++ x.sref, ∃ β, gv β = some γ)
  (hG : ∀ s, 1000000 <= s -> G s = .undef ∨ ∃ s', 1000000 <= s' /\ G s = rnP τ (fr s') /\ ∀ γ ∈ (fr s').refs ++ (fr s').sref, ∃ β, gv β = some γ) (hpl : pargs.length <= 1000000) (hpr : pr = true -> ∀ β, gn gv β = none)
  (hK : ∀ (ρ : Nat -> Option Nat) (tmps : Array Value) (w : World), Q3 C ρ fr hp tmps w -> ∀ r F H, Post r F H -> (∀ ρ2 C2 v w', Q3 C2 ρ2 (Qe6 r F) H #[v] w' -> (∀ β, C2.fx β ≠ none -> H β ≠ none -> True) -> True) -> ∃ (eo : Nat -> Option Nat) (σ : Nat -> Nat) (fr2 : Fr) (hp2 : HP),
   (∀ γ β, eo γ = some β -> H β ≠ none /\ σ β = γ /\ isB γ = true /\ ((isY β = true /\ gn gv β = some γ) ∨ (isY β = false /\ isY γ = false /\ (hp γ = none ∨ ∃ β', gn gv β' = some γ)))) /\
   (∀ β γ, gn gv β = some γ -> isY β = true -> eo γ = some β) /\
   (∀ γ β, eo γ = some β -> hp2 γ = H β) /\ (∀ γ, eo γ = none -> (∃ β, gn gv β = some γ) -> hp2 γ = none) /\ (∀ γ, eo γ = none -> (¬ ∃ β, gn gv β = some γ) -> hp2 γ = hp γ) /\
   (∀ s, fr2 s = .undef ∨
    (d ≠ some s /\ fr2 s = fr s /\ (∀ γ ∈ (fr s).refs ++ (fr s).sref, (¬ ∃ β, gn gv β = some γ) ∨ ∃ β hb hb', gn gv β = some γ /\ isY β = true /\ hp γ = some hb /\ H β = some hb' /\ hb'.e = hb.e /\ hb.xs.length <= hb'.xs.length) /\ ∀ γ e ty xs, fr s = .nst γ e ty xs -> ¬ ∃ β, gn gv β = some γ) ∨
    (d = some s /\ fr2 s = rnP σ r /\ ∀ β ∈ r.refs ++ r.sref, eo (σ β) = some β) ∨
    (∃ s', 1000000 <= s' /\ (∃ γ e ty xs, F s' = .nst γ e ty xs) /\ fr2 s = rnP σ (F s') /\ ∀ β ∈ (F s').refs ++ (F s').sref, eo (σ β) = some β)) /\
   K fr2 hp2) : Qcj C pr (.fn g [] []) args d fr hp K := by
 subst hP
 refine ⟨h.1, fun ρ tmps w fv cv av hdN hs h1 h2 h3 _ _ hr3 => ?_⟩
 have e1 : fv = #[] := Array.eq_empty_of_size_eq_zero (by simpa using h1)
 have e2 : cv = #[] := Array.eq_empty_of_size_eq_zero (by simpa using h2)
 subst e1; subst e2
 simp only [Array.empty_append, Array.append_empty]
 refine (h.2 (Qnn C ρ fr hp hp0 tmps w gv hs hh pargs.length hpl) _ av w rfl rfl rfl (Qzb hs hh hτ h3 hargs hr3 hna hG hpl)).mono ?_
 rintro e w' ⟨v, ρ', r, F, H, rfl, hs2, hpost⟩
 obtain ⟨eo, σ, fr2, hp2, a1, a2, a3, a4, a5, a6, a7⟩ := hK ρ tmps w hs r F H hpost (fun _ _ _ _ _ _ => trivial)
 exact ⟨v, fr2, hp2, rfl, Q18 hs hh hs2 hdN a1 a2 a3 a4 a5 a6, fun hq => Q19 hs hh hs2 (hpr hq), a7⟩
def Qfl (r : PV) : Prop := (r.refs = [] /\ r.sref = []) /\ ∀ σ, rnP σ r = r
theorem Q2a {gv : Nat -> Option Nat} (h : ∀ β γ, gv β = some γ -> isR β = false) : gn gv = gv := by
 funext β
 cases hr : isR β with
 | false => exact Qkb hr
 | true =>
  unfold gn
  rw [if_pos hr]
  cases hq : gv β with
  | none => rfl
  | some γ => have := h β γ hq; rw [hr] at this; cases this
theorem Qve {P : Program} (hP : C.P = P) {pr : Bool} {g : FuncId} {args pargs : List PV} {d : Option Nat} {G : Fr} {hp0 : HP} {Post : PV -> Fr -> HP -> Prop} (h : Qb9 P g pargs G hp0 Post) (gv : Nat -> Option Nat) (τ : Nat -> Nat)
  (hR : ∀ β γ, gv β = some γ -> isR β = true /\ ∃ hb, hp γ = some hb /\ hp0 β = some ⟨hb.e, hb.ty, hb.xs, true⟩) (ha : ∀ β, hp0 β ≠ none -> ∃ γ, gv β = some γ) (hi : ∀ β β' γ, gv β = some γ -> gv β' = some γ -> β = β')
  (hτ : ∀ β γ, gv β = some γ -> τ γ = β) (hargs : args.map (rnP τ) = pargs) (hna : ∀ x ∈ args, ∀ γ ∈ x.refs ++ x.sref, ∃ β, gv β = some γ)
  (hG : ∀ s, 1000000 <= s -> G s = .undef ∨ ∃ s', 1000000 <= s' /\ G s = rnP τ (fr s') /\ ∀ γ ∈ (fr s').refs ++ (fr s').sref, ∃ β, gv β = some γ) (hpl : pargs.length <= 1000000)
  (hK : ∀ r F H, Post r F H -> Qfl r /\ K (Qby fr d r) hp) : Qcj C pr (.fn g [] []) args d fr hp K := by
 have g0 : ∀ β, gn gv β = none := fun β => by
  unfold gn
  split
  ·rfl
  ·rename_i hr
   cases hq : gv β with
   | none => rfl
   | some γ => exact absurd (hR β γ hq).1 hr
 have nog : ∀ γ : Nat, ¬ ∃ β, gn gv β = some γ := fun γ ⟨β, hβ⟩ => by rw [g0 β] at hβ; cases hβ
 refine Qqu hP h gv τ ⟨fun β γ hq => ?_, ha, hi⟩ hτ hargs hna hG hpl (fun _ => g0) (fun ρ tmps w hs r F H hpost _ => ?_)
 ·obtain ⟨h1, hb, h2, h3⟩ := hR β γ hq
  refine ⟨hb, h2, ?_, fun _ => h3, fun h => by rw [h1] at h; cases h⟩
  simp [isR] at h1; simp [isB]; omega
 ·obtain ⟨⟨⟨p1, p2⟩, p3⟩, hk⟩ := hK r F H hpost
  refine ⟨fun _ => none, id, Qby fr d r, hp, (fun _ _ h => by cases h), (fun β γ h => by rw [g0 β] at h; cases h), (fun _ _ h => by cases h), fun γ _ h => absurd h (nog γ), fun _ _ _ => rfl, fun s => ?_, hk⟩
  cases d with
  | none => exact .inr (.inl ⟨(by simp), rfl, fun γ _ => .inl (nog γ), fun γ _ _ _ _ => nog γ⟩)
  | some d =>
   by_cases e : s = d
   ·subst e
    refine .inr (.inr (.inl ⟨rfl, ?_, fun β hβ => by rw [p1, p2] at hβ; cases hβ⟩))
    rw [p3]; simp [Qby, upd]
   ·exact .inr (.inl ⟨by simp; exact fun h => e h.symm, by simp [Qby, upd, e], fun γ _ => .inl (nog γ), fun γ _ _ _ _ => nog γ⟩)
def Qrx (P : Program) (f : FuncId) (args : List PV) (hb1 hb2 : HB) (Post : PV -> List PV -> Prop) : Prop :=
 Qb9 P f args (fun _ => .undef) (Qj (Qj hp0 1000000 hb1) 1500001 ⟨hb2.e, hb2.ty, hb2.xs, true⟩) fun r F H => Qfl r /\ ∃ xs, H 1000000 = some ⟨hb1.e, hb1.ty, xs, false⟩ /\ xs.length = hb1.xs.length /\ Post r xs
theorem Qad2 {P : Program} (hP : C.P = P) {g : FuncId} {args pargs : List PV} {d : Option Nat} {β1 β2 : Nat} {hb1 hb2 : HB} {Post : PV -> List PV -> Prop} (h : Qrx P g pargs hb1 hb2 Post) (h1 : hp β1 = some hb1) (h2 : hp β2 = some hb2) (hne : β1 ≠ β2) (f1 : hb1.fz = false) (n1 : hb1.xs ≠ []) (B1 : isB β1 = true)
  (hargs : args.map (rnP fun x => if x = β1 then 1000000 else if x = β2 then 1500001 else x) = pargs) (hna : ∀ γ ∈ args.flatMap (fun x => x.refs ++ x.sref), γ = β1 ∨ γ = β2) (hpl : pargs.length <= 1000000)
  (hK : ∀ r xs, xs.length = hb1.xs.length -> Post r xs -> K (Qby fr d r) (Qj hp β1 ⟨hb1.e, hb1.ty, xs, false⟩)) : Qcj C false (.fn g [] []) args d fr hp K := by
 obtain ⟨gv, hgv⟩ : ∃ f : Nat -> Option Nat, f = fun x => if x = 1000000 then some β1 else if x = 1500001 then some β2 else none := ⟨_, rfl⟩
 have ga : ∀ β γ, gv β = some γ -> (β = 1000000 /\ γ = β1) ∨ (β = 1500001 /\ γ = β2) := fun β γ hq => by
  rw [hgv] at hq; simp only at hq
  split at hq
  ·cases hq; rename_i e; exact .inl ⟨e, rfl⟩
  ·split at hq
   ·cases hq; rename_i e; exact .inr ⟨e, rfl⟩
   ·cases hq
 have g0 : gv 1000000 = some β1 := by rw [hgv]; rfl
 have g1 : gv 1500001 = some β2 := by rw [hgv]; rfl
 have y0 : isY 1000000 = true := by decide
 have r0 : isR 1000000 = false := by decide
 have r1 : isR 1500001 = true := by decide
 have gna : ∀ β γ, gn gv β = some γ -> β = 1000000 /\ γ = β1 := fun β γ hq => by
  obtain ⟨k1, k2⟩ := Qi3 hq
  rcases ga β γ k2 with h | ⟨rfl, _⟩
  ·exact h
  ·rw [r1] at k1; cases k1
 have gn0 : gn gv 1000000 = some β1 := (Qkb r0).trans g0
 refine Qqu hP h gv _ ⟨fun β γ hq => ?_, fun β hq => ?_, fun β β' γ q1 q2 => ?_⟩ (fun β γ hq => ?_) hargs (fun x hx γ hγ => ?_) (fun s _ => .inl rfl) hpl (fun hq => by cases hq) (fun ρ tmps w hs r F H hp0 _ => ?_)
 ·rcases ga β γ hq with ⟨rfl, rfl⟩ | ⟨rfl, rfl⟩
  ·exact ⟨hb1, h1, by decide, (fun h => by rw [r0] at h; cases h), fun _ => ⟨by simp [Qj], f1, B1, fun h => by rw [y0] at h; cases h⟩⟩
  ·exact ⟨hb2, h2, by decide, (fun _ => by simp [Qj]), fun h => by rw [r1] at h; cases h⟩
 ·by_cases e : β = 1500001
  ·subst e; exact ⟨_, g1⟩
  ·by_cases e2 : β = 1000000
   ·subst e2; exact ⟨_, g0⟩
   ·simp [Qj, FW.hp0, e, e2] at hq
 ·rcases ga β γ q1 with ⟨rfl, rfl⟩ | ⟨rfl, rfl⟩ <;> rcases ga β' _ q2 with ⟨rfl, e⟩ | ⟨rfl, e⟩
  ·rfl
  ·exact absurd e hne
  ·exact absurd e.symm hne
  ·rfl
 ·rcases ga β γ hq with ⟨rfl, rfl⟩ | ⟨rfl, rfl⟩
  ·simp
  ·rw [if_neg (fun e => hne e.symm), if_pos rfl]
 ·rcases hna γ (List.mem_flatMap.2 ⟨x, hx, hγ⟩) with rfl | rfl
  ·exact ⟨_, g0⟩
  ·exact ⟨_, g1⟩
 ·obtain ⟨⟨⟨p1, p2⟩, p3⟩, xs, k1, k2, k4⟩ := hp0
  obtain ⟨eo, heo⟩ : ∃ f : Nat -> Option Nat, f = fun γ => if γ = β1 then some 1000000 else none := ⟨_, rfl⟩
  have ea : ∀ γ β, eo γ = some β -> γ = β1 /\ β = 1000000 := fun γ β hq => by
   rw [heo] at hq; simp only at hq
   split at hq
   ·cases hq; rename_i e; exact ⟨e, rfl⟩
   ·cases hq
  have eb1 : eo β1 = some 1000000 := by rw [heo]; simp
  refine ⟨eo, fun x => β1, Qby fr d r, Qj hp β1 ⟨hb1.e, hb1.ty, xs, false⟩, fun γ β hq => ?_, fun β γ hq _ => ?_, fun γ β hq => ?_, fun γ hq hg => ?_, fun γ hq hg => ?_, fun s => ?_, hK r xs k2 k4⟩
  ·obtain ⟨rfl, rfl⟩ := ea γ β hq
   exact ⟨by simp [k1], rfl, B1, .inl ⟨y0, gn0⟩⟩
  ·obtain ⟨rfl, rfl⟩ := gna β γ hq
   exact eb1
  ·obtain ⟨rfl, rfl⟩ := ea γ β hq
   rw [k1]; simp [Qj]
  ·obtain ⟨β, hβ⟩ := hg
   obtain ⟨rfl, rfl⟩ := gna β γ hβ
   rw [eb1] at hq; cases hq
  ·have : γ ≠ β1 := fun e => by subst e; rw [eb1] at hq; cases hq
   simp [Qj, this]
  ·have hsl := hs.slots s
   have hn : ∀ γ e ty xs, fr s = .nst γ e ty xs -> ¬ ∃ β, gn gv β = some γ := fun γ e ty xs e0 ⟨β, hβ⟩ => by
    rw [e0] at hsl
    obtain ⟨_, _, b, hb, _, _, _, l2, l3, _⟩ := hsl
    obtain ⟨rfl, rfl⟩ := gna β γ hβ
    rw [h1] at l2; cases l2; exact n1 l3
   have ho : ∀ γ ∈ (fr s).refs ++ (fr s).sref, (¬ ∃ β, gn gv β = some γ) ∨ ∃ β hb hb', gn gv β = some γ /\ isY β = true /\ hp γ = some hb /\ H β = some hb' /\ hb'.e = hb.e /\ hb.xs.length <= hb'.xs.length := fun γ _ => by
    by_cases e : γ = β1
    ·subst e; exact .inr ⟨_, _, _, gn0, y0, h1, k1, rfl, by simp [k2]⟩
    ·left
     rintro ⟨β, hβ⟩
     exact e (gna β γ hβ).2
   cases d with
   | none => exact .inr (.inl ⟨(by simp), rfl, ho, hn⟩)
   | some d =>
    by_cases e : s = d
    ·subst e
     refine .inr (.inr (.inl ⟨rfl, ?_, fun β hβ => by rw [p1, p2] at hβ; cases hβ⟩))
     rw [p3]
     simp [Qby, upd]
    ·exact .inr (.inl ⟨by simp; exact fun h => e h.symm, by simp [Qby, upd, e], ho, hn⟩)
def Qno (nm : Nat -> Bool) (p : PV) : PV := if (p.refs ++ p.sref).any nm then .undef else p
def Qea (nm : Nat -> Bool) (fr : Fr) : Fr := fun s => Qno nm (fr s)
def exH (nm ex : Nat -> Bool) (H hp : HP) : HP := fun x => if ex x then H x else if nm x then none else hp x
def exF (S : List Nat) (F fr : Fr) : Fr := fun s => if S.contains s then F s else fr s
theorem Q8f (p : PV) : rn1 id p = p := Q16 fun _ _ => rfl
theorem Q8g {p : PV} (h : ∀ γ e ty xs, p ≠ .nst γ e ty xs) : rnP id p = p := by
 have hm : ∀ l : List PV, l.map (rn1 id) = l := fun l => by
  conv => rhs; rw [<- List.map_id l]
  exact List.map_congr_left fun x _ => Q8f x
 cases p with
 | nst γ e ty xs => exact absurd rfl (h _ _ _ _)
 | fn f a b => simp only [rnP, hm]
 | rag cs => simp only [rnP, hm]
 | _ => rfl
def Qzc (xs : List PV) : Prop := ∀ x ∈ xs, Qdh x.ncells = x
theorem Qxo {γ e ty : Nat} {xs : List PV} (h : Qzc xs) : rnP id (.nst γ e ty xs) = .nst γ e ty xs := by
 simp only [rnP, id]
 congr 1
 conv => rhs; rw [<- List.map_id xs]
 refine List.map_congr_left fun x hx => ?_
 have : x.ncells.map (rn1 id) = x.ncells := by
  conv => rhs; rw [<- List.map_id x.ncells]
  exact List.map_congr_left fun y _ => Q8f y
 rw [this]; exact h x hx
theorem Qvf {P : Program} {pr : Bool} (hP : C.P = P) {g : FuncId} {args pargs : List PV} {d : Option Nat} {G : Fr} {hp1 : HP} {Post : PV -> Fr -> HP -> Prop} (h : Qb9 P g pargs G hp1 Post) (nm ex : Nat -> Bool) (S : List Nat)
  (hnm : ∀ x, nm x = true -> ∃ hb, hp x = some hb /\ hb.fz = false /\ 2000000 <= x) (hp1E : ∀ x, hp1 x = if nm x then hp x else none) (hargs : args = pargs) (hpl : pargs.length <= 1000000)
  (hst : ∀ x ∈ args, ∀ γ e ty xs, x ≠ .nst γ e ty xs) (hna : ∀ γ ∈ args.flatMap (fun x => x.refs ++ x.sref), nm γ = true)
  (hG : ∀ s, 1000000 <= s -> G s = .undef ∨ ∃ γ e ty xs, G s = fr s /\ fr s = .nst γ e ty xs /\ Qzc xs /\ ∀ γ ∈ (fr s).refs ++ (fr s).sref, nm γ = true)
  (hex : ∀ x, ex x = true -> (hp x = none ∨ nm x = true) /\ 2000000 <= x) (hpr : pr = true -> ∀ x, nm x = false)
  (hK : ∀ r F H, Post r F H -> (∀ x, ex x = true -> H x ≠ none) /\ (∀ γ e ty xs, r ≠ .nst γ e ty xs) /\ (∀ β ∈ r.refs ++ r.sref, ex β = true) /\ (∀ s ∈ S, 1000000 <= s /\ (∃ γ e ty xs, F s = .nst γ e ty xs /\ Qzc xs) /\ ∀ β ∈ (F s).refs ++ (F s).sref, ex β = true) /\ K (exF S F (Qby (Qea nm fr) d r)) (exH nm ex H hp)) :
  Qcj C pr (.fn g [] []) args d fr hp K := by
 obtain ⟨gv, hgv⟩ : ∃ f : Nat -> Option Nat, f = fun x => if nm x then some x else none := ⟨_, rfl⟩
 have ga : ∀ β γ, gv β = some γ -> β = γ /\ nm γ = true := fun β γ hq => by
  rw [hgv] at hq; simp only at hq
  split at hq
  ·cases hq; rename_i e; exact ⟨rfl, e⟩
  ·cases hq
 have gb : ∀ γ, nm γ = true -> gv γ = some γ := fun γ hγ => by rw [hgv]; simp [hγ]
 have gN : ∀ γ, (∃ β, gv β = some γ) -> nm γ = true := fun γ ⟨β, hβ⟩ => (ga β γ hβ).2
 have gr : ∀ β γ, gv β = some γ -> isR β = false := fun β γ hq => by
  obtain ⟨rfl, hn⟩ := ga β γ hq
  obtain ⟨_, _, _, k3⟩ := hnm β hn
  simp [isR]; omega
 refine Qqu hP h gv id ⟨fun β γ hq => ?_, fun β hq => ?_, fun β β' γ q1 q2 => ?_⟩ (fun β γ hq => (ga β γ hq).1.symm) ?_ (fun x hx γ hγ => ⟨γ, gb γ (hna γ (List.mem_flatMap.2 ⟨x, hx, hγ⟩))⟩) (fun s hs => ?_) hpl (fun hq β => by
  rw [Q2a gr, hgv]; simp only; rw [hpr hq β]; rfl) (fun ρ tmps w hs r F H hpost _ => ?_)
 ·obtain ⟨rfl, hn⟩ := ga β γ hq
  obtain ⟨hb, k1, k2, k3⟩ := hnm β hn
  exact ⟨hb, k1, by simp [isB]; omega, (fun h => by simp [isR] at h; omega), fun _ => ⟨by rw [hp1E, if_pos hn]; exact k1, k2, by simp [isB]; omega, fun _ => by simp [isY]; omega⟩⟩
 ·refine ⟨β, gb β ?_⟩
  cases hn : nm β with
  | true => rfl
  | false => rw [hp1E, hn] at hq; simp at hq
 ·rw [(ga β γ q1).1, (ga β' γ q2).1]
 ·rw [<- hargs]
  conv => rhs; rw [<- List.map_id args]
  exact List.map_congr_left fun x hx => Q8g (hst x hx)
 ·rcases hG s hs with e | ⟨γ, e, ty, xs, e1, e2, e3, e4⟩
  ·exact .inl e
  ·refine .inr ⟨s, hs, ?_, fun γ hγ => ⟨γ, gb γ (e4 γ hγ)⟩⟩
   rw [e1, e2, Qxo e3]
 ·rw [Q2a gr]
  obtain ⟨a1, a2, a3, a4, a5⟩ := hK r F H hpost
  obtain ⟨eo, heo⟩ : ∃ f : Nat -> Option Nat, f = fun x => if ex x then some x else none := ⟨_, rfl⟩
  have ea : ∀ γ β, eo γ = some β -> γ = β /\ ex γ = true := fun γ β hq => by
   rw [heo] at hq; simp only at hq
   split at hq
   ·cases hq; rename_i e; exact ⟨rfl, e⟩
   ·cases hq
  have eb : ∀ γ, ex γ = true -> eo γ = some γ := fun γ hγ => by rw [heo]; simp [hγ]
  have en : ∀ γ, eo γ = none -> ex γ = false := fun γ hγ => by
   cases hq : ex γ with
   | false => rfl
   | true => rw [eb γ hq] at hγ; cases hγ
  refine ⟨eo, id, exF S F (Qby (Qea nm fr) d r), exH nm ex H hp, fun γ β hq => ?_, fun β γ hq hy => ?_, fun γ β hq => ?_, fun γ hq hg => ?_, fun γ hq hg => ?_, fun s => ?_, a5⟩
  ·obtain ⟨rfl, he⟩ := ea γ β hq
   obtain ⟨k1, k2⟩ := hex γ he
   exact ⟨a1 γ he, rfl, by simp [isB]; omega, .inr ⟨by simp [isY]; omega, by simp [isY]; omega, k1.imp id fun hn => ⟨γ, gb γ hn⟩⟩⟩
  ·obtain ⟨rfl, hn⟩ := ga β γ hq
   obtain ⟨_, _, _, k3⟩ := hnm β hn
   simp [isY] at hy; omega
  ·obtain ⟨rfl, he⟩ := ea γ β hq
   simp [exH, he]
  ·simp [exH, en γ hq, gN γ hg]
  ·have : nm γ = false := by
    cases hn : nm γ with
    | false => rfl
    | true => exact absurd ⟨γ, gb γ hn⟩ hg
   simp [exH, en γ hq, this]
  ·unfold exF
   by_cases hS : S.contains s = true
   ·rw [if_pos hS]
    obtain ⟨b1, ⟨γ, e, ty, xs, b2, b3⟩, b4⟩ := a4 s (by simpa using hS)
    refine .inr (.inr (.inr ⟨s, b1, ⟨γ, e, ty, xs, b2⟩, ?_, fun β hβ => eb β (b4 β hβ)⟩))
    rw [b2, Qxo b3]
   ·rw [if_neg hS]
    have old : d ≠ some s -> Qea nm fr s = .undef ∨ (d ≠ some s /\ Qea nm fr s = fr s /\ (∀ γ ∈ (fr s).refs ++ (fr s).sref, (¬ ∃ β, gv β = some γ) ∨ ∃ β hb hb', gv β = some γ /\ isY β = true /\ hp γ = some hb /\ H β = some hb' /\ hb'.e = hb.e /\ hb.xs.length <= hb'.xs.length) /\ ∀ γ e ty xs, fr s = .nst γ e ty xs -> ¬ ∃ β, gv β = some γ) := fun hds => by
     unfold Qea Qno
     split
     ·exact .inl rfl
     ·rename_i hno
      have hno' : ∀ γ ∈ (fr s).refs ++ (fr s).sref, ¬ ∃ β, gv β = some γ := fun γ hγ hg => hno (List.any_eq_true.2 ⟨γ, hγ, gN γ hg⟩)
      exact .inr ⟨hds, rfl, fun γ hγ => .inl (hno' γ hγ), fun γ e ty xs e0 => hno' γ (by rw [e0]; simp [PV.sref])⟩
    cases d with
    | none =>
     simp only [Qby]
     rcases old (by simp) with h | h
     ·exact .inl h
     ·exact .inr (.inl h)
    | some d =>
     by_cases e : s = d
     ·subst e
      refine .inr (.inr (.inl ⟨rfl, ?_, fun β hβ => eb β (a3 β hβ)⟩))
      rw [Q8g a2]
      simp [Qby, upd]
     ·have e1 : Qby (Qea nm fr) (some d) r s = Qea nm fr s := by simp [Qby, upd, e]
      rw [e1]
      rcases old (by simp; exact fun h => e h.symm) with h | h
      ·exact .inl h
      ·exact .inr (.inl h)
end Go.FW
namespace Go.FW
open Go
variable {C : Ctx} {ρ : Nat -> Option Nat} {fr fr' : Fr} {hp : HP} {w : World} {K R : Qf}
theorem Q6j {B : List Nat} {F : Fr} {β δ : Nat} (hβ : B.contains β = true) (h2 : β < 1000000) : mvF β δ (bse B F) = bse B F := Qxn (.inl hβ) (.inl h2)
theorem rnPs :
  (∀ (σ : Nat -> Nat) (k : IntKind) (n : Int), rnP σ (.int k n) = .int k n) /\
  (∀ (σ : Nat -> Nat) (b : Bool), rnP σ (.bool b) = .bool b) /\
  (∀ (σ : Nat -> Nat) (e : Nat) (xs : List PV), rnP σ (.sl e xs) = .sl e xs) /\
  (∀ (σ : Nat -> Nat) (cs : List PV), rnP σ (.agg cs) = .agg cs) /\
  (∀ (σ : Nat -> Nat) (cs : List PV), rnP σ (.tup cs) = .tup cs) /\
  (∀ (σ : Nat -> Nat) (cs : List PV), rnP σ (.pt cs) = .pt cs) /\
  (∀ (σ : Nat -> Nat), rnP σ .nilS = .nilS) /\
  (∀ (σ : Nat -> Nat), rnP σ .undef = .undef) /\
  (∀ (σ : Nat -> Nat) (β o n : Nat), rnP σ (.mso β o n) = .mso (σ β) o n) /\
  (∀ (σ : Nat -> Nat) (β o n : Nat), rnP σ (.mp β o n) = .mp (σ β) o n) /\
  (∀ (σ : Nat -> Nat) (β o n : Nat), rnP σ (.nso β o n) = .nso (σ β) o n) /\
  (∀ (σ : Nat -> Nat) (β o n : Nat), rnP σ (.np β o n) = .np (σ β) o n) /\
  (∀ (σ : Nat -> Nat) (cs : List PV), rnP σ (.rag cs) = .rag (cs.map (rn1 σ))) := by
 refine ⟨?_, ?_, ?_, ?_, ?_, ?_, ?_, ?_, ?_, ?_, ?_, ?_, ?_⟩ <;> intros <;> rfl
theorem rn1s :
  (∀ (σ : Nat -> Nat) (k : IntKind) (n : Int), rn1 σ (.int k n) = .int k n) /\
  (∀ (σ : Nat -> Nat) (b : Bool), rn1 σ (.bool b) = .bool b) /\
  (∀ (σ : Nat -> Nat) (e : Nat) (xs : List PV), rn1 σ (.sl e xs) = .sl e xs) /\
  (∀ (σ : Nat -> Nat), rn1 σ .nilS = .nilS) /\
  (∀ (σ : Nat -> Nat), rn1 σ .undef = .undef) /\
  (∀ (σ : Nat -> Nat) (β o n : Nat), rn1 σ (.mso β o n) = .mso (σ β) o n) /\
  (∀ (σ : Nat -> Nat) (β o n : Nat), rn1 σ (.nso β o n) = .nso (σ β) o n) := by
 refine ⟨?_, ?_, ?_, ?_, ?_, ?_, ?_⟩ <;> intros <;> rfl
theorem Qaf5 :
  (∀ (γ : Nat) (k : IntKind) (n : Int), Qdm γ (.int k n) = .int k n) /\
  (∀ (γ : Nat) (b : Bool), Qdm γ (.bool b) = .bool b) /\
  (∀ (γ e : Nat) (xs : List PV), Qdm γ (.sl e xs) = .sl e xs) /\
  (∀ (γ : Nat) (cs : List PV), Qdm γ (.agg cs) = .agg cs) /\
  (∀ (γ : Nat) (cs : List PV), Qdm γ (.tup cs) = .tup cs) /\
  (∀ (γ : Nat) (cs : List PV), Qdm γ (.pt cs) = .pt cs) /\
  (∀ (γ : Nat), Qdm γ .nilS = .nilS) /\
  (∀ (γ : Nat), Qdm γ .undef = .undef) /\
  (∀ (γ β o n : Nat), Qdm γ (.mso β o n) = if β = γ then .nso γ o n else .mso β o n) /\
  (∀ (γ β o n : Nat), Qdm γ (.mp β o n) = if β = γ then .np γ o n else .mp β o n) /\
  (∀ (γ β o n : Nat), Qdm γ (.nso β o n) = .nso β o n) /\
  (∀ (γ β o n : Nat), Qdm γ (.np β o n) = .np β o n) := by
 refine ⟨?_, ?_, ?_, ?_, ?_, ?_, ?_, ?_, ?_, ?_, ?_, ?_⟩ <;> intros <;> rfl
theorem Qaaw {γ s : Nat} {x : PV} : Qza γ x fr s = if s = γ then x else Qdm γ (fr s) := rfl
theorem Qaax {args : List PV} {G : Fr} {s : Nat} : Qkt args G s = if s < 1000000 then (args[s]?).getD .undef else G s := rfl
theorem Qaay {nm : Nat -> Bool} {s : Nat} : Qea nm fr s = Qno nm (fr s) := rfl
theorem Qaaz {nm : Nat -> Bool} {p : PV} : Qno nm p = if (p.refs ++ p.sref).any nm then .undef else p := rfl
theorem Qad3 {nm ex : Nat -> Bool} {H : HP} {x : Nat} : exH nm ex H hp x = if ex x then H x else if nm x then none else hp x := rfl
theorem Qad4 {S : List Nat} {F : Fr} {s : Nat} : exF S F fr s = if S.contains s then F s else fr s := rfl
theorem Qqv (l : List (Nat × Nat)) : Qzc (Qaf l) := fun x hx => by
 obtain ⟨y, _, rfl⟩ := List.mem_map.1 hx; rfl
theorem Qaf6 {d β n ty e : Nat} {xs ys : List PV} (hb : hp β = some ⟨e, ty, xs, false⟩) (he : 0 < e) (hn : n = xs.length) (hl : ys.length = n) :
  Qjc e (.ms β n) (.sl e ys) d fr hp K = K (upd fr d (.int .i64 n)) (Qj hp β ⟨e, ty, ys, false⟩) := by
 rw [Q4b hb he hn]
 have h1 : ys.take n = ys := List.take_of_length_le (by omega)
 have h2 : xs.drop ys.length = [] := List.drop_eq_nil_of_le (by omega)
 rw [h1, h2, List.append_nil]
 congr 2
 ·congr 1; congr 1; omega
attribute [go_sem] Qaaq Qaar Qad0 Qad1 Qadz Q6j rnPs rn1s Qaf5 Qaaw Qaax Qaay Qaaz Qad3 Qad4
end Go.FW
namespace Go.FW
open Go
variable {C : Ctx} {ρ : Nat -> Option Nat} {fr fr' : Fr} {hp : HP} {w : World} {K R : Qf}
def Qdn (B i n : Nat) (L : Nat -> Nat) : List PV := Qaf (rws B i L) ++ List.replicate (n - i) .nilS
theorem Q2b (B n : Nat) (L : Nat -> Nat) : List.replicate n PV.nilS = Qdn B 0 n L := by simp [Qdn, rws, Qaf]
theorem Q2c (B n : Nat) (L : Nat -> Nat) : Qdn B n n L = Qaf (rws B n L) := by simp [Qdn]
theorem Qo3 {B i n : Nat} {L : Nat -> Nat} (h : i <= n) : (Qdn B i n L).length = n := by simp [Qdn, Qaf, rws]; omega
theorem Q6k {B i n j : Nat} {L : Nat -> Nat} (h : j < i) : (Qdn B i n L)[j]? = some (.ms (B + j) (L j)) := by
 simp [Qdn, Qaf, rws, List.getElem?_append, h]
theorem Q6l {B i n : Nat} {L : Nat -> Nat} (h : i < n) : (Qdn B i n L).set i (.ms (B + i) (L i)) = Qdn B (i + 1) n L := by
 have h1 : (Qaf (rws B i L)).length = i := by simp [Qaf, rws]
 unfold Qdn
 rw [List.set_append, if_neg (by omega), h1, Nat.sub_self]
 have h2 : Qaf (rws B (i + 1) L) = Qaf (rws B i L) ++ [.ms (B + i) (L i)] := by simp [Qaf, rws, List.range_succ]
 rw [h2, List.append_assoc]
 congr 1
 obtain ⟨k, hk⟩ : ∃ k, n - i = k + 1 := ⟨n - i - 1, by omega⟩
 rw [hk, show n - (i + 1) = k by omega, List.replicate_succ]
 rfl
theorem Qaa0 {γ i n ty B m : Nat} {L : Nat -> Nat} {e0 ty0 : Nat} {xs0 : List PV} (hγ : fr γ = .nst γ 1 ty (Qdn B i n L)) (hh : hp γ = some ⟨e0, ty0, xs0, false⟩) (h : i < n) (hB : 1000000 <= B) (hm : L i = m) :
  stK 1 (.np γ i 0) (.ms (B + i) m) fr hp K = K (upd (Qdc γ fr) γ (.nst γ 1 ty (Qdn B (i + 1) n L))) hp := by
 subst hm
 have hl : i < (Qdn B i n L).length := by rw [Qo3 (by omega)]; exact h
 have hb : isB (B + i) = true := by simp [isB]; omega
 have h0 : (Qdn B i n L)[i] = .nilS := by
  have h1 : (Qaf (rws B i L)).length = i := by simp [Qaf, rws]
  simp [Qdn, List.getElem_append, h1]
 simp only [stK, hγ, hl, exists_true_left, true_and, Nat.le_refl, Nat.zero_add, stN, hb, if_true, List.length_cons, List.length_nil, hh, Option.some.injEq, exists_eq_left', h0]
 rw [<- Q6l h]
 simp [Qdh, Qie, PV.ncells, PV.cells]
theorem Qaa1 {d γ j i n ty B : Nat} {L : Nat -> Nat} (hγ : fr γ = .nst γ 1 ty (Qdn B i n L)) (h : j < i) (hi : i <= n) : ldK 1 false (.np γ j 0) d fr hp K = K (upd fr d (.ms (B + j) (L j))) hp := by
 have hl : j < (Qdn B i n L).length := by rw [Qo3 hi]; omega
 have h0 : (Qdn B i n L)[j] = .ms (B + j) (L j) := by
  have := Q6k (B := B) (n := n) (L := L) h
  rw [List.getElem?_eq_getElem hl] at this
  exact Option.some.inj this
 simp only [ldK, hγ, hl, exists_true_left, true_and, Nat.le_refl, Nat.zero_add, implies_true, h0]
 simp [ldN, PV.ncells, PV.cells]
theorem Qry {σ : Nat -> Nat} {p : PV} (h : p = .nilS ∨ ∃ β n, p = .ms β n) (hσ : ∀ β n, p = .ms β n -> σ β = β) : Qdh (p.ncells.map (rn1 σ)) = p := by
 rcases h with rfl | ⟨β, n, rfl⟩
 ·rfl
 ·have := hσ β n rfl
  simp [PV.ncells, PV.cells, rn1, Qdh, this]
theorem Qaa2 {β δ γ e ty B i n : Nat} {L : Nat -> Nat} (hβ : β < 1000000) (hB : 2000000 <= B) (hγ : 2000000 <= γ) : rnP (mvN β δ) (.nst γ e ty (Qdn B i n L)) = .nst γ e ty (Qdn B i n L) := by
 have e1 : mvN β δ γ = γ := by unfold mvN; rw [if_neg (by omega)]
 simp only [rnP, e1]
 congr 1
 conv => rhs; rw [<- List.map_id (Qdn B i n L)]
 refine List.map_congr_left fun x hx => ?_
 rcases List.mem_append.1 hx with hx | hx
 ·obtain ⟨y, hy, rfl⟩ := List.mem_map.1 hx
  obtain ⟨j, hj, rfl⟩ := List.mem_map.1 hy
  refine Qry (.inr ⟨_, _, rfl⟩) fun β' n' h => ?_
  cases h; unfold mvN; rw [if_neg (by omega)]
 ·obtain rfl := List.eq_of_mem_replicate hx
  exact Qry (.inl rfl) fun _ _ h => by cases h
def Qav (B n w : Nat) (π : Nat -> Nat) : List (Nat × Nat) := (List.range n).map fun r => (B + π r, w)
theorem Qaf7 (B n w : Nat) : rws B n (fun _ => w) = Qav B n w id := rfl
theorem Qwn (B n w : Nat) (π : Nat -> Nat) : (Qav B n w π).length = n := by simp [Qav]
theorem Qvg {B n w r : Nat} {π : Nat -> Nat} (h : r < (Qav B n w π).length) : (Qav B n w π)[r] = (B + π r, w) := by simp [Qav]
theorem Qqw {B n w : Nat} {π : Nat -> Nat} : ∀ β ∈ (Qaf (Qav B n w π)).flatMap (fun x => x.ncells.flatMap PV.sref1), ∃ r, r < n /\ β = B + π r := by
 intro β hβ
 obtain ⟨x, hx, hβ⟩ := List.mem_flatMap.1 hβ
 obtain ⟨y, hy, rfl⟩ := List.mem_map.1 hx
 obtain ⟨r, hr, rfl⟩ := List.mem_map.1 hy
 exact ⟨r, List.mem_range.1 hr, by simpa [PV.ncells, PV.cells, PV.sref1] using hβ⟩
def Q5 {α : Type} (p : α -> PV) (f : Nat -> α) (w : Nat) : List PV := (List.range w).map fun c => p (f c)
theorem Qao {α : Type} (p : α -> PV) (f : Nat -> α) (w : Nat) : (Q5 p f w).length = w := by simp [Q5]
theorem Qeq {α : Type} {p : α -> PV} {f : Nat -> α} {w c : Nat} (h : c < (Q5 p f w).length) : (Q5 p f w)[c] = p (f c) := by simp [Q5]
theorem Q6m {α : Type} {p : α -> PV} {f g : Nat -> α} {w c : Nat} {v : α} (h : ∀ k, k < w -> g k = if k = c then v else f k) : (Q5 p f w).set c (p v) = Q5 p g w := by
 refine List.ext_getElem (by simp [Q5]) fun j h1 h2 => ?_
 have hj : j < w := by simpa [Q5] using h2
 rw [Qeq, List.getElem_set, Qeq, h j hj]
 split
 ·rename_i e; subst e; simp
 ·rename_i e; rw [if_neg fun e2 => e e2.symm]
theorem Qcc {α : Type} {p : α -> PV} {f g : Nat -> α} {w : Nat} (h : ∀ k, k < w -> f k = g k) : Q5 p f w = Q5 p g w :=
 List.map_congr_left fun c hc => by rw [h c (List.mem_range.1 hc)]
theorem Qrz {α : Type} {p : α -> PV} {f : Nat -> α} {w : Nat} (h : 0 < w) : Q5 p f w ≠ [] := by
 intro e; have := Qao p f w; rw [e] at this; simp at this; omega
theorem Qaf8 {by_ ty d : Nat} {k k' : IntKind} {n c : Nat} (h2 : n <= c) (h3 : by_ * c <= 281474976710656) (h4 : c <= 9223372036854775807) :
  mkK 3 by_ ty (.agg [.bool false, .nilS, .nilS]) (.int k (n : Int)) (.int k' (c : Int)) d fr hp K = K (upd (Qaq d fr) d (.ms d n)) (Qj hp d ⟨3, ty, List.replicate n (.agg [.bool false, .nilS, .nilS]), false⟩) := by
 rw [Qtk (e := 3) (by omega) rfl (by omega) (by omega) (by omega) (by omega)]; rfl
attribute [go_sem] Qaf8
end Go.FW
namespace Go.FW
open Go
def ind (m : List Int) : List Int -> Rat := fun n => if n = m then 1 else 0
end Go.FW
namespace Go.FW
open Go
variable {C : Ctx} {fr : Fr} {hp : HP} {w : World} {K R : Qf}
end Go.FW
namespace Go.FW
open Go
end Go.FW
namespace Go.FW
open Go
end Go.FW
namespace Go.FW
open Go
theorem Q6n (q : Rat) : Qgd (decide (q.num < 0)) (dig q.num.natAbs) (dig q.den) = true := by
 simp only [Qgd, Qf4, Bool.and_eq_true, decide_eq_true_eq]
 refine ⟨?_, ⟨?_, Qjn _⟩, ?_⟩
 ·split
  ·rename_i h
   rw [Qbk] at h
   have : ¬ q.num < 0 := by omega
   simp [this]
  ·exact decide_eq_true (Qjn _)
 ·rw [ne_eq, Qbk]; exact q.den_nz
 ·rw [Qy, Qy]; exact q.reduced
end Go.FW
namespace Go.FW
open Go
def Q6o (a : Rat) : Nat -> Rat
 | 0 => 1
 | n + 1 => Q6o a n * a
def mevN (vs : List Rat) (m : List Int) : Nat -> Rat
 | 0 => 1
 | n + 1 => mevN vs m n * Q6o (vs.getD n 0) (eN m n).toNat
def mev (vs : List Rat) (m : List Int) : Rat := mevN vs m m.length
abbrev PV.rats (vs : List Rat) : PV := .sl 3 (vs.map PV.rat)
end Go.FW
namespace Go.FW
open Go
end Go.FW
namespace Go.FW
open Go
theorem Qzd {B B' : List Nat} {F : Fr} (h : (B'.all B.contains) = true) : Qaa B' (Qaa B F) = Qaa B F := by
 funext s
 rw [Qnj B']
 split
 ·rename_i h1
  rw [Qnj B] at h1 ⊢
  split
  ·rfl
  ·rename_i h2
   rw [if_neg h2] at h1
   exfalso
   apply h2
   rw [List.any_eq_true] at h1 ⊢
   obtain ⟨x, hx, hb⟩ := h1
   rw [List.all_eq_true] at h
   exact ⟨x, hx, h x (List.contains_iff_mem.1 hb)⟩
 ·rfl
theorem Qze {W : List (Nat × Nat)} {B : List Nat} {J F : Fr} : Qaa B (ovr W J F) = ovr W (Qaa B J) (Qaa B F) := by
 funext s; unfold Qaa ovr; split <;> rfl
theorem Qwo {V W : List (Nat × Nat)} {B B' : List Nat} {X Z F : Fr} (h : Qpl V W = true) (hB : (B'.all B.contains) = true) : ovr V X (Qaa B' (ovr W Z (Qaa B F))) = ovr W (ovr V X (Qaa B' Z)) (Qaa B F) := by
 rw [Qze, Qzd hB, Qcp h]
section
variable {C : Ctx} {fr : Fr} {hp : HP} {w : World} {K R : Qf}
end
def Q8h (m : List Int) (v : Nat) : List Int := Q8d (m.set v 0)
def Q8i (p : List Tm) (v : Nat) (n : Int) : List Tm := p.filterMap fun t => if eN t.2 v = n then some (t.1, Q8h t.2 v) else none
end Go.FW
namespace Go.FW
open Go
def hor (p : List Tm) (v : Nat) (q : List Tm) (top : Nat) : Nat -> List Tm
 | 0 => Q8i p v top
 | k + 1 => Qrs (pmul (hor p v q top k) q) (Q8i p v ((top : Int) - (k + 1)))
end Go.FW
namespace Go.FW
open Go
def Qdl (vs : List Rat) (v : Nat) (b : Rat) (n : Int) : List Tm -> Rat
 | [] => 0
 | t :: p => (if n <= eN t.2 v then t.1 * mev vs (Q8h t.2 v) * Q6o b (eN t.2 v - n).toNat else 0) + Qdl vs v b n p
end Go.FW
namespace Go.FW
open Go
end Go.FW
namespace Go.FW
open Go
end Go.FW
namespace Go.FW
open Go
variable {C : Ctx} {fr : Fr} {hp : HP} {w : World} {K R : Qf}
end Go.FW
namespace Go.FW
open Go
variable {C : Ctx} {fr : Fr} {hp : HP} {K : Qf}
end Go.FW
namespace Go.FW
open Go
end Go.FW
namespace Go.FW
open Go
abbrev PV.mat (r c : Nat) (l : List Rat) : PV := .agg [.int .i64 r, .int .i64 c, PV.rats l]
abbrev MF := Nat -> Nat -> Rat
def Qw (l : List Rat) (m : Nat) : MF := fun r c => l.getD (r * m + c) 0
theorem Q2d {l : List Rat} {n m r : Nat} (hl : l.length = n * m) (hr : r < n) : ((l.take ((r + 1) * m)).drop (r * m)).map PV.rat = Q5 PV.rat (Qw l m r) m := by
 have h1 : (r + 1) * m <= n * m := Nat.mul_le_mul_right _ hr
 have h2 : (r + 1) * m = r * m + m := by rw [Nat.add_mul, Nat.one_mul]
 refine List.ext_getElem (by simp [Q5]; omega) fun j h3 h4 => ?_
 have hj : j < m := by simpa [Q5] using h4
 simp only [List.getElem_drop, List.getElem_take, List.getElem_map, Q5, List.getElem_range, Qw]
 rw [List.getD_eq_getElem?_getD, List.getElem?_eq_getElem (by omega)]
 rfl
structure RQ where
 n : Bool
 a : List Nat
 d : List Nat
 deriving Inhabited
abbrev PV.rq (q : RQ) : PV := PV.rr q.n q.a q.d
abbrev PV.rqs (l : List RQ) : PV := .sl 3 (l.map PV.rq)
abbrev PV.rmat (r c : Int) (l : List RQ) : PV := .agg [.int .i64 r, .int .i64 c, PV.rqs l]
def Qf8 (q : RQ) : Bool := Qgd q.n q.a q.d
def rqV (q : RQ) : Rat := rv q.n q.a q.d
def Qba (r c : Int) (l : List RQ) : Bool := decide (0 <= r /\ r <= 40 /\ 0 <= c /\ c <= 40 /\ (l.length : Int) = r * c) && l.all Qf8
def qR (q : Rat) : RQ := ⟨decide (q.num < 0), dig q.num.natAbs, dig q.den⟩
theorem Qsx {R m : Nat} {l : List Rat} (hl : l.length = R * m) (hR : R <= 40) (hm : m <= 40) : Qba R m (l.map qR) = true := by
 unfold Qba
 rw [Bool.and_eq_true, decide_eq_true_eq]
 refine ⟨⟨by omega, by omega, by omega, by omega, by rw [List.length_map, hl, Int.natCast_mul]⟩, ?_⟩
 rw [List.all_eq_true]
 intro x hx
 obtain ⟨q, hq, rfl⟩ := List.mem_map.1 hx
 exact Q6n q
theorem Qvh (l : List Rat) : PV.rats l = PV.rqs (l.map qR) := by
 unfold PV.rqs PV.rats
 rw [List.map_map]; rfl
theorem Q2e (R m : Nat) (l : List Rat) : PV.mat R m l = PV.rmat R m (l.map qR) := by
 unfold PV.mat PV.rmat
 rw [Qvh]
def Qhp (M : MF) (k : Nat) : Nat -> Nat -> Nat
 | 0, i => i
 | f + 1, i => if M i k = 0 then Qhp M k f (i + 1) else i
theorem Qi4 (M : MF) (k : Nat) : ∀ f i, i <= Qhp M k f i /\ Qhp M k f i <= i + f
 | 0, i => ⟨Nat.le_refl _, Nat.le_refl _⟩
 | f + 1, i => by
  unfold Qhp
  split
  ·have := Qi4 M k f (i + 1); omega
  ·omega
theorem Qlj (M : MF) (k : Nat) : ∀ f i, Qhp M k f i < i + f -> M (Qhp M k f i) k ≠ 0
 | 0, i, h => by simp [Qhp] at h
 | f + 1, i, h => by
  unfold Qhp at h ⊢
  split
  ·rename_i h0; rw [if_pos h0] at h; exact Qlj M k f (i + 1) (by omega)
  ·rename_i h0; exact h0
theorem Qsy (M : MF) (k : Nat) : ∀ f i j, i <= j -> j < Qhp M k f i -> M j k = 0
 | 0, i, j, h1, h2 => by simp [Qhp] at h2; omega
 | f + 1, i, j, h1, h2 => by
  unfold Qhp at h2
  split at h2
  ·rename_i h0
   by_cases e : j = i
   ·subst e; exact h0
   ·exact Qsy M k f (i + 1) j (by omega) h2
  ·omega
def Qca (M : MF) (R k n : Nat) : Nat := Qhp M k (R - n) n
def Qah (M : MF) (i n : Nat) : MF := fun r => if r = n then M i else if r = i then M n else M r
def Qax (M : MF) (n : Nat) (p : Rat) : MF := fun r c => if r = n then M n c / p else M r c
def Qes (M : MF) (n k : Nat) : MF := fun r c => if r = n then M n c else M r c - M r k * M n c
structure Ech where
 M : MF
 piv : List Nat
 det : Rat
def Qcg (R : Nat) (E : Ech) (k : Nat) : Ech :=
 if Qca E.M R k E.piv.length = R then E else
  ⟨Qes (Qax (Qah E.M (Qca E.M R k E.piv.length) E.piv.length) E.piv.length (E.M (Qca E.M R k E.piv.length) k)) E.piv.length k, E.piv ++ [k],
   (if Qca E.M R k E.piv.length = E.piv.length then E.det else -E.det) * E.M (Qca E.M R k E.piv.length) k⟩
def Qv (R : Nat) (M : MF) : Nat -> Ech
 | 0 => ⟨M, [], 1⟩
 | k + 1 => Qcg R (Qv R M k) k
theorem Qb5 (R : Nat) (M : MF) : ∀ k, (Qv R M k).piv.length <= k /\ (Qv R M k).piv.length <= R /\ ∀ x ∈ (Qv R M k).piv, x < k
 | 0 => ⟨Nat.le_refl _, Nat.zero_le _, by simp [Qv]⟩
 | k + 1 => by
  obtain ⟨h1, h2, h3⟩ := Qb5 R M k
  show (Qcg R (Qv R M k) k).piv.length <= k + 1 /\ _
  simp only [Qv]
  unfold Qcg
  split
  ·exact ⟨by omega, h2, fun x hx => by have := h3 x hx; omega⟩
  ·rename_i h
   have := Qi4 (Qv R M k).M k (R - (Qv R M k).piv.length) (Qv R M k).piv.length
   have h4 : Qca (Qv R M k).M R k (Qv R M k).piv.length <= R := by unfold Qca; omega
   have h5 : (Qv R M k).piv.length <= Qca (Qv R M k).M R k (Qv R M k).piv.length := this.1
   refine ⟨by simp; omega, by simp; omega, fun x hx => ?_⟩
   simp only [List.mem_append, List.mem_singleton] at hx
   rcases hx with hx | hx
   ·have := h3 x hx; omega
   ·omega
theorem Qlk (M : MF) : ∀ k, Qv 0 M k = ⟨M, [], 1⟩
 | 0 => rfl
 | k + 1 => by
  show Qcg 0 (Qv 0 M k) k = _
  rw [Qlk M k]; rfl
def Qcm (R : Nat) (M : MF) : Rat := if (Qv R M R).piv.length < R then 0 else (Qv R M R).det
def Qf5 (R m : Nat) (M : MF) : Nat := (Qv R M m).piv.length
def MBd (K R w : Nat) (M : MF) : Prop := ∀ r, r < R -> ∀ c, c < w -> rs (M r c) <= K
theorem Qaf9 {fr : Fr} {hp : HP} {K : Qf} {z : List PV} {o n o2 n2 o3 n3 d β m e ty : Nat} {p q : PV} {xs : List PV} {fz : Bool} (h : p.flat = true) (h' : q.flat = true) (hb : hp β = some ⟨e, ty, xs, fz⟩) (hm : m = xs.length) (hB : isB β = false := by decide) :
  Qfn z [(o, n, p), (o2, n2, q), (o3, n3, .ms β m)] d fr hp K = ((p.cells.length = n /\ o + n <= z.length) /\ (q.cells.length = n2 /\ o2 + n2 <= z.length) /\ (1 = n3 /\ o3 + n3 <= z.length) /\ K (upd fr d (.agg (Qcu z [(o, p.cells), (o2, q.cells), (o3, [.sl e xs])]))) (Q8 hp [β])) := by
 obtain ⟨s1, s2, s3⟩ := Qdw (hp := hp) h
 obtain ⟨t1, t2, t3⟩ := Qdw (hp := hp) h'
 have s4 : Q9 hp (.ms β m) = .sl e xs := by simp [Q9, Qaw, Qjb hB, hb, hm]
 have r4 : (PV.ms β m).refs = [β] := rfl
 have c4 : (PV.sl e xs).cells = [.sl e xs] := rfl
 have d4 : (PV.sl e xs).isData = true := rfl
 have i1 : p.isNst = false := Ql7 h
 have i3 : q.isNst = false := Ql7 h'
 have i2 : (PV.ms β m).isNst = false := by simp [isB] at hB; simp [PV.isNst]; omega
 unfold Qfn Qpu Qtt
 rw [if_neg (by simp [i1, i2, i3])]
 apply propext
 simp only [List.mem_cons, List.not_mem_nil, or_false, forall_eq_or_imp, forall_eq, s1, s3, s4, t1, t3, d4, c4, List.length_cons, List.length_nil, true_and, List.map_cons, List.map_nil, List.flatMap_cons, List.flatMap_nil, s2, t2, r4, List.nil_append, List.append_nil, and_assoc, Nat.zero_add]
theorem Qi5 : PV.le (.agg [.int .i64 0, .int .i64 0, .nilS]) (PV.rmat 0 0 []) := by simp [PV.le, PV.leL, PV.le1, PV.rmat, PV.rqs]
theorem Qxp : PV.le (.agg [.bool false, .nilS, .nilS]) (PV.rr false [] []) := by simp [PV.le, PV.leL, PV.le1, PV.nat, Qaz]
def Qjs (K R w n : Nat) (M : MF) : Prop := ∀ k, k <= n -> MBd K R w (Qv R M k).M /\ rs (Qv R M k).det <= K
def Qnp (p : Nat -> Bool) : Nat -> Nat -> Nat
 | 0, i => i
 | f + 1, i => if p i then i else Qnp p f (i + 1)
theorem Qoi {p : Nat -> Bool} : ∀ {f i n : Nat}, i <= n -> n < i + f -> p n = true -> (∀ j, i <= j -> j < n -> p j = false) -> Qnp p f i = n
 | 0, i, n, h1, h2, _, _ => by omega
 | f + 1, i, n, h1, h2, h3, h4 => by
  unfold Qnp
  by_cases e : i = n
  ·subst e; rw [if_pos h3]
  ·rw [h4 i (Nat.le_refl _) (by omega)]
   exact Qoi (by omega) (by omega) h3 fun j h5 h6 => h4 j (by omega) h6
theorem Qll {p : Nat -> Bool} : ∀ {f i : Nat}, (∀ j, i <= j -> j < i + f -> p j = false) -> Qnp p f i = i + f
 | 0, i, _ => rfl
 | f + 1, i, h => by
  unfold Qnp
  rw [h i (Nat.le_refl _) (by omega)]
  have := Qll (p := p) (f := f) (i := i + 1) fun j h5 h6 => h j (by omega) (by omega)
  simp only [Bool.false_eq_true, if_false]; omega
def Qg9 (x y : Nat -> Rat) (c : Rat) : Nat -> Rat := fun i => x i + c * y i
def Qit (M : MF) (R : Nat) : Nat := Qnp (fun i => decide (M i i ≠ 0)) R 0
def Qku (M : MF) (R i : Nat) : Nat := Qnp (fun k => decide (M i k ≠ 0)) R 0
def Qf9 (M : MF) (R : Nat) : Nat := Qnp (fun i => decide (Qku M R i < R)) R 0
def Qe7 (M : MF) (R : Nat) : List (Rat × (Nat -> Rat)) :=
  if Qit M R < R then [(M (Qit M R) (Qit M R), Qg9 (fun _ => 0) (M (Qit M R)) (1 / M (Qit M R) (Qit M R)))]
  else if Qf9 M R < R then
    [(1 / (M (Qf9 M R) (Qku M R (Qf9 M R)) + M (Qf9 M R) (Qku M R (Qf9 M R))), Qg9 (M (Qf9 M R)) (M (Qku M R (Qf9 M R))) 1),
     (-(1 / (M (Qf9 M R) (Qku M R (Qf9 M R)) + M (Qf9 M R) (Qku M R (Qf9 M R)))), Qg9 (M (Qf9 M R)) (M (Qku M R (Qf9 M R))) (-1))]
  else []
abbrev PV.form (w : Nat) (f : Rat × (Nat -> Rat)) : PV := .agg [.bool (decide (f.1.num < 0)), PV.num f.1.num.natAbs, PV.num f.1.den, .sl 3 (Q5 PV.rat f.2 w)]
end Go.FW
