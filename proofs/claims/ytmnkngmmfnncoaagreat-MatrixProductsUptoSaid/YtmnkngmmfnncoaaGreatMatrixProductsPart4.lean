/- Part 4 of the proof of MatrixProducts: FwNE, FwNF, FwNG, FwNS, FwNT, FwQA, FwSD, FwSE, FwSF, FwSG, FwSH, FwSI, FwSJ, FwSK, FwSL, FwUA, FwSM, FwUC, FwVA. Own lemmas; no conditions. -/
import Derived.Test.YtmnkngmmfnncoaaGreatMatrixProductsPart3
set_option linter.unusedSimpArgs false
set_option linter.unnecessarySimpa false
set_option linter.unusedVariables false
namespace Go.FW
open Go
variable {C C' : Ctx} {ρ ρ' : Nat -> Option Nat} {fr fr' : Fr} {hp hp' : HP} {w : World} {K R : Qg}
def Qdy (γ : Nat) : PV -> PV
 | .mso β o n => if β = γ then .nso γ o n else .mso β o n
 | .mp β i o => if β = γ then .np γ i o else .mp β i o
 | .rb β o n => if β = γ then .undef else .rb β o n
 | p => p
def Qdb (γ : Nat) : PV -> PV
 | .fn f a b => Qal γ (.fn f a b)
 | .rag cs => .rag (cs.map (Qdy γ))
 | .nst γ' e ty xs => if γ' = γ then .undef else .nst γ' e ty (xs.map fun x => Qc3 (x.ncells.map (Qdy γ)))
 | p => Qdy γ p
def Qxl (γ : Nat) (x : PV) (fr : Fr) : Fr := fun s => if s = γ then x else Qdb γ (fr s)
theorem Qhp {γ e ty : Nat} {xs : List PV} {fz : Bool} (hγ : hp γ = some ⟨e, ty, xs, fz⟩) (h0 : xs ≠ []) (h2 : 2000000 <= γ) (hd : ∀ x ∈ xs, x.ncells = x.cells) : Wk fr hp (Qxl γ (.nst γ e ty xs) fr) (Qk hp γ ⟨e, ty, [], fz⟩) := by
 rintro C tmps w ⟨ρ, hs⟩
 have bγ : isB γ = true := by simp [isB]; omega
 have hown := hs.own γ _ hγ
 have hblk := hown.blk
 obtain ⟨b, hρ⟩ : ∃ b, ρ γ = some b := by
  cases hq : ρ γ with
  | none => rw [hq] at hblk; exact absurd hblk h0
  | some b => exact ⟨b, rfl⟩
 rw [hρ] at hblk
 obtain ⟨b1, b2, cur, cap, c1, c2, c3, c4, c5⟩ := hblk
 have epos := hown.epos
 obtain ⟨hp', hpE⟩ : ∃ f, f = Qk hp γ ⟨e, ty, [], fz⟩ := ⟨_, rfl⟩
 rw [<- hpE]
 have pγ : hp' γ = some ⟨e, ty, [], fz⟩ := by rw [hpE]; simp [Qk]
 have po : ∀ β, β ≠ γ -> hp' β = hp β := fun β hβ => by rw [hpE]; simp [Qk, hβ]
 have hX : Xof C ρ hp' = Xof C ρ hp := by
  funext c; apply propext
  constructor
  ·rintro (hx | ⟨β, hb, g1, g2, g3⟩)
   ·exact .inl hx
   ·by_cases hβ : β = γ
    ·subst hβ; rw [pγ] at g1; cases g1; exact .inr ⟨β, _, hγ, g2, g3⟩
    ·rw [po β hβ] at g1; exact .inr ⟨β, hb, g1, g2, g3⟩
  ·rintro (hx | ⟨β, hb, g1, g2, g3⟩)
   ·exact .inl hx
   ·by_cases hβ : β = γ
    ·subst hβ; rw [hγ] at g1; cases g1; exact .inr ⟨β, _, pγ, g2, g3⟩
    ·exact .inr ⟨β, hb, by rw [po β hβ]; exact g1, g2, g3⟩
 have hst : Qf8 w w (Xof C ρ hp) (Xof C ρ hp') := by rw [hX]; exact ⟨fun _ _ _ => rfl, fun _ _ hn => hn, Nat.le_refl _⟩
 have c0 : ∀ β, β ≠ γ -> Cnd ρ ρ hp hp' w w β := fun β hβ => ⟨rfl, fun hb hq => ⟨hb, by rw [po β hβ]; exact hq, rfl, Nat.le_refl _, fun _ _ _ h => h, fun h => ⟨h, rfl, fun _ _ => rfl⟩⟩⟩
 have toS : ∀ {o n : Nat} {v : Value}, Qds ρ hp w γ o n v -> Qgu ρ hp' w γ o n v := by
  rintro o n v ⟨hb, g1, g2, g3⟩
  rw [hγ] at g1; cases g1
  rcases g3 with ⟨g3, _⟩ | ⟨b', cp, g3, g4, g5, g6⟩
  ·rw [hρ] at g3; cases g3
  ·rw [hρ] at g3; cases g3
   refine ⟨bγ, _, b, cp, pγ, hρ, g4, g5, g6, ?_⟩
   obtain ⟨cur', ty', d1, d2⟩ := g5
   rw [c1] at d1; cases d1
   have : cap = o + cp := Nat.eq_of_mul_eq_mul_right epos (by rw [<- c2, <- d2])
   simp only at g2 c3
   omega
 have cell : ∀ {p : PV} {v : Value}, Qbg C ρ hp w p v -> Qbg C ρ hp' w (Qdy γ p) v := by
  intro p v h
  cases p with
  | mso β o n =>
   by_cases hβ : β = γ
   ·subst hβ; simp only [Qdy, if_true]; exact toS h.2
   ·simp only [Qdy, if_neg hβ]; exact Qbg.move (p := .mso β o n) h hst fun x hx => by simp [PV.sref1] at hx; subst hx; exact (c0 _ hβ).weak
  | nso β o n =>
   by_cases hβ : β = γ
   ·obtain ⟨_, hb, b', cp, k1, k2, k3, k4, k5, k6⟩ := h
    subst hβ
    rw [hγ] at k1; cases k1
    exact ⟨bγ, _, b', cp, pγ, k2, k3, k4, k5, k6⟩
   ·exact Qbg.move (p := .nso β o n) h hst fun x hx => by simp [PV.sref1] at hx; subst hx; exact (c0 _ hβ).weak
  | mp => cases h
  | rb => cases h
  | np => cases h
  | undef => trivial
  | _ => exact Qbg.move h hst (fun x hx => by cases hx)
 refine ⟨ρ, hs.sz, hs.ext, hs.keep, fun β hb hβ => ?_, fun β δ c g1 g2 g3 g4 => ?_, fun i => ?_⟩
 ·by_cases hq : β = γ
  ·subst hq
   rw [pγ] at hβ; cases hβ
   refine ⟨epos, (fun i x hx => by simp at hx), ?_, hown.fix, hown.ro⟩
   rw [hρ]
   exact ⟨b1, b2, cur, cap, c1, c2, Nat.zero_le _, c4, fun i x hx => by simp at hx⟩
  ·rw [po β hq] at hβ
   obtain ⟨q1, q2, q3, q4, q5⟩ := hs.own β hb hβ
   refine ⟨q1, q2, ?_, q4, q5⟩
   cases hr : ρ β with
   | none => rw [hr] at q3; exact q3
   | some c => rw [hr] at q3; exact ⟨q3.1, q3.2.1, q3.2.2.move rfl rfl rfl rfl hst.rc⟩
 ·have f : ∀ β, hp' β ≠ none -> hp β ≠ none := fun β hβ => by
   by_cases hq : β = γ
   ·subst hq; simp [hγ]
   ·rwa [po β hq] at hβ
  exact hs.inj β δ c (f β g1) (f δ g2) g3 g4
 ·have hsl := hs.slots i
  show Ql C ρ hp' w (Qxl γ (.nst γ e ty xs) fr i) _
  unfold Qxl
  split
  ·refine ⟨bγ, epos, b, _, cur, cap, hρ, pγ, rfl, rfl, rfl, c1, c2, c3, c4, fun k x hx => ?_, fun k x hx j y hy => ?_⟩
   ·rw [hd x (List.mem_of_getElem? hx)]; exact (hown.len k x hx).1
   ·rw [hd x (List.mem_of_getElem? hx)] at hy
    have := c5 k x hx j y hy
    have h3 : Qu w (Xof C ρ hp') y (cur.getD (k * e + j) undef) := by rw [hX]; exact this
    cases y with
    | undef => trivial
    | mso => cases h3
    | nso => cases h3
    | _ => exact h3
  ·generalize fr i = p at hsl
   cases p with
   | mso β o n =>
    by_cases hβ : β = γ
    ·subst hβ; simp only [Qdb, Qdy, if_true]; exact toS hsl
    ·simp only [Qdb, Qdy, if_neg hβ]; exact Ql.moveC hsl hst (fun x hx => by simp [PV.refs] at hx; subst hx; exact (c0 _ hβ).o) (fun x hx => by cases hx)
   | mp β k o =>
    by_cases hβ : β = γ
    ·subst hβ
     simp only [Qdb, Qdy, if_true]
     obtain ⟨b', hb, g1, g2, g3⟩ := hsl
     rw [hγ] at g2; cases g2
     exact ⟨bγ, b', _, g1, pγ, g3⟩
    ·simp only [Qdb, Qdy, if_neg hβ]; exact Ql.moveC hsl hst (fun x hx => by simp [PV.refs] at hx; subst hx; exact (c0 _ hβ).o) (fun x hx => by cases hx)
   | rb β o n =>
    by_cases hβ : β = γ
    ·simp only [Qdb, Qdy, if_pos hβ]; trivial
    ·simp only [Qdb, Qdy, if_neg hβ]; exact Ql.moveC hsl hst (fun x hx => by simp [PV.refs] at hx; subst hx; exact (c0 _ hβ).o) (fun x hx => by cases hx)
   | np β k o =>
    by_cases hβ : β = γ
    ·subst hβ
     obtain ⟨_, b', hb, g1, g2, g3⟩ := hsl
     rw [hγ] at g2; cases g2
     exact ⟨bγ, b', _, g1, pγ, g3⟩
    ·refine Ql.moveC (p := .np β k o) hsl hst (fun x hx => by cases hx) (fun x hx => ?_)
     have e1 : x = β := by simpa [PV.sref] using hx
     rw [e1]; exact c0 _ hβ
   | nso β o n => exact cell (p := .nso β o n) hsl
   | rag cs =>
    obtain ⟨vs, e1, h1, h3⟩ := hsl
    refine ⟨vs, e1, by simpa using h1, fun k x hk => ?_⟩
    simp only [List.getElem?_map, Option.map_eq_some_iff] at hk
    obtain ⟨y, hy, rfl⟩ := hk
    exact cell (h3 k y hy)
   | nst β e' ty' ys =>
    simp only [Qdb]
    split
    ·trivial
    ·rename_i hβ
     obtain ⟨k0, he, b', hb, cur', cap', k1, k2, k3, k4, k5, k6, k7, k8, k9, k10, k11⟩ := hsl
     have hnc : ∀ (k : Nat) (x : PV), ys[k]? = some x -> (Qc3 (x.ncells.map (Qdy γ))).ncells = x.ncells.map (Qdy γ) := fun k x hx => by
      refine Qn2 fun c hc => ?_
      obtain ⟨y, hy, rfl⟩ := List.mem_map.1 hc
      obtain ⟨j, hj⟩ := List.getElem?_of_mem hy
      exact (cell (k11 k x hx j y hj)).one
     refine ⟨k0, he, b', hb, cur', cap', k1, by rw [po β hβ]; exact k2, k3, k4, k5, k6, k7, by simpa using k8, k9, fun k x hx => ?_, fun k x hx j y hy => ?_⟩
     ·simp only [List.getElem?_map, Option.map_eq_some_iff] at hx
      obtain ⟨x0, hx0, rfl⟩ := hx
      rw [hnc k x0 hx0, List.length_map]; exact k10 k x0 hx0
     ·simp only [List.getElem?_map, Option.map_eq_some_iff] at hx
      obtain ⟨x0, hx0, rfl⟩ := hx
      rw [hnc k x0 hx0, List.getElem?_map, Option.map_eq_some_iff] at hy
      obtain ⟨y0, hy0, rfl⟩ := hy
      exact cell (k11 k x0 hx0 j y0 hy0)
   | fn f a c =>
    simp only [Qdb, Qal]
    split
    ·trivial
    ·rename_i hn
     have hn' : γ ∉ (PV.fn f a c).refs := by simpa using hn
     by_cases hm : γ ∈ (PV.fn f a c).sref
     ·
      obtain ⟨fv, cv, g1, g2, g3, g4, g5⟩ := hsl
      have cap1 : ∀ {x : PV} {v : Value}, γ ∉ x.ref1 -> Qa6 C ρ hp w x v -> Qa6 C ρ hp' w x v := by
       intro x v hx h
       cases x with
       | np β k o =>
        by_cases hβ : β = γ
        ·subst hβ
         obtain ⟨_, b', hb, k1, k2, k3⟩ := h
         rw [hγ] at k2; cases k2
         exact ⟨bγ, b', _, k1, pγ, k3⟩
        ·exact Qa6.move (p := .np β k o) h hst (fun x hx => by cases hx) (fun x hx => by simp [PV.nref1] at hx; subst hx; exact (c0 _ hβ).weak)
       | nso β o n =>
        exact cell (p := .nso β o n) h
       | mp β k o => exact Qa6.move (p := .mp β k o) h hst (fun x hx' => by simp [PV.ref1] at hx' hx; subst hx'; exact (c0 _ (fun e => hx e.symm)).o) (fun x hx => by cases hx)
       | mso β k o => exact Qa6.move (p := .mso β k o) h hst (fun x hx' => by simp [PV.ref1] at hx' hx; subst hx'; exact (c0 _ (fun e => hx e.symm)).o) (fun x hx => by cases hx)
       | rb β k o => exact Qa6.move (p := .rb β k o) h hst (fun x hx' => by simp [PV.ref1] at hx' hx; subst hx'; exact (c0 _ (fun e => hx e.symm)).o) (fun x hx => by cases hx)
       | _ => exact Qa6.move h hst (fun x hx => by cases hx) (fun x hx => by cases hx)
      exact ⟨fv, cv, g1, g2, g3, fun k x hk => cap1 (fun hx => hn' (Qgv hk γ hx)) (g4 k x hk), fun k x hk => cap1 (fun hx => hn' (Qik hk γ hx)) (g5 k x hk)⟩
     ·exact Ql.moveC hsl hst (fun x hx => (c0 x (fun e => hn' (e ▸ hx))).o) (fun x hx => c0 x (fun e => hm (e ▸ hx)))
   | _ => exact Ql.moveC hsl hst (fun x hx => by cases hx) (fun x hx => by cases hx)
theorem Qt6 {γ e ty : Nat} {xs xs' : List PV} (D : Nat -> Option (Nat × Nat)) (hfr : fr γ = .nst γ e ty xs) (hD : ∀ δ x, D δ = some x -> hp δ = none /\ 2000000 <= δ /\ 0 < x.1) (hl : xs'.length = xs.length)
  (hx : ∀ (i : Nat) (x x' : PV), xs[i]? = some x -> xs'[i]? = some x' -> x'.ncells.length = x.ncells.length /\ ∀ (j : Nat) (y y' : PV), x.ncells[j]? = some y -> x'.ncells[j]? = some y' -> y' = y ∨ (y = .nilS /\ ∃ δ z, D δ = some z /\ y' = .mso δ 0 0)) :
  Wk fr hp (upd fr γ (.nst γ e ty xs')) (fun δ => match D δ with | some x => some ⟨x.1, x.2, [], false⟩ | none => hp δ) := by
 rintro C tmps w ⟨ρ, hs⟩
 obtain ⟨hp', hpE⟩ : ∃ f : HP, f = fun δ => match D δ with | some x => some ⟨x.1, x.2, [], false⟩ | none => hp δ := ⟨_, rfl⟩
 obtain ⟨ρ', hρE⟩ : ∃ f : Nat -> Option Nat, f = fun δ => if (D δ).isSome then none else ρ δ := ⟨_, rfl⟩
 rw [<- hpE]
 have pD : ∀ δ x, D δ = some x -> hp' δ = some ⟨x.1, x.2, [], false⟩ /\ ρ' δ = none := fun δ x hδ => by rw [hpE, hρE]; simp [hδ]
 have po : ∀ δ, D δ = none -> hp' δ = hp δ /\ ρ' δ = ρ δ := fun δ hδ => by rw [hpE, hρE]; simp [hδ]
 have hk : ∀ β, hp β ≠ none -> D β = none := fun β hβ => by
  cases hq : D β with
  | none => rfl
  | some x => exact absurd (hD β x hq).1 hβ
 have hX : ∀ c, Xof C ρ' hp' c -> Xof C ρ hp c := by
  rintro c (h | ⟨β, hb, g1, g2, g3⟩)
  ·exact .inl h
  ·cases hq : D β with
   | none => rw [(po β hq).1] at g1; rw [(po β hq).2] at g3; exact .inr ⟨β, hb, g1, g2, g3⟩
   | some x => rw [(pD β x hq).2] at g3; cases g3
 have hst : Qf8 w w (Xof C ρ hp) (Xof C ρ' hp') := ⟨fun _ _ _ => rfl, fun c _ hn h => hn (hX c h), Nat.le_refl _⟩
 have c0 : ∀ β, hp β ≠ none -> Cnd ρ ρ' hp hp' w w β := fun β hβ => ⟨(po β (hk β hβ)).2, fun hb hq => ⟨hb, by rw [(po β (hk β hβ)).1]; exact hq, rfl, Nat.le_refl _, fun _ _ _ h => h, fun h => ⟨h, rfl, fun _ _ => rfl⟩⟩⟩
 refine ⟨ρ', hs.sz, hs.ext, hs.keep, fun β hb hβ => ?_, fun β δ c g1 g2 g3 g4 => ?_, fun i => ?_⟩
 ·cases hq : D β with
  | some x =>
   rw [(pD β x hq).1] at hβ; cases hβ
   obtain ⟨_, d2, d3⟩ := hD β x hq
   refine ⟨d3, (fun i x hx => by simp at hx), ?_, (fun h => by simp [isY] at h; omega), fun h => by simp [isR] at h; omega⟩
   rw [(pD β x hq).2]
  | none =>
   rw [(po β hq).1] at hβ
   obtain ⟨q1, q2, q3, q4, q5⟩ := hs.own β hb hβ
   refine ⟨q1, q2, ?_, (by rw [(po β hq).2]; exact q4), q5⟩
   rw [(po β hq).2]
   cases hr : ρ β with
   | none => rw [hr] at q3; exact q3
   | some c => rw [hr] at q3; exact ⟨q3.1, q3.2.1, q3.2.2.move rfl rfl rfl rfl hst.rc⟩
 ·have f : ∀ β, hp' β ≠ none -> ∀ c, ρ' β = some c -> hp β ≠ none /\ ρ β = some c := fun β hβ c hc => by
   cases hq : D β with
   | none => rw [(po β hq).1] at hβ; rw [(po β hq).2] at hc; exact ⟨hβ, hc⟩
   | some x => rw [(pD β x hq).2] at hc; cases hc
  exact hs.inj β δ c (f β g1 c g3).1 (f δ g2 c g4).1 (f β g1 c g3).2 (f δ g2 c g4).2
 ·have hkn := (hs.slots i).known
  have old : Ql C ρ' hp' w (fr i) (tmps.getD i undef) := (hs.slots i).moveC hst (fun β hβ => (c0 β (hkn.1 β hβ)).o) (fun β hβ => c0 β (hkn.2 β hβ))
  unfold upd
  split
  ·rename_i hi; subst hi
   rw [hfr] at old
   obtain ⟨k0, he, b', hb, cur', cap', k1, k2, k3, k4, k5, k6, k7, k8, k9, k10, k11⟩ := old
   have hget : ∀ (k : Nat) (x' : PV), xs'[k]? = some x' -> ∃ x, xs[k]? = some x := fun k x' hk' => by
    have : k < xs.length := by have := (List.getElem?_eq_some_iff.1 hk').1; omega
    exact ⟨_, List.getElem?_eq_getElem this⟩
   refine ⟨k0, he, b', hb, cur', cap', k1, k2, k3, k4, k5, k6, k7, by omega, k9, fun k x' hk' => ?_, fun k x' hk' j y' hy' => ?_⟩
   ·obtain ⟨x, hxk⟩ := hget k x' hk'
    rw [(hx k x x' hxk hk').1]; exact k10 k x hxk
   ·obtain ⟨x, hxk⟩ := hget k x' hk'
    obtain ⟨l1, l2⟩ := hx k x x' hxk hk'
    have hj : j < x.ncells.length := by have := (List.getElem?_eq_some_iff.1 hy').1; omega
    have hy := List.getElem?_eq_getElem hj
    have hr := k11 k x hxk j _ hy
    rcases l2 j _ y' hy hy' with e1 | ⟨e1, δ, z, e2, e3⟩
    ·rw [e1]; exact hr
    ·rw [e1] at hr
     obtain ⟨_, d2, _⟩ := hD δ z e2
     rw [e3]
     have hv : cur'.getD (k * e + j) undef = .slice none 0 0 := by
      generalize cur'.getD (k * e + j) undef = u at hr
      cases hr; rfl
     exact ⟨by simp [isB]; omega, _, (pD δ z e2).1, Nat.le_refl _, .inl ⟨(pD δ z e2).2, hv, rfl, rfl⟩⟩
  ·exact old
def mkA : List PV -> PV
 | [c] => c
 | cs => .agg cs
def dsn (fr : Fr) (hp : HP) : Nat -> PV -> PV
 | 0, p => p
 | k + 1, p => match p with
  | .mso β o n => match hp β with
   | some hb => .sl hb.e ((hb.xs.drop o).take n)
   | none => .undef
  | .nso γ o n => match fr γ with
   | .nst _ e _ xs => .sl e (((xs.drop o).take n).map fun x => mkA (x.ncells.map (dsn fr hp k)))
   | _ => .undef
  | p => p
def rch (fr : Fr) : Nat -> PV -> List Nat
 | 0, _ => []
 | k + 1, p => match p with
  | .mso β _ _ => [β]
  | .nso γ o n => match fr γ with
   | .nst _ _ _ xs => γ :: (((xs.drop o).take n).flatMap fun x => x.ncells.flatMap (rch fr k))
   | _ => []
  | _ => []
def okD (fr : Fr) : Nat -> PV -> Prop
 | 0, p => match p with
  | .undef | .mso _ _ _ | .nso _ _ _ => False
  | _ => True
 | k + 1, p => match p with
  | .undef => False
  | .mso β _ _ => isY β = false
  | .nso γ o n => match fr γ with
   | .nst γ' _ _ xs => γ' = γ /\ isY γ = false /\ o + n <= xs.length /\ ∀ x ∈ (xs.drop o).take n, ∀ c ∈ x.ncells, okD fr k c
   | _ => False
  | _ => True
theorem Q8t {tmps : Array Value} (h : Q2 C ρ fr hp tmps w) {β b : Nat} {hb : HB} {l : List Nat} (hB : isY β = false) (hβ : hp β = some hb) (hl : β ∈ l) (hρ : ρ β = some b) : ¬ Xof C ρ (Q7 hp l) b := by
 have hblk := (h.own β hb hβ).blk
 rw [hρ] at hblk
 rintro (hx | ⟨γ, hg, h1, h2, h3⟩)
 ·exact Ctx.cls_notX hblk.1 (Qj5 hB) hx
 ·obtain ⟨hg0, g1, _, _, _, _, g6⟩ := Qfo h1
  have := h.inj γ β b (by simp [g1]) (by simp [hβ]) h3 hρ
  subst this
  exact g6 h2 hl
theorem Q0g {cs : List PV} (h : ∀ c ∈ cs, c.cells = [c]) : (mkA cs).cells = cs := by
 match cs, h with
 | [], _ => rfl
 | [c], h => exact h c (by simp)
 | _ :: _ :: _, _ => rfl
theorem Qqw {tmps : Array Value} (h : Q2 C ρ fr hp tmps w) {l : List Nat} : ∀ (k : Nat) {p : PV} {v : Value}, Qbg C ρ hp w p v -> okD fr k p -> (∀ β ∈ rch fr k p, β ∈ l) -> Qu w (Xof C ρ (Q7 hp l)) (dsn fr hp k p) v
 | 0, p, v, hr, ho, _ => by
  cases p with
  | undef => cases ho
  | mso => cases ho
  | nso => cases ho
  | _ => exact Qu.freeze hr
 | k + 1, p, v, hr, ho, hl => by
  cases p with
  | undef => cases ho
  | mso β o n =>
   obtain ⟨hb, hβ⟩ : ∃ hb, hp β = some hb := by obtain ⟨_, hb, h1, _⟩ := hr; exact ⟨hb, h1⟩
   have := Qds.snap h hr.2 ho (hl β (by simp [rch])) hβ
   simp only [dsn, hβ]; exact this
  | nso γ o n =>
   simp only [okD] at ho
   split at ho
   ·rename_i γ' e ty xs hγ
    obtain ⟨rfl, hY, ho1, ho2⟩ := ho
    have hsl := h.slots γ'
    rw [hγ] at hsl
    obtain ⟨k0, he, b, hb, cur, cap, k1, k2, k3, k4, k5, k6, k7, k8, k9, k10, k11⟩ := hsl
    obtain ⟨_, hb2, b2, cap2, g1, g2, rfl, g4, g5, g6⟩ := hr
    rw [k2] at g1; cases g1
    rw [k1] at g2; cases g2
    have hmem : γ' ∈ l := hl γ' (by simp [rch, hγ])
    have hX := Q8t (l := l) h hY k2 hmem k1
    have hlt := (Array.getElem?_eq_some_iff.1 k6).1
    obtain ⟨cur', ty', d1, d2⟩ := g4
    rw [k6] at d1; cases d1
    rw [k4] at d2
    have hcc : cap = o + cap2 := Nat.eq_of_mul_eq_mul_right he (by rw [<- k7, <- d2])
    have key : ∀ i (x : PV), ((xs.drop o).take n)[i]? = some x -> i < n /\ xs[o + i]? = some x := fun i x hx => by
     have hi : i < n := by have := (List.getElem?_eq_some_iff.1 hx).1; simp at this; omega
     rw [List.getElem?_take_of_lt hi, List.getElem?_drop] at hx
     exact ⟨hi, hx⟩
    have cel : ∀ i (x : PV), ((xs.drop o).take n)[i]? = some x -> ∀ j (y : PV), x.ncells[j]? = some y -> Qu w (Xof C ρ (Q7 hp l)) (dsn fr hp k y) (cur.getD ((o + i) * e + j) undef) := fun i x hx j y hy => by
     have hxm := List.mem_of_getElem? hx
     refine Qqw h k (k11 (o + i) x (key i x hx).2 j y hy) (ho2 x hxm y (List.mem_of_getElem? hy)) fun β hβ => hl β ?_
     simp only [rch, hγ]
     exact List.mem_cons_of_mem _ (List.mem_flatMap.2 ⟨x, hxm, List.mem_flatMap.2 ⟨y, List.mem_of_getElem? hy, hβ⟩⟩)
    have hnc : ∀ i (x : PV), ((xs.drop o).take n)[i]? = some x -> (mkA (x.ncells.map (dsn fr hp k))).cells = x.ncells.map (dsn fr hp k) := fun i x hx => by
     refine Q0g fun c hc => ?_
     obtain ⟨y, hy, rfl⟩ := List.mem_map.1 hc
     obtain ⟨j, hj⟩ := List.getElem?_of_mem hy
     exact (cel i x hx j y hj).oneCell.2.2
    simp only [dsn, hγ]
    have hlen : (((xs.drop o).take n).map fun x => mkA (x.ncells.map (dsn fr hp k))).length = n := by simp; omega
    have := Qu.sl (w := w) (X := Xof C ρ (Q7 hp l)) e (((xs.drop o).take n).map fun x => mkA (x.ncells.map (dsn fr hp k))) b (o * hb.e) cap2 (fun i j => cur.getD ((o + i) * e + j) undef) hX hlt (by omega) (by omega)
     (fun i x hx => by
      simp only [List.getElem?_map, Option.map_eq_some_iff] at hx
      obtain ⟨x0, hx0, rfl⟩ := hx
      rw [hnc i x0 hx0, List.length_map]; exact k10 _ x0 (key i x0 hx0).2)
     (fun i hi j hj => by
      rw [hlen] at hi
      rw [k4]
      have := Qee (i := o + i) (e := e) (o := 0) (j := j) (n := e) (cap := cap) (by omega) (by omega) hj
      rw [Nat.add_zero] at this
      rw [show o * e + i * e + j = (o + i) * e + j by rw [Nat.add_mul]]
      exact Qa8 k6 (by rw [k7]; exact this))
     (fun i x hx j y hy => by
      simp only [List.getElem?_map, Option.map_eq_some_iff] at hx
      obtain ⟨x0, hx0, rfl⟩ := hx
      rw [hnc i x0 hx0, List.getElem?_map, Option.map_eq_some_iff] at hy
      obtain ⟨y0, hy0, rfl⟩ := hy
      exact cel i x0 hx0 j y0 hy0)
    rw [hlen] at this
    exact this
   ·exact ho.elim
  | _ => exact Qu.freeze hr
def Qix (fr : Fr) (hp : HP) (k : Nat) : PV -> PV
 | .rag cs => .agg (cs.map (dsn fr hp k))
 | p => dsn fr hp k p
def Qqx (fr : Fr) (k : Nat) : PV -> List Nat
 | .rag cs => cs.flatMap (rch fr k)
 | p => rch fr k p
def Qmp (fr : Fr) (k : Nat) : PV -> Prop
 | .rag cs => ∀ c ∈ cs, okD fr k c
 | .nso γ o n => okD fr k (.nso γ o n)
 | _ => False
theorem Qt7 (s k : Nat) (ho : Qmp fr k (fr s)) : Wk fr hp (upd fr s (Qix fr hp k (fr s))) (Q7 hp (Qqx fr k (fr s))) := by
 rintro C tmps w ⟨ρ, hs⟩
 have hf := hs.freeze (Qqx fr k (fr s))
 refine ⟨ρ, hf.sz, hf.ext, hf.keep, hf.own, hf.inj, fun i => ?_⟩
 unfold upd
 split
 ·rename_i hi; subst hi
  have hsl := hs.slots i
  generalize hp0 : fr i = p at *
  cases p with
  | rag cs =>
   obtain ⟨vs, e1, h1, h2⟩ := hsl
   refine ⟨vs, e1, by simpa using h1, fun j x hj => ?_⟩
   simp only [List.getElem?_map, Option.map_eq_some_iff] at hj
   obtain ⟨y, hy, rfl⟩ := hj
   exact Qqw hs k (h2 j y hy) (ho y (List.mem_of_getElem? hy)) fun β hβ => List.mem_flatMap.2 ⟨y, List.mem_of_getElem? hy, hβ⟩
  | nso γ o n =>
   have := Qqw (l := rch fr k (.nso γ o n)) hs k (p := .nso γ o n) hsl ho (fun β hβ => hβ)
   exact Ql.ofData (Qae.of_c this)
  | _ => cases ho
 ·exact hf.slots i
end Go.FW
namespace Go.FW
open Go
variable {C : Ctx} {ρ : Nat -> Option Nat} {fr fr' : Fr} {hp hp' : HP} {w w' : World} {K R : Qg}
def Qjx (args : List PV) (G : Fr) : Fr := fun s => if s < 1000000 then (args[s]?).getD .undef else G s
def Qeq (r : PV) (F : Fr) : Fr := fun s => if s = 0 then r else if s < 1000000 then .undef else F s
def Ctx.setN (C : Ctx) (n : Nat) (hn : n <= 1000000) : Ctx := { C with N := n, hN := hn }
theorem Qkw.setN {C : Ctx} {n : Nat} {hn : n <= 1000000} {β : Nat} {hb : HB} : Qkw (C.setN n hn) ρ hp w β hb ↔ Qkw C ρ hp w β hb := ⟨fun h => ⟨h.epos, h.len, h.blk, h.fix, h.ro⟩, fun h => ⟨h.epos, h.len, h.blk, h.fix, h.ro⟩⟩
def Qca (P : Program) (f : FuncId) (args : List PV) (G : Fr) (hp0 : HP) (Post : PV -> Fr -> HP -> Prop) : Prop :=
 Qiq P f /\ ∀ (C : Ctx) (ρ : Nat -> Option Nat) (vals : Array Value) (w : World), C.P = P -> C.w0 = w -> C.N = args.length -> Q2 C ρ (Qjx args G) hp0 vals w ->
  Calls P f vals w fun e w' => ∃ v ρ' r F H, e = .returned v /\ Q2 (C.setN 1 (by decide)) ρ' (Qeq r F) H #[v] w' /\ Post r F H
def Qlo (rs : List RV) (Post : PV -> Fr -> HP -> Prop) : Qg := fun fr hp => ∃ fr' hp', Wk fr hp fr' hp' /\
 (Qcy rs (fun r => Post r fr' (Q7 hp' (rs.flatMap (lr fr')))) fr' hp' ∨ ∃ s, rs = [.t s] /\ Post (fr' s) fr' hp')
theorem Qd1 {rs : List RV} {Post : PV -> Fr -> HP -> Prop} (h : Qcy rs (fun r => Post r fr (Q7 hp (rs.flatMap (lr fr)))) fr hp) : Qlo rs Post fr hp := ⟨fr, hp, Wk.refl _ _, .inl h⟩
theorem Q4p {s : Nat} {Post : PV -> Fr -> HP -> Prop} (h : Post (fr s) fr hp) : Qlo [.t s] Post fr hp := ⟨fr, hp, Wk.refl _ _, .inr ⟨s, rfl, h⟩⟩
theorem Q8u {rs : List RV} {Post : PV -> Fr -> HP -> Prop} : KM (Qlo rs Post) (Qlo rs Post) := by
 rintro f f' hp hf ⟨fr', hp', h1, h2⟩
 exact ⟨fr', hp', hf.wk.trans h1, h2⟩
theorem Qt {rs : List RV} {Post : PV -> Fr -> HP -> Prop} : Qc5 (Qlo rs Post) [] := ⟨Q8u, .nil⟩
theorem Qel {P : Program} {f : FuncId} {fn : Func} {sf : SFn} {args : List PV} {G : Fr} {hp0 : HP} {Post : PV -> Fr -> HP -> Prop} (hm : P.follows .mixedOrders = true) (hf : P.funcs[f]? = some fn) (hname : (fn.name != "runtime.NumGoroutine") = true) (hc : Qf P fn = some sf.strip) (hn : args.length <= sf.n /\ sf.n <= 1000000)
  (hv : ∀ C : Ctx, C.P = P -> vc C (Qlo sf.rs Post) [.c sf.body] (Qjx args G) hp0) : Qca P f args G hp0 Post := by
 simp only [Qf, Option.bind_eq_some_iff, Option.map_eq_some_iff] at hc
 obtain ⟨c, hb, sb, hcb, rs, hrs, hsf⟩ := hc
 obtain ⟨n, rs', body⟩ := sf
 simp only [SFn.strip, SFn.mk.injEq] at hsf
 obtain ⟨rfl, rfl, rfl⟩ := hsf
 refine ⟨by simp [Qiq, hf, hb]; simpa using hname, fun C ρ vals w hP hw hN hs => ?_⟩
 subst hP
 refine calls_of_wp hf hb ?_
 have hvs : vals.size = args.length := by rw [hs.sz, hN]
 have hsz' : (vals ++ Array.replicate (fn.ntmps - vals.size) undef).size = fn.ntmps := by simp at hn ⊢; omega
 have hsim : Q2 (C.setN fn.ntmps hn.2) ρ (Qjx args G) hp0 (vals ++ Array.replicate (fn.ntmps - vals.size) undef) w := by
  refine ⟨hsz', hs.ext, hs.keep, fun β hb h => Qkw.setN.2 (hs.own β hb h), hs.inj, fun i => ?_⟩
  have hsl := hs.slots i
  by_cases hi : i < args.length
  ·have e : (vals ++ Array.replicate (fn.ntmps - vals.size) undef).getD i undef = vals.getD i undef := by
    rw [Qbo, if_pos (by omega)]
   rw [e]; exact hsl
  ·unfold Qjx at hsl ⊢
   split
   ·rw [List.getElem?_eq_none (by omega)]; trivial
   ·rename_i h2
    rw [if_neg h2] at hsl
    have e1 : vals.getD i undef = undef := by simp [Array.getD, hvs, hi]
    have e2 : (vals ++ Array.replicate (fn.ntmps - vals.size) undef).getD i undef = undef := by
     simp only [Array.getD]; rw [dif_neg (by rw [hsz']; simp at hn; omega)]
    rw [e2]; rw [e1] at hsl; exact hsl
 have fin : ∀ (fr : Fr) (hp : HP) (a : Act) (w' : World), a.defers = [] -> Sim (C.setN fn.ntmps hn.2) fr hp a.tmps w' -> Qlo rs Post fr hp ->
   a.defers = [] /\ ∃ v, (results fn a.tmps).run C.P w' = .ok v w' /\ ∃ v' ρ' r F H, Ending.returned v = .returned v' /\ Q2 (C.setN 1 (by decide)) ρ' (Qeq r F) H #[v'] w' /\ Post r F H := by
  rintro fr hp a w' hd hs0 ⟨fr1, hp1, hw1, hr⟩
  obtain ⟨ρ1, hs1⟩ := hw1 _ _ _ hs0
  have ghost : ∀ {hp2 : HP} {r : PV} {v : Value}, Q2 (C.setN fn.ntmps hn.2) ρ1 fr1 hp2 a.tmps w' -> Ql C ρ1 hp2 w' r v -> Q2 (C.setN 1 (by decide)) ρ1 (Qeq r fr1) hp2 #[v] w' := by
   intro hp2 r v hs2 hv2
   refine ⟨rfl, hs2.ext, hs2.keep, fun β hb h => Qkw.setN.2 (Qkw.setN.1 (hs2.own β hb h)), hs2.inj, fun i => ?_⟩
   unfold Qeq
   split
   ·rename_i hi; subst hi; exact hv2
   ·split
    ·trivial
    ·rename_i h0 h1
     have hsl := hs2.slots i
     have e1 : a.tmps.getD i undef = undef := by
      have hz : a.tmps.size = fn.ntmps := hs2.sz
      have hn2 : fn.ntmps <= 1000000 := hn.2
      simp only [Array.getD]; rw [dif_neg (by omega)]
     have e2 : (#[v] : Array Value).getD i undef = undef := by
      simp only [Array.getD]; rw [dif_neg (by simp; omega)]
     rw [e2]; rw [e1] at hsl; exact hsl
  rcases hr with hr | ⟨s, hrs1, hpost⟩
  ·obtain ⟨v, r, h1, h2, _, h3⟩ := Qk3 (C := C.setN fn.ntmps hn.2) rfl hrs hs1 hr
   refine ⟨hd, v, h1, v, ρ1, r, fr1, _, rfl, ghost (hs1.freeze _) (Ql.ofV h2), h3⟩
  ·subst hrs1
   obtain ⟨x, hx⟩ : ∃ x, fn.results.toList = [x] := by
    have := Qcw hrs
    exact List.length_eq_one_iff.1 (by rw [<- this.1]; rfl)
   have hx2 : Qbc C.P x = some (.t s) := by
    rw [hx] at hrs
    simp only [List.mapM_cons, List.mapM_nil, Option.bind_eq_bind, Option.pure_def, Option.bind_eq_some_iff, Option.some.injEq] at hrs
    obtain ⟨y, h1, _, _, h2⟩ := hrs
    simp only [List.cons.injEq] at h2
    rw [<- h2.1]; exact h1
   have hx3 : x = .tmp s := by
    cases x with
    | tmp t => simpa [Qbc] using hx2
    | cell y t => simp [Qbc, Option.bind_eq_some_iff] at hx2
   subst hx3
   have hres : (results fn a.tmps).run C.P w' = .ok (a.tmps.getD s undef) w' := by
    have e : results fn a.tmps = (do let vs <- fn.results.mapM (Qir a.tmps); pure (if h : vs.size = 1 then vs[0] else .tuple vs)) := rfl
    rw [e, Array.mapM_eq_mapM_toList, hx]
    simp [Sem.run_bind, Qir]
   exact ⟨hd, _, hres, _, ρ1, _, fr1, hp1, rfl, ghost hs1 (hs1.slots s), hpost⟩
 exact Qjr (C := C.setN fn.ntmps hn.2) (R := Qlo rs Post) hm c body [] _ (Qjx args G) hp0 _ w hcb ⟨fun fr hp a w' hd hs hv => (by rw [Qhi] at hv; exact fin fr hp a w' hd hs hv), fun id sk' he => (by simp [FW.Qad] at he), fin⟩ rfl ⟨ρ, hsim⟩ (hv (C.setN fn.ntmps hn.2) rfl)
structure Qlp (C : Ctx) (hp : HP) (hp0 : HP) (gv : Nat -> Option Nat) : Prop where
 g : ∀ β γ, gv β = some γ -> ∃ hb, hp γ = some hb /\ isB β = true /\ (isR β = true -> hp0 β = some ⟨hb.e, hb.ty, hb.xs, true⟩) /\ (isR β = false -> hp0 β = some hb /\ hb.fz = false /\ isB γ = true /\ (isY β = false -> isY γ = false))
 a : ∀ β, hp0 β ≠ none -> ∃ γ, gv β = some γ
 i : ∀ β β' γ, gv β = some γ -> gv β' = some γ -> β = β'
def gn (gv : Nat -> Option Nat) : Nat -> Option Nat := fun β => if isR β = true then none else gv β
theorem Qic {gv : Nat -> Option Nat} {β γ : Nat} (h : gn gv β = some γ) : isR β = false /\ gv β = some γ := by
 unfold gn at h
 split at h
 ·cases h
 ·rename_i hr; exact ⟨by simpa using hr, h⟩
theorem Qji {gv : Nat -> Option Nat} {β : Nat} (h : isR β = false) : gn gv β = gv β := by unfold gn; rw [h]; rfl
theorem Qlp.n {C : Ctx} {hp hp0 : HP} {gv : Nat -> Option Nat} (hh : Qlp C hp hp0 gv) (β γ : Nat) (h : gn gv β = some γ) : ∃ hb, hp0 β = some hb /\ hp γ = some hb /\ hb.fz = false /\ isB β = true /\ isB γ = true /\ (isY β = false -> isY γ = false) := by
 obtain ⟨hr, h⟩ := Qic h
 obtain ⟨hb, h1, h2, _, h4⟩ := hh.g β γ h
 obtain ⟨k1, k2, k3, k4⟩ := h4 hr
 exact ⟨hb, k1, h1, k2, h2, k3, k4⟩
theorem Qlp.s {C : Ctx} {hp hp0 : HP} {gv : Nat -> Option Nat} (hh : Qlp C hp hp0 gv) (β γ : Nat) (h : gv β = some γ) : ∃ hb hb', hp γ = some hb /\ hp0 β = some hb' /\ hb'.e = hb.e /\ hb'.ty = hb.ty /\ hb'.xs = hb.xs /\ (hb'.fz = false -> hb = hb' /\ isR β = false) /\ (isR β = true -> hb'.fz = true) /\ isB β = true := by
 obtain ⟨hb, h1, h2, h3, h4⟩ := hh.g β γ h
 cases hr : isR β with
 | true => exact ⟨hb, _, h1, h3 hr, rfl, rfl, rfl, (fun h => by cases h), fun _ => rfl, h2⟩
 | false =>
  obtain ⟨k1, k2, _⟩ := h4 hr
  exact ⟨hb, hb, h1, k1, rfl, rfl, rfl, (fun _ => ⟨rfl, rfl⟩), (fun h => by cases h), h2⟩
def Qmq (C : Ctx) (ρ : Nat -> Option Nat) (fr : Fr) (hp hp0 : HP) (tmps : Array Value) (w : World) (gv : Nat -> Option Nat) (hs : Q2 C ρ fr hp tmps w) (hh : Qlp C hp hp0 gv) (n : Nat) (hn : n <= 1000000) : Ctx where
 P := C.P
 N := n
 w0 := w
 X0 := fun b => Xof C ρ hp b /\ ¬ ∃ β γ, gn gv β = some γ /\ ρ γ = some b
 hX0 := fun b hb => Qmi hs b hb.1
 hN := hn
 fx := fun β => if isY β = true then (gv β).bind ρ else none
 hfx := fun β b h => by
  split at h
  ·cases hq : gv β with
   | none => rw [hq] at h; cases h
   | some γ =>
    rw [hq] at h
    obtain ⟨hb, h2, _⟩ := hh.g β γ hq
    have := (hs.own γ hb h2).blk
    rw [show ρ γ = some b from h] at this
    exact ⟨this.2.1, fun hr hx => hx.2 ⟨β, γ, (Qji hr).trans hq, h⟩⟩
  ·cases h
 Z0 := fun b => ∃ β γ, gn gv β = some γ /\ isY β = false /\ ρ γ = some b
 hZ0 := fun b ⟨β, γ, h1, h2, h3⟩ => by
  obtain ⟨hb, _, k2, _⟩ := hh.n β γ h1
  have := (hs.own γ hb k2).blk
  rw [h3] at this
  refine ⟨this.2.1, fun hx => hx.2 ⟨β, γ, h1, h3⟩, fun β' hf => ?_⟩
  split at hf
  ·rename_i hy
   cases hq : gv β' with
   | none => rw [hq] at hf; cases hf
   | some γ' =>
    rw [hq] at hf
    obtain ⟨hb', k2', _⟩ := hh.g β' γ' hq
    have e := hs.inj γ γ' b (by simp [k2]) (by simp [k2']) h3 hf
    subst e
    have e2 := hh.i β β' γ (Qic h1).2 hq
    subst e2
    rw [h2] at hy; cases hy
  ·cases hf
theorem Qxm {tmps : Array Value} {w : World} {hp0 : HP} {gv : Nat -> Option Nat} {τ : Nat -> Nat} {args : List PV} {pargs : List PV} {G : Fr} {av : Array Value} (hs : Q2 C ρ fr hp tmps w) (hh : Qlp C hp hp0 gv)
  (hτ : ∀ β γ, gv β = some γ -> τ γ = β) (hsz : av.size = args.length) (hargs : args.map (rnP τ) = pargs) (hav : ∀ (i : Nat) (x : PV), args[i]? = some x -> Ql C ρ hp w x (av.getD i undef))
  (hna : ∀ x ∈ args, ∀ γ ∈ x.refs ++ x.sref, ∃ β, gv β = some γ) (hG : ∀ s, 1000000 <= s -> G s = .undef ∨ ∃ s', 1000000 <= s' /\ G s = rnP τ (fr s') /\ ∀ γ ∈ (fr s').refs ++ (fr s').sref, ∃ β, gv β = some γ) (hpl : pargs.length <= 1000000) :
  Q2 (Qmq C ρ fr hp hp0 tmps w gv hs hh pargs.length hpl) (fun β => (gv β).bind ρ) (Qjx pargs G) hp0 av w := by
 subst hargs
 have hX : ∀ b, Xof (Qmq C ρ fr hp hp0 tmps w gv hs hh (args.map (rnP τ)).length hpl) (fun β => (gv β).bind ρ) hp0 b -> Xof C ρ hp b := by
  rintro b (hx | ⟨β, hb, h1, h2, h3⟩)
  ·exact hx.1
  ·cases hq : gv β with
   | none => simp only [hq] at h3; cases h3
   | some γ =>
    simp only [hq, Option.bind_some] at h3
    obtain ⟨hb1, hb', k2, k1, _, _, _, k6, _⟩ := hh.s β γ hq
    rw [h1] at k1; cases k1
    exact .inr ⟨γ, hb1, k2, by rw [(k6 h2).1]; exact h2, h3⟩
 have hr : ∀ γ, (∃ β, gv β = some γ) -> Rn1 τ ρ (fun β => (gv β).bind ρ) hp hp0 γ := fun γ ⟨β, hβ⟩ => by
  obtain ⟨hb, hb2, k2, k1, k3, k4, k5, _, _, k8⟩ := hh.s β γ hβ
  refine ⟨?_, fun hb' h' => ?_, fun _ => by rw [hτ β γ hβ]; exact k8⟩
  ·show (gv (τ γ)).bind ρ = ρ γ
   rw [hτ β γ hβ, hβ]; rfl
  ·rw [k2] at h'; cases h'
   exact ⟨hb2, by rw [hτ β γ hβ]; exact k1, k3, k4, k5⟩
 refine ⟨by rw [hsz]; simp [Qmq], Ext.refl _ _, fun _ _ _ _ _ h => h, fun β hb hβ => ?_, fun β δ b h1 h2 h3 h4 => ?_, fun i => ?_⟩
 ·obtain ⟨γ, hγ⟩ := hh.a β (by simp [hβ])
  obtain ⟨hb1, hb', k2, k1, k3, k4, k5, k6, k7, _⟩ := hh.s β γ hγ
  rw [hβ] at k1; cases k1
  obtain ⟨q1, q2, q3, q4, q5⟩ := hs.own γ hb1 k2
  refine ⟨by rw [k3]; exact q1, by rw [k3, k5]; exact q2, ?_, fun hy => ?_, k7⟩
  ·simp only [hγ, Option.bind_some]
   cases hr : ρ γ with
   | none => rw [hr] at q3; rw [k5]; exact q3
   | some b =>
    rw [hr] at q3
    refine ⟨?_, q3.2.1, q3.2.2.move rfl k3 k4 k5 fun q u hq => Qu.sub hq hX⟩
    unfold Ctx.cls
    split
    ·rename_i hy
     show (if isY β = true then (gv β).bind ρ else none) = some b
     rw [if_pos hy, hγ]; exact hr
    ·rename_i hy
     exact .inr ⟨β, γ, (Qji (Qj5 (by simpa using hy))).trans hγ, by simpa using hy, hr⟩
  ·show (gv β).bind ρ = (if isY β = true then (gv β).bind ρ else none)
   rw [if_pos hy]
 ·obtain ⟨γ1, e1⟩ := hh.a β h1
  obtain ⟨γ2, e2⟩ := hh.a δ h2
  simp only [e1, Option.bind_some] at h3
  simp only [e2, Option.bind_some] at h4
  obtain ⟨hb1, k1, _⟩ := hh.g β γ1 e1
  obtain ⟨hb2, k2, _⟩ := hh.g δ γ2 e2
  have := hs.inj γ1 γ2 b (by simp [k1]) (by simp [k2]) h3 h4
  subst this
  exact hh.i β δ γ1 e1 e2
 ·unfold Qjx
  split
  ·rw [List.getElem?_map]
   cases hi : args[i]? with
   | none => trivial
   | some x =>
    simp only [Option.map_some, Option.getD_some]
    exact (hav i x hi).ren hX fun γ hγ => hr γ (hna x (List.mem_of_getElem? hi) γ hγ)
  ·rename_i hi
   have e1 : av.getD i undef = undef := by
    simp only [Array.getD]; rw [dif_neg (by simp at hpl; omega)]
   rcases hG i (by omega) with e | ⟨s', hs', e, hn⟩
   ·rw [e]; trivial
   ·rw [e, e1]
    have hsl := hs.slots s'
    have e2 : tmps.getD s' undef = undef := by
     simp only [Array.getD]; rw [dif_neg (by rw [hs.sz]; have := C.hN; omega)]
    rw [e2] at hsl
    exact hsl.ren hX fun γ hγ => hr γ (hn γ hγ)
theorem Q0h {tmps : Array Value} {hp0 H hp2 : HP} {gv eo : Nat -> Option Nat} {σ : Nat -> Nat} {F fr2 : Fr} {r : PV} {v : Value} {d : Option Nat} {n : Nat} {hn : n <= 1000000} {ρ2 : Nat -> Option Nat} (hs : Q2 C ρ fr hp tmps w) (hh : Qlp C hp hp0 gv)
  (h2 : Q2 ((Qmq C ρ fr hp hp0 tmps w gv hs hh n hn).setN 1 (by decide)) ρ2 (Qeq r F) H #[v] w') (hd : ∀ x, d = some x -> x < C.N)
  (e1 : ∀ γ β, eo γ = some β -> H β ≠ none /\ σ β = γ /\ isB γ = true /\ ((isY β = true /\ gn gv β = some γ) ∨ (isY β = false /\ isY γ = false /\ (hp γ = none ∨ ∃ β', gn gv β' = some γ))))
  (e2 : ∀ β γ, gn gv β = some γ -> isY β = true -> eo γ = some β)
  (q1 : ∀ γ β, eo γ = some β -> hp2 γ = H β) (q2 : ∀ γ, eo γ = none -> (∃ β, gn gv β = some γ) -> hp2 γ = none) (q3 : ∀ γ, eo γ = none -> (¬ ∃ β, gn gv β = some γ) -> hp2 γ = hp γ)
  (hS : ∀ s, fr2 s = .undef ∨
   (d ≠ some s /\ fr2 s = fr s /\ (∀ γ ∈ (fr s).refs ++ (fr s).sref, (¬ ∃ β, gn gv β = some γ) ∨ ∃ β hb hb', gn gv β = some γ /\ isY β = true /\ hp γ = some hb /\ H β = some hb' /\ hb'.e = hb.e /\ hb.xs.length <= hb'.xs.length) /\ ∀ γ e ty xs, fr s = .nst γ e ty xs -> ¬ ∃ β, gn gv β = some γ) ∨
   (d = some s /\ fr2 s = rnP σ r /\ ∀ β ∈ r.refs ++ r.sref, eo (σ β) = some β) ∨
   (∃ s', 1000000 <= s' /\ (∃ γ e ty xs, F s' = .nst γ e ty xs) /\ fr2 s = rnP σ (F s') /\ ∀ β ∈ (F s').refs ++ (F s').sref, eo (σ β) = some β)) :
  Sim C fr2 hp2 (Qma tmps d v) w' := by
 obtain ⟨Yg, hYg⟩ : ∃ f : Nat -> Prop, f = fun b => ∃ β γ, gn gv β = some γ /\ ρ γ = some b := ⟨_, rfl⟩
 have yX : ∀ b, Yg b -> Xof C ρ hp b := fun b hb => by
  rw [hYg] at hb
  obtain ⟨β, γ, h1, h3⟩ := hb
  obtain ⟨hb, _, k2, k3, _⟩ := hh.n β γ h1
  exact .inr ⟨γ, hb, k2, k3, h3⟩
 have hext : Ext Yg w w' := h2.ext.mono fun b _ hb => by
  rw [hYg]
  rcases hb with ⟨β, hr, hb⟩ | ⟨β, γ, h1, _, h3⟩
  ·have hb : (if isY β = true then (gv β).bind ρ else none) = some b := hb
   split at hb
   ·cases hq : gv β with
    | none => rw [hq] at hb; cases hb
    | some γ => rw [hq] at hb; exact ⟨β, γ, (Qji hr).trans hq, hb⟩
   ·cases hb
  ·exact ⟨β, γ, h1, h3⟩
 have ycls : ∀ b, Yg b -> ∃ β γ, gn gv β = some γ /\ ρ γ = some b /\ C.cls γ b /\ hp γ ≠ none /\ isR γ = false := fun b hb => by
  rw [hYg] at hb
  obtain ⟨β, γ, h1, h3⟩ := hb
  obtain ⟨hb, _, k2, k3, _⟩ := hh.n β γ h1
  have := (hs.own γ hb k2).blk
  rw [h3] at this
  refine ⟨β, γ, h1, h3, this.1, by simp [k2], ?_⟩
  cases hR : isR γ with
  | false => rfl
  | true => have := (hs.own γ hb k2).ro hR; rw [k3] at this; cases this
 have nogive : ∀ γ b, hp γ ≠ none -> (¬ ∃ β, gn gv β = some γ) -> ρ γ = some b -> ¬ Yg b := fun γ b hk hng hr hy => by
  obtain ⟨β, γ', h1, h3, _, h5, _⟩ := ycls b hy
  have := hs.inj γ γ' b hk h5 hr h3
  subst this
  exact hng ⟨β, h1⟩
 have own2 : ∀ β hb, H β = some hb -> Qkw (Qmq C ρ fr hp hp0 tmps w gv hs hh n hn) ρ2 H w' β hb := fun β hb h => Qkw.setN.1 (h2.own β hb h)
 have fixY : ∀ β γ, isY β = true -> gn gv β = some γ -> H β ≠ none -> ρ2 β = ρ γ := fun β γ hy hg hH => by
  obtain ⟨hb, hq⟩ := Option.ne_none_iff_exists'.1 hH
  have := (own2 β hb hq).fix hy
  rw [this]
  show (if isY β = true then (gv β).bind ρ else none) = ρ γ
  rw [if_pos hy, (Qic hg).2]; rfl
 have clsN : ∀ β hb b, isY β = false -> H β = some hb -> ρ2 β = some b -> w.heap.size <= b ∨ Yg b := fun β hb b hy hH hr => by
  have := (own2 β hb hH).blk
  rw [hr] at this
  rcases Ctx.cls_N this.1 hy with h | ⟨β', γ', k1, _, k3⟩
  ·exact .inl h
  ·exact .inr (by rw [hYg]; exact ⟨β', γ', k1, k3⟩)
 have clsNN : ∀ β hb b, isY β = false -> H β = some hb -> ρ2 β = some b -> C.w0.heap.size <= b ∨ C.Z0 b := fun β hb b hy hH hr => by
  have := (own2 β hb hH).blk
  rw [hr] at this
  rcases Ctx.cls_N this.1 hy with h | ⟨β', γ', k1, k2, k3⟩
  ·exact .inl (Nat.le_trans hs.ext.size h)
  ·obtain ⟨hb', _, l2, _, _, _, l6⟩ := hh.n β' γ' k1
   have := (hs.own γ' hb' l2).blk
   rw [k3] at this
   exact Ctx.cls_N this.1 (l6 k2)
 obtain ⟨ρ', hρ⟩ : ∃ f : Nat -> Option Nat, f = fun γ => match eo γ with | some β => ρ2 β | none => ρ γ := ⟨_, rfl⟩
 have rs : ∀ γ β, eo γ = some β -> ρ' γ = ρ2 β := fun γ β h => by rw [hρ]; simp [h]
 have rn : ∀ γ, eo γ = none -> ρ' γ = ρ γ := fun γ h => by rw [hρ]; simp [h]
 have hXs : ∀ b, Xof C ρ' hp2 b -> Xof (Qmq C ρ fr hp hp0 tmps w gv hs hh n hn) ρ2 H b := by
  rintro b (hx | ⟨γ, hb, h1, h3, h4⟩)
  ·refine .inl ⟨.inl hx, fun hy => ?_⟩
   obtain ⟨_, γ, _, _, h5, _, h7⟩ := ycls b (by rw [hYg]; exact hy)
   exact Ctx.cls_notX h5 h7 hx
  ·cases hq : eo γ with
   | some β => rw [q1 γ β hq] at h1; rw [rs γ β hq] at h4; exact .inr ⟨β, hb, h1, h3, h4⟩
   | none =>
    rw [rn γ hq] at h4
    by_cases hg : ∃ β, gn gv β = some γ
    ·rw [q2 γ hq hg] at h1; cases h1
    ·rw [q3 γ hq hg] at h1
     exact .inl ⟨.inr ⟨γ, hb, h1, h3, h4⟩, fun hy => nogive γ b (by simp [h1]) hg h4 (by rw [hYg]; exact hy)⟩
 have hXb : ∀ b, b < w.heap.size -> Xof C ρ' hp2 b -> Xof C ρ hp b := fun b hb hx => by
  rcases hXs b hx with hx | ⟨β, hbk, h1, h3, h4⟩
  ·exact hx.1
  ·by_cases hy : isY β = true
   ·have := (own2 β hbk h1).fix hy
    rw [h4] at this
    have this : some b = (if isY β = true then (gv β).bind ρ else none) := this
    rw [if_pos hy] at this
    have hR : isR β = false := by
     cases hR : isR β with
     | false => rfl
     | true => have := (own2 β hbk h1).ro hR; rw [h3] at this; cases this
    cases hq : gv β with
    | none => rw [hq] at this; cases this
    | some γ => rw [hq] at this; exact yX b (by rw [hYg]; exact ⟨β, γ, (Qji hR).trans hq, this.symm⟩)
   ·rcases clsN β hbk b (by simpa using hy) h1 h4 with h | h
    ·omega
    ·exact yX b h
 have hst : Qf8 w w' (Xof C ρ hp) (Xof C ρ' hp2) := ⟨fun b hb hnx => hext.block b hb fun hy => hnx (yX b hy), fun b hb hnx hx => hnx (hXb b hb hx), hext.size⟩
 have capK : ∀ β γ b, isY β = true -> gn gv β = some γ -> ρ γ = some b -> ∀ e cap, Qa1 w b e cap -> Qa1 w' b e cap := fun β γ b hy hg hr e cap hc => by
  refine h2.keep β b ?_ e cap hc
  show (if isY β = true then (gv β).bind ρ else none) = some b
  rw [if_pos hy, (Qic hg).2]; exact hr
 refine ⟨ρ', ?_, ?_, fun β b hb e cap hc => ?_, fun γ hb hγ => ?_, fun γ δ b g1 g2 g3 g4 => ?_, fun s => ?_⟩
 ·cases d with
  | none => exact hs.sz
  | some d => simp only [Qma]; simpa using hs.sz
 ·refine hs.ext.trans' hext fun b hb hy => ?_
  obtain ⟨_, _, _, _, h5, _, h7⟩ := ycls b hy
  exact (Ctx.cls_or h5 h7).resolve_left (by omega)
 ·have h1 := hs.keep β b hb e cap hc
  by_cases hy : Yg b
  ·obtain ⟨β1, γ1, k1, k3, k4, k5, _⟩ := ycls b hy
   by_cases hY : isY β1 = true
   ·exact capK β1 γ1 b hY k1 k3 e cap h1
   ·obtain ⟨_, _, _, _, _, _, l6⟩ := hh.n β1 γ1 k1
    exact absurd hb (Ctx.N_fx (Ctx.cls_N k4 (l6 (by simpa using hY))))
  ·exact Qbn (hext.block b (Qco h1) hy) h1
 ·cases hq : eo γ with
  | some β =>
   have hH : H β = some hb := by rw [<- q1 γ β hq]; exact hγ
   obtain ⟨k1, k2, k3, k4⟩ := e1 γ β hq
   obtain ⟨o1, o2, o3, o4, o5⟩ := own2 β hb hH
   refine ⟨o1, o2, ?_, fun hy => ?_, fun hR => ?_⟩
   ·rw [rs γ β hq]
    cases hr : ρ2 β with
    | none => rw [hr] at o3; exact o3
    | some b =>
     rw [hr] at o3
     refine ⟨?_, o3.2.1, o3.2.2.move rfl rfl rfl rfl fun q u hq => Qu.sub hq hXs⟩
     rcases k4 with ⟨k4, k5⟩ | ⟨k4, k5, _⟩
     ·have e := fixY β γ k4 k5 k1
      rw [hr] at e
      obtain ⟨hb', _, l2, _⟩ := hh.n β γ k5
      have := (hs.own γ hb' l2).blk
      rw [<- e] at this
      exact this.1
     ·exact Ctx.cls_mk (clsNN β hb b k4 hH hr) k5
   ·rcases k4 with ⟨k4, k5⟩ | ⟨_, k5, _⟩
    ·rw [rs γ β hq, fixY β γ k4 k5 k1]
     obtain ⟨hb', _, l2, _⟩ := hh.n β γ k5
     exact (hs.own γ hb' l2).fix hy
    ·rw [k5] at hy; cases hy
   ·rcases k4 with ⟨k4, k5⟩ | ⟨_, k5, _⟩
    ·obtain ⟨hb', _, l2, l3, _⟩ := hh.n β γ k5
     have := (hs.own γ hb' l2).ro hR
     rw [l3] at this; cases this
    ·rw [Qj5 k5] at hR; cases hR
  | none =>
   by_cases hg : ∃ β, gn gv β = some γ
   ·rw [q2 γ hq hg] at hγ; cases hγ
   ·rw [q3 γ hq hg] at hγ
    obtain ⟨o1, o2, o3, o4, o5⟩ := hs.own γ hb hγ
    refine ⟨o1, o2, ?_, (fun hy => by rw [rn γ hq]; exact o4 hy), o5⟩
    rw [rn γ hq]
    cases hr : ρ γ with
    | none => rw [hr] at o3; exact o3
    | some b =>
     rw [hr] at o3
     exact ⟨o3.1, Nat.lt_of_lt_of_le o3.2.1 hext.size, o3.2.2.move (hext.block b o3.2.1 (nogive γ b (by simp [hγ]) hg hr)) rfl rfl rfl hst.rc⟩
 ·have cross : ∀ γ δ β, eo γ = some β -> eo δ = none -> hp2 δ ≠ none -> ρ2 β = some b -> ρ δ = some b -> False := fun γ δ β h1 h3 h5 h6 h7 => by
   have hg : ¬ ∃ β, gn gv β = some δ := fun hg => h5 (q2 δ h3 hg)
   rw [q3 δ h3 hg] at h5
   obtain ⟨k1, k2, k3, k4⟩ := e1 γ β h1
   obtain ⟨hb, hH⟩ := Option.ne_none_iff_exists'.1 k1
   rcases k4 with ⟨k4, k5⟩ | ⟨k4, k5, _⟩
   ·rw [fixY β γ k4 k5 k1] at h6
    obtain ⟨hb', _, l2, _⟩ := hh.n β γ k5
    have := hs.inj γ δ b (by simp [l2]) h5 h6 h7
    subst this
    exact hg ⟨β, k5⟩
   ·rcases clsN β hb b k4 hH h6 with h | h
    ·obtain ⟨hb', hq⟩ := Option.ne_none_iff_exists'.1 h5
     have := (hs.own δ hb' hq).blk
     rw [h7] at this
     omega
    ·exact nogive δ b h5 hg h7 h
  cases h1 : eo γ with
  | some β =>
   rw [rs γ β h1] at g3
   cases h3 : eo δ with
   | some β' =>
    rw [rs δ β' h3] at g4
    have := h2.inj β β' b (e1 γ β h1).1 (e1 δ β' h3).1 g3 g4
    rw [<- (e1 γ β h1).2.1, <- (e1 δ β' h3).2.1, this]
   | none => rw [rn δ h3] at g4; exact (cross γ δ β h1 h3 g2 g3 g4).elim
  | none =>
   rw [rn γ h1] at g3
   cases h3 : eo δ with
   | some β' => rw [rs δ β' h3] at g4; exact (cross δ γ β' h3 h1 g1 g4 g3).elim
   | none =>
    rw [rn δ h3] at g4
    have k : ∀ γ, eo γ = none -> hp2 γ ≠ none -> hp γ ≠ none := fun γ h hq => by
     by_cases hg : ∃ β, gn gv β = some γ
     ·exact absurd (q2 γ h hg) hq
     ·rwa [q3 γ h hg] at hq
    exact hs.inj γ δ b (k γ h1 g1) (k δ h3 g2) g3 g4
 ·have hr2 : ∀ β, eo (σ β) = some β -> Rn1 σ ρ2 ρ' H hp2 β := fun β h => ⟨rs _ _ h, (fun hb hq => ⟨hb, by rw [q1 _ _ h]; exact hq, rfl, rfl, rfl⟩), fun _ => (e1 _ _ h).2.2.1⟩
  rcases hS s with e | ⟨k1, k2, k3, k4⟩ | ⟨k1, k2, k3⟩ | ⟨s', k1, k2, k3, k4⟩
  ·rw [e]; trivial
  ·have hv : (Qma tmps d v).getD s undef = tmps.getD s undef := by
    cases d with
    | none => rfl
    | some x =>
     simp only [Qma, Array.getD_eq_getD_getElem?]
     rw [Array.getElem?_setIfInBounds_ne (fun e => k1 (by rw [e]))]
   rw [hv, k2]
   have hsl := hs.slots s
   have hkn := hsl.known
   have ful : ∀ γ, hp γ ≠ none -> (¬ ∃ β, gn gv β = some γ) -> Cnd ρ ρ' hp hp2 w w' γ := fun γ hk hg => by
    have heo : eo γ = none := by
     cases hq : eo γ with
     | none => rfl
     | some β =>
      rcases (e1 γ β hq).2.2.2 with ⟨_, h⟩ | ⟨_, _, h | h⟩
      ·exact absurd ⟨β, h⟩ hg
      ·exact absurd h hk
      ·exact absurd h hg
    refine ⟨rn γ heo, fun hb hq => ⟨hb, by rw [q3 γ heo hg]; exact hq, rfl, Nat.le_refl _, fun b cap hr hc => Qbn (hext.block b (Qco hc) (nogive γ b hk hg hr)) hc, fun he => ⟨he, rfl, fun b hr => hext.block b ?_ (nogive γ b hk hg hr)⟩⟩⟩
    have := (hs.own γ hb hq).blk
    rw [hr] at this
    exact this.2.1
   have par : ∀ γ, hp γ ≠ none -> ((¬ ∃ β, gn gv β = some γ) ∨ ∃ β hb hb', gn gv β = some γ /\ isY β = true /\ hp γ = some hb /\ H β = some hb' /\ hb'.e = hb.e /\ hb.xs.length <= hb'.xs.length) -> Qmb ρ ρ' hp hp2 w w' γ := fun γ hk h => by
    rcases h with h | ⟨β, hb, hb', l1, l2, l3, l4, l5, l6⟩
    ·exact (ful γ hk h).weak
    ·have heo := e2 β γ l1 l2
     refine ⟨by rw [rs γ β heo]; exact fixY β γ l2 l1 (by simp [l4]), fun hb0 hq => ?_⟩
     rw [l3] at hq; cases hq
     exact ⟨hb', by rw [q1 γ β heo]; exact l4, l5, l6, fun b cap hr hc => capK β γ b l2 l1 hr _ cap hc⟩
   refine hsl.move hst (fun γ hγ => ?_) (fun γ hγ => par γ (hkn.2 γ hγ) (k3 γ (List.mem_append_right _ hγ))) (fun γ e ty xs e0 => ful γ (hkn.2 γ (by rw [e0]; simp [PV.sref])) (k4 γ e ty xs e0))
   have := par γ (hkn.1 γ hγ) (k3 γ (List.mem_append_left _ hγ))
   exact ⟨this.r, this.h⟩
  ·subst k1
   have hv : (Qma tmps (some s) v).getD s undef = v := by
    have := hd s rfl
    simp [Qma, Array.getD, hs.sz, this]
   rw [hv, k2]
   have := h2.slots 0
   exact Ql.ren (C' := C) (ρ' := ρ') (hp' := hp2) this hXs fun β hβ => hr2 β (k3 β hβ)
  ·obtain ⟨γ, e, ty, xs, hF⟩ := k2
   rw [k3]
   have := h2.slots s'
   have e0 : Qeq r F s' = F s' := by unfold Qeq; rw [if_neg (by omega), if_neg (by omega)]
   rw [e0] at this
   have h3 := Ql.ren (C' := C) (ρ' := ρ') (hp' := hp2) this hXs fun β hβ => hr2 β (k4 β hβ)
   rw [hF] at h3 ⊢
   exact h3
theorem Q0i {tmps : Array Value} {hp0 H : HP} {gv : Nat -> Option Nat} {F : Fr} {r : PV} {v : Value} {n : Nat} {hn : n <= 1000000} {ρ2 : Nat -> Option Nat} (hs : Q2 C ρ fr hp tmps w) (hh : Qlp C hp hp0 gv)
  (h2 : Q2 ((Qmq C ρ fr hp hp0 tmps w gv hs hh n hn).setN 1 (by decide)) ρ2 (Qeq r F) H #[v] w') (h0 : ∀ β, gn gv β = none) : Ext Qbb w w' := h2.ext.mono fun b _ hb => by
 rcases hb with ⟨β, hr, hb⟩ | ⟨β, γ, h1, _, h3⟩
 ·have hb : (if isY β = true then (gv β).bind ρ else none) = some b := hb
  have e := (Qji (gv := gv) hr).symm
  rw [e, h0 β] at hb
  split at hb <;> cases hb
 ·rw [h0 β] at h1; cases h1
end Go.FW
namespace Go.FW
open Go
variable {C : Ctx} {ρ : Nat -> Option Nat} {fr fr' : Fr} {hp hp' : HP} {w w' : World} {K R : Qg}
theorem Qpu {P : Program} {pr : Bool} (hP : C.P = P) {g : FuncId} {args pargs : List PV} {d : Option Nat} {G : Fr} {hp0 : HP} {Post : PV -> Fr -> HP -> Prop} (h : Qca P g pargs G hp0 Post) (gv : Nat -> Option Nat) (τ : Nat -> Nat) (hh : Qlp C hp hp0 gv)
  (hτ : ∀ β γ, gv β = some γ -> τ γ = β) (hargs : args.map (rnP τ) = pargs) (hna : ∀ x ∈ args, ∀ γ ∈ x.refs ++ x.sref, ∃ β, gv β = some γ)
  (hG : ∀ s, 1000000 <= s -> G s = .undef ∨ ∃ s', 1000000 <= s' /\ G s = rnP τ (fr s') /\ ∀ γ ∈ (fr s').refs ++ (fr s').sref, ∃ β, gv β = some γ) (hpl : pargs.length <= 1000000) (hpr : pr = true -> ∀ β, gn gv β = none)
  (hK : ∀ (ρ : Nat -> Option Nat) (tmps : Array Value) (w : World), Q2 C ρ fr hp tmps w -> ∀ r F H, Post r F H -> (∀ ρ2 C2 v w', Q2 C2 ρ2 (Qeq r F) H #[v] w' -> (∀ β, C2.fx β ≠ none -> H β ≠ none -> True) -> True) -> ∃ (eo : Nat -> Option Nat) (σ : Nat -> Nat) (fr2 : Fr) (hp2 : HP),
   (∀ γ β, eo γ = some β -> H β ≠ none /\ σ β = γ /\ isB γ = true /\ ((isY β = true /\ gn gv β = some γ) ∨ (isY β = false /\ isY γ = false /\ (hp γ = none ∨ ∃ β', gn gv β' = some γ)))) /\
   (∀ β γ, gn gv β = some γ -> isY β = true -> eo γ = some β) /\
   (∀ γ β, eo γ = some β -> hp2 γ = H β) /\ (∀ γ, eo γ = none -> (∃ β, gn gv β = some γ) -> hp2 γ = none) /\ (∀ γ, eo γ = none -> (¬ ∃ β, gn gv β = some γ) -> hp2 γ = hp γ) /\
   (∀ s, fr2 s = .undef ∨
    (d ≠ some s /\ fr2 s = fr s /\ (∀ γ ∈ (fr s).refs ++ (fr s).sref, (¬ ∃ β, gn gv β = some γ) ∨ ∃ β hb hb', gn gv β = some γ /\ isY β = true /\ hp γ = some hb /\ H β = some hb' /\ hb'.e = hb.e /\ hb.xs.length <= hb'.xs.length) /\ ∀ γ e ty xs, fr s = .nst γ e ty xs -> ¬ ∃ β, gn gv β = some γ) ∨
    (d = some s /\ fr2 s = rnP σ r /\ ∀ β ∈ r.refs ++ r.sref, eo (σ β) = some β) ∨
    (∃ s', 1000000 <= s' /\ (∃ γ e ty xs, F s' = .nst γ e ty xs) /\ fr2 s = rnP σ (F s') /\ ∀ β ∈ (F s').refs ++ (F s').sref, eo (σ β) = some β)) /\
   K fr2 hp2) : Qck C pr (.fn g [] []) args d fr hp K := by
 subst hP
 refine ⟨h.1, fun ρ tmps w fv cv av hdN hs h1 h2 h3 _ _ hr3 => ?_⟩
 have e1 : fv = #[] := Array.eq_empty_of_size_eq_zero (by simpa using h1)
 have e2 : cv = #[] := Array.eq_empty_of_size_eq_zero (by simpa using h2)
 subst e1; subst e2
 simp only [Array.empty_append, Array.append_empty]
 refine (h.2 (Qmq C ρ fr hp hp0 tmps w gv hs hh pargs.length hpl) _ av w rfl rfl rfl (Qxm hs hh hτ h3 hargs hr3 hna hG hpl)).mono ?_
 rintro e w' ⟨v, ρ', r, F, H, rfl, hs2, hpost⟩
 obtain ⟨eo, σ, fr2, hp2, a1, a2, a3, a4, a5, a6, a7⟩ := hK ρ tmps w hs r F H hpost (fun _ _ _ _ _ _ => trivial)
 exact ⟨v, fr2, hp2, rfl, Q0h hs hh hs2 hdN a1 a2 a3 a4 a5 a6, fun hq => Q0i hs hh hs2 (hpr hq), a7⟩
def Qe3 (r : PV) : Prop := (r.refs = [] /\ r.sref = []) /\ ∀ σ, rnP σ r = r
theorem Q0j {gv : Nat -> Option Nat} (h : ∀ β γ, gv β = some γ -> isR β = false) : gn gv = gv := by
 funext β
 cases hr : isR β with
 | false => exact Qji hr
 | true =>
  unfold gn
  rw [if_pos hr]
  cases hq : gv β with
  | none => rfl
  | some γ => have := h β γ hq; rw [hr] at this; cases this
theorem Qt8 {P : Program} (hP : C.P = P) {pr : Bool} {g : FuncId} {args pargs : List PV} {d : Option Nat} {G : Fr} {hp0 : HP} {Post : PV -> Fr -> HP -> Prop} (h : Qca P g pargs G hp0 Post) (gv : Nat -> Option Nat) (τ : Nat -> Nat)
  (hR : ∀ β γ, gv β = some γ -> isR β = true /\ ∃ hb, hp γ = some hb /\ hp0 β = some ⟨hb.e, hb.ty, hb.xs, true⟩) (ha : ∀ β, hp0 β ≠ none -> ∃ γ, gv β = some γ) (hi : ∀ β β' γ, gv β = some γ -> gv β' = some γ -> β = β')
  (hτ : ∀ β γ, gv β = some γ -> τ γ = β) (hargs : args.map (rnP τ) = pargs) (hna : ∀ x ∈ args, ∀ γ ∈ x.refs ++ x.sref, ∃ β, gv β = some γ)
  (hG : ∀ s, 1000000 <= s -> G s = .undef ∨ ∃ s', 1000000 <= s' /\ G s = rnP τ (fr s') /\ ∀ γ ∈ (fr s').refs ++ (fr s').sref, ∃ β, gv β = some γ) (hpl : pargs.length <= 1000000)
  (hK : ∀ r F H, Post r F H -> Qe3 r /\ K (Qbw fr d r) hp) : Qck C pr (.fn g [] []) args d fr hp K := by
 have g0 : ∀ β, gn gv β = none := fun β => by
  unfold gn
  split
  ·rfl
  ·rename_i hr
   cases hq : gv β with
   | none => rfl
   | some γ => exact absurd (hR β γ hq).1 hr
 have nog : ∀ γ : Nat, ¬ ∃ β, gn gv β = some γ := fun γ ⟨β, hβ⟩ => by rw [g0 β] at hβ; cases hβ
 refine Qpu hP h gv τ ⟨fun β γ hq => ?_, ha, hi⟩ hτ hargs hna hG hpl (fun _ => g0) (fun ρ tmps w hs r F H hpost _ => ?_)
 ·obtain ⟨h1, hb, h2, h3⟩ := hR β γ hq
  refine ⟨hb, h2, ?_, fun _ => h3, fun h => by rw [h1] at h; cases h⟩
  simp [isR] at h1; simp [isB]; omega
 ·obtain ⟨⟨⟨p1, p2⟩, p3⟩, hk⟩ := hK r F H hpost
  refine ⟨fun _ => none, id, Qbw fr d r, hp, (fun _ _ h => by cases h), (fun β γ h => by rw [g0 β] at h; cases h), (fun _ _ h => by cases h), fun γ _ h => absurd h (nog γ), fun _ _ _ => rfl, fun s => ?_, hk⟩
  cases d with
  | none => exact .inr (.inl ⟨(by simp), rfl, fun γ _ => .inl (nog γ), fun γ _ _ _ _ => nog γ⟩)
  | some d =>
   by_cases e : s = d
   ·subst e
    refine .inr (.inr (.inl ⟨rfl, ?_, fun β hβ => by rw [p1, p2] at hβ; cases hβ⟩))
    rw [p3]; simp [Qbw, upd]
   ·exact .inr (.inl ⟨by simp; exact fun h => e h.symm, by simp [Qbw, upd, e], fun γ _ => .inl (nog γ), fun γ _ _ _ _ => nog γ⟩)
def Qqy (P : Program) (f : FuncId) (args : List PV) (hb1 hb2 : HB) (Post : PV -> List PV -> Prop) : Prop :=
 Qca P f args (fun _ => .undef) (Qk (Qk hp0 1000000 hb1) 1500001 ⟨hb2.e, hb2.ty, hb2.xs, true⟩) fun r F H => Qe3 r /\ ∃ xs, H 1000000 = some ⟨hb1.e, hb1.ty, xs, false⟩ /\ xs.length = hb1.xs.length /\ Post r xs
theorem Qab2 {P : Program} (hP : C.P = P) {g : FuncId} {args pargs : List PV} {d : Option Nat} {β1 β2 : Nat} {hb1 hb2 : HB} {Post : PV -> List PV -> Prop} (h : Qqy P g pargs hb1 hb2 Post) (h1 : hp β1 = some hb1) (h2 : hp β2 = some hb2) (hne : β1 ≠ β2) (f1 : hb1.fz = false) (n1 : hb1.xs ≠ []) (B1 : isB β1 = true)
  (hargs : args.map (rnP fun x => if x = β1 then 1000000 else if x = β2 then 1500001 else x) = pargs) (hna : ∀ γ ∈ args.flatMap (fun x => x.refs ++ x.sref), γ = β1 ∨ γ = β2) (hpl : pargs.length <= 1000000)
  (hK : ∀ r xs, xs.length = hb1.xs.length -> Post r xs -> K (Qbw fr d r) (Qk hp β1 ⟨hb1.e, hb1.ty, xs, false⟩)) : Qck C false (.fn g [] []) args d fr hp K := by
 obtain ⟨gv, hgv⟩ : ∃ f : Nat -> Option Nat, f = fun x => if x = 1000000 then some β1 else if x = 1500001 then some β2 else none := ⟨_, rfl⟩
 have ga : ∀ β γ, gv β = some γ -> (β = 1000000 /\ γ = β1) ∨ (β = 1500001 /\ γ = β2) := fun β γ hq => by
  rw [hgv] at hq; simp only at hq
  split at hq
  ·cases hq; rename_i e; exact .inl ⟨e, rfl⟩
  ·split at hq
   ·cases hq; rename_i e; exact .inr ⟨e, rfl⟩
   ·cases hq
 have g0 : gv 1000000 = some β1 := by rw [hgv]; rfl
 have g1 : gv 1500001 = some β2 := by rw [hgv]; rfl
 have y0 : isY 1000000 = true := by decide
 have r0 : isR 1000000 = false := by decide
 have r1 : isR 1500001 = true := by decide
 have gna : ∀ β γ, gn gv β = some γ -> β = 1000000 /\ γ = β1 := fun β γ hq => by
  obtain ⟨k1, k2⟩ := Qic hq
  rcases ga β γ k2 with h | ⟨rfl, _⟩
  ·exact h
  ·rw [r1] at k1; cases k1
 have gn0 : gn gv 1000000 = some β1 := (Qji r0).trans g0
 refine Qpu hP h gv _ ⟨fun β γ hq => ?_, fun β hq => ?_, fun β β' γ q1 q2 => ?_⟩ (fun β γ hq => ?_) hargs (fun x hx γ hγ => ?_) (fun s _ => .inl rfl) hpl (fun hq => by cases hq) (fun ρ tmps w hs r F H hp0 _ => ?_)
 ·rcases ga β γ hq with ⟨rfl, rfl⟩ | ⟨rfl, rfl⟩
  ·exact ⟨hb1, h1, by decide, (fun h => by rw [r0] at h; cases h), fun _ => ⟨by simp [Qk], f1, B1, fun h => by rw [y0] at h; cases h⟩⟩
  ·exact ⟨hb2, h2, by decide, (fun _ => by simp [Qk]), fun h => by rw [r1] at h; cases h⟩
 ·by_cases e : β = 1500001
  ·subst e; exact ⟨_, g1⟩
  ·by_cases e2 : β = 1000000
   ·subst e2; exact ⟨_, g0⟩
   ·simp [Qk, FW.hp0, e, e2] at hq
 ·rcases ga β γ q1 with ⟨rfl, rfl⟩ | ⟨rfl, rfl⟩ <;> rcases ga β' _ q2 with ⟨rfl, e⟩ | ⟨rfl, e⟩
  ·rfl
  ·exact absurd e hne
  ·exact absurd e.symm hne
  ·rfl
 ·rcases ga β γ hq with ⟨rfl, rfl⟩ | ⟨rfl, rfl⟩
  ·simp
  ·rw [if_neg (fun e => hne e.symm), if_pos rfl]
 ·rcases hna γ (List.mem_flatMap.2 ⟨x, hx, hγ⟩) with rfl | rfl
  ·exact ⟨_, g0⟩
  ·exact ⟨_, g1⟩
 ·obtain ⟨⟨⟨p1, p2⟩, p3⟩, xs, k1, k2, k4⟩ := hp0
  obtain ⟨eo, heo⟩ : ∃ f : Nat -> Option Nat, f = fun γ => if γ = β1 then some 1000000 else none := ⟨_, rfl⟩
  have ea : ∀ γ β, eo γ = some β -> γ = β1 /\ β = 1000000 := fun γ β hq => by
   rw [heo] at hq; simp only at hq
   split at hq
   ·cases hq; rename_i e; exact ⟨e, rfl⟩
   ·cases hq
  have eb1 : eo β1 = some 1000000 := by rw [heo]; simp
  refine ⟨eo, fun x => β1, Qbw fr d r, Qk hp β1 ⟨hb1.e, hb1.ty, xs, false⟩, fun γ β hq => ?_, fun β γ hq _ => ?_, fun γ β hq => ?_, fun γ hq hg => ?_, fun γ hq hg => ?_, fun s => ?_, hK r xs k2 k4⟩
  ·obtain ⟨rfl, rfl⟩ := ea γ β hq
   exact ⟨by simp [k1], rfl, B1, .inl ⟨y0, gn0⟩⟩
  ·obtain ⟨rfl, rfl⟩ := gna β γ hq
   exact eb1
  ·obtain ⟨rfl, rfl⟩ := ea γ β hq
   rw [k1]; simp [Qk]
  ·obtain ⟨β, hβ⟩ := hg
   obtain ⟨rfl, rfl⟩ := gna β γ hβ
   rw [eb1] at hq; cases hq
  ·have : γ ≠ β1 := fun e => by subst e; rw [eb1] at hq; cases hq
   simp [Qk, this]
  ·have hsl := hs.slots s
   have hn : ∀ γ e ty xs, fr s = .nst γ e ty xs -> ¬ ∃ β, gn gv β = some γ := fun γ e ty xs e0 ⟨β, hβ⟩ => by
    rw [e0] at hsl
    obtain ⟨_, _, b, hb, _, _, _, l2, l3, _⟩ := hsl
    obtain ⟨rfl, rfl⟩ := gna β γ hβ
    rw [h1] at l2; cases l2; exact n1 l3
   have ho : ∀ γ ∈ (fr s).refs ++ (fr s).sref, (¬ ∃ β, gn gv β = some γ) ∨ ∃ β hb hb', gn gv β = some γ /\ isY β = true /\ hp γ = some hb /\ H β = some hb' /\ hb'.e = hb.e /\ hb.xs.length <= hb'.xs.length := fun γ _ => by
    by_cases e : γ = β1
    ·subst e; exact .inr ⟨_, _, _, gn0, y0, h1, k1, rfl, by simp [k2]⟩
    ·left
     rintro ⟨β, hβ⟩
     exact e (gna β γ hβ).2
   cases d with
   | none => exact .inr (.inl ⟨(by simp), rfl, ho, hn⟩)
   | some d =>
    by_cases e : s = d
    ·subst e
     refine .inr (.inr (.inl ⟨rfl, ?_, fun β hβ => by rw [p1, p2] at hβ; cases hβ⟩))
     rw [p3]
     simp [Qbw, upd]
    ·exact .inr (.inl ⟨by simp; exact fun h => e h.symm, by simp [Qbw, upd, e], ho, hn⟩)
def Qt9 (nm : Nat -> Bool) (p : PV) : PV := if (p.refs ++ p.sref).any nm then .undef else p
def Qgm (nm : Nat -> Bool) (fr : Fr) : Fr := fun s => Qt9 nm (fr s)
def exH (nm ex : Nat -> Bool) (H hp : HP) : HP := fun x => if ex x then H x else if nm x then none else hp x
def exF (S : List Nat) (F fr : Fr) : Fr := fun s => if S.contains s then F s else fr s
theorem Q6c (p : PV) : rn1 id p = p := Q0f fun _ _ => rfl
theorem Q6d {p : PV} (h : ∀ γ e ty xs, p ≠ .nst γ e ty xs) : rnP id p = p := by
 have hm : ∀ l : List PV, l.map (rn1 id) = l := fun l => by
  conv => rhs; rw [<- List.map_id l]
  exact List.map_congr_left fun x _ => Q6c x
 cases p with
 | nst γ e ty xs => exact absurd rfl (h _ _ _ _)
 | fn f a b => simp only [rnP, hm]
 | rag cs => simp only [rnP, hm]
 | _ => rfl
def Qxn (xs : List PV) : Prop := ∀ x ∈ xs, Qc3 x.ncells = x
theorem Qv9 {γ e ty : Nat} {xs : List PV} (h : Qxn xs) : rnP id (.nst γ e ty xs) = .nst γ e ty xs := by
 simp only [rnP, id]
 congr 1
 conv => rhs; rw [<- List.map_id xs]
 refine List.map_congr_left fun x hx => ?_
 have : x.ncells.map (rn1 id) = x.ncells := by
  conv => rhs; rw [<- List.map_id x.ncells]
  exact List.map_congr_left fun y _ => Q6c y
 rw [this]; exact h x hx
theorem Q0k {P : Program} {pr : Bool} (hP : C.P = P) {g : FuncId} {args pargs : List PV} {d : Option Nat} {G : Fr} {hp1 : HP} {Post : PV -> Fr -> HP -> Prop} (h : Qca P g pargs G hp1 Post) (nm ex : Nat -> Bool) (S : List Nat)
  (hnm : ∀ x, nm x = true -> ∃ hb, hp x = some hb /\ hb.fz = false /\ 2000000 <= x) (hp1E : ∀ x, hp1 x = if nm x then hp x else none) (hargs : args = pargs) (hpl : pargs.length <= 1000000)
  (hst : ∀ x ∈ args, ∀ γ e ty xs, x ≠ .nst γ e ty xs) (hna : ∀ γ ∈ args.flatMap (fun x => x.refs ++ x.sref), nm γ = true)
  (hG : ∀ s, 1000000 <= s -> G s = .undef ∨ ∃ γ e ty xs, G s = fr s /\ fr s = .nst γ e ty xs /\ Qxn xs /\ ∀ γ ∈ (fr s).refs ++ (fr s).sref, nm γ = true)
  (hex : ∀ x, ex x = true -> (hp x = none ∨ nm x = true) /\ 2000000 <= x) (hpr : pr = true -> ∀ x, nm x = false)
  (hK : ∀ r F H, Post r F H -> (∀ x, ex x = true -> H x ≠ none) /\ (∀ γ e ty xs, r ≠ .nst γ e ty xs) /\ (∀ β ∈ r.refs ++ r.sref, ex β = true) /\ (∀ s ∈ S, 1000000 <= s /\ (∃ γ e ty xs, F s = .nst γ e ty xs /\ Qxn xs) /\ ∀ β ∈ (F s).refs ++ (F s).sref, ex β = true) /\ K (exF S F (Qbw (Qgm nm fr) d r)) (exH nm ex H hp)) :
  Qck C pr (.fn g [] []) args d fr hp K := by
 obtain ⟨gv, hgv⟩ : ∃ f : Nat -> Option Nat, f = fun x => if nm x then some x else none := ⟨_, rfl⟩
 have ga : ∀ β γ, gv β = some γ -> β = γ /\ nm γ = true := fun β γ hq => by
  rw [hgv] at hq; simp only at hq
  split at hq
  ·cases hq; rename_i e; exact ⟨rfl, e⟩
  ·cases hq
 have gb : ∀ γ, nm γ = true -> gv γ = some γ := fun γ hγ => by rw [hgv]; simp [hγ]
 have gN : ∀ γ, (∃ β, gv β = some γ) -> nm γ = true := fun γ ⟨β, hβ⟩ => (ga β γ hβ).2
 have gr : ∀ β γ, gv β = some γ -> isR β = false := fun β γ hq => by
  obtain ⟨rfl, hn⟩ := ga β γ hq
  obtain ⟨_, _, _, k3⟩ := hnm β hn
  simp [isR]; omega
 refine Qpu hP h gv id ⟨fun β γ hq => ?_, fun β hq => ?_, fun β β' γ q1 q2 => ?_⟩ (fun β γ hq => (ga β γ hq).1.symm) ?_ (fun x hx γ hγ => ⟨γ, gb γ (hna γ (List.mem_flatMap.2 ⟨x, hx, hγ⟩))⟩) (fun s hs => ?_) hpl (fun hq β => by
  rw [Q0j gr, hgv]; simp only; rw [hpr hq β]; rfl) (fun ρ tmps w hs r F H hpost _ => ?_)
 ·obtain ⟨rfl, hn⟩ := ga β γ hq
  obtain ⟨hb, k1, k2, k3⟩ := hnm β hn
  exact ⟨hb, k1, by simp [isB]; omega, (fun h => by simp [isR] at h; omega), fun _ => ⟨by rw [hp1E, if_pos hn]; exact k1, k2, by simp [isB]; omega, fun _ => by simp [isY]; omega⟩⟩
 ·refine ⟨β, gb β ?_⟩
  cases hn : nm β with
  | true => rfl
  | false => rw [hp1E, hn] at hq; simp at hq
 ·rw [(ga β γ q1).1, (ga β' γ q2).1]
 ·rw [<- hargs]
  conv => rhs; rw [<- List.map_id args]
  exact List.map_congr_left fun x hx => Q6d (hst x hx)
 ·rcases hG s hs with e | ⟨γ, e, ty, xs, e1, e2, e3, e4⟩
  ·exact .inl e
  ·refine .inr ⟨s, hs, ?_, fun γ hγ => ⟨γ, gb γ (e4 γ hγ)⟩⟩
   rw [e1, e2, Qv9 e3]
 ·rw [Q0j gr]
  obtain ⟨a1, a2, a3, a4, a5⟩ := hK r F H hpost
  obtain ⟨eo, heo⟩ : ∃ f : Nat -> Option Nat, f = fun x => if ex x then some x else none := ⟨_, rfl⟩
  have ea : ∀ γ β, eo γ = some β -> γ = β /\ ex γ = true := fun γ β hq => by
   rw [heo] at hq; simp only at hq
   split at hq
   ·cases hq; rename_i e; exact ⟨rfl, e⟩
   ·cases hq
  have eb : ∀ γ, ex γ = true -> eo γ = some γ := fun γ hγ => by rw [heo]; simp [hγ]
  have en : ∀ γ, eo γ = none -> ex γ = false := fun γ hγ => by
   cases hq : ex γ with
   | false => rfl
   | true => rw [eb γ hq] at hγ; cases hγ
  refine ⟨eo, id, exF S F (Qbw (Qgm nm fr) d r), exH nm ex H hp, fun γ β hq => ?_, fun β γ hq hy => ?_, fun γ β hq => ?_, fun γ hq hg => ?_, fun γ hq hg => ?_, fun s => ?_, a5⟩
  ·obtain ⟨rfl, he⟩ := ea γ β hq
   obtain ⟨k1, k2⟩ := hex γ he
   exact ⟨a1 γ he, rfl, by simp [isB]; omega, .inr ⟨by simp [isY]; omega, by simp [isY]; omega, k1.imp id fun hn => ⟨γ, gb γ hn⟩⟩⟩
  ·obtain ⟨rfl, hn⟩ := ga β γ hq
   obtain ⟨_, _, _, k3⟩ := hnm β hn
   simp [isY] at hy; omega
  ·obtain ⟨rfl, he⟩ := ea γ β hq
   simp [exH, he]
  ·simp [exH, en γ hq, gN γ hg]
  ·have : nm γ = false := by
    cases hn : nm γ with
    | false => rfl
    | true => exact absurd ⟨γ, gb γ hn⟩ hg
   simp [exH, en γ hq, this]
  ·unfold exF
   by_cases hS : S.contains s = true
   ·rw [if_pos hS]
    obtain ⟨b1, ⟨γ, e, ty, xs, b2, b3⟩, b4⟩ := a4 s (by simpa using hS)
    refine .inr (.inr (.inr ⟨s, b1, ⟨γ, e, ty, xs, b2⟩, ?_, fun β hβ => eb β (b4 β hβ)⟩))
    rw [b2, Qv9 b3]
   ·rw [if_neg hS]
    have old : d ≠ some s -> Qgm nm fr s = .undef ∨ (d ≠ some s /\ Qgm nm fr s = fr s /\ (∀ γ ∈ (fr s).refs ++ (fr s).sref, (¬ ∃ β, gv β = some γ) ∨ ∃ β hb hb', gv β = some γ /\ isY β = true /\ hp γ = some hb /\ H β = some hb' /\ hb'.e = hb.e /\ hb.xs.length <= hb'.xs.length) /\ ∀ γ e ty xs, fr s = .nst γ e ty xs -> ¬ ∃ β, gv β = some γ) := fun hds => by
     unfold Qgm Qt9
     split
     ·exact .inl rfl
     ·rename_i hno
      have hno' : ∀ γ ∈ (fr s).refs ++ (fr s).sref, ¬ ∃ β, gv β = some γ := fun γ hγ hg => hno (List.any_eq_true.2 ⟨γ, hγ, gN γ hg⟩)
      exact .inr ⟨hds, rfl, fun γ hγ => .inl (hno' γ hγ), fun γ e ty xs e0 => hno' γ (by rw [e0]; simp [PV.sref])⟩
    cases d with
    | none =>
     simp only [Qbw]
     rcases old (by simp) with h | h
     ·exact .inl h
     ·exact .inr (.inl h)
    | some d =>
     by_cases e : s = d
     ·subst e
      refine .inr (.inr (.inl ⟨rfl, ?_, fun β hβ => eb β (a3 β hβ)⟩))
      rw [Q6d a2]
      simp [Qbw, upd]
     ·have e1 : Qbw (Qgm nm fr) (some d) r s = Qgm nm fr s := by simp [Qbw, upd, e]
      rw [e1]
      rcases old (by simp; exact fun h => e h.symm) with h | h
      ·exact .inl h
      ·exact .inr (.inl h)
end Go.FW
namespace Go.FW
open Go
variable {C : Ctx} {ρ : Nat -> Option Nat} {fr fr' : Fr} {hp : HP} {w : World} {K R : Qg}
theorem Q4q {B : List Nat} {F : Fr} {β δ : Nat} (hβ : B.contains β = true) (h2 : β < 1000000) : mvF β δ (bse B F) = bse B F := Q8s (.inl hβ) (.inl h2)
theorem rnPs :
  (∀ (σ : Nat -> Nat) (k : IntKind) (n : Int), rnP σ (.int k n) = .int k n) /\
  (∀ (σ : Nat -> Nat) (b : Bool), rnP σ (.bool b) = .bool b) /\
  (∀ (σ : Nat -> Nat) (e : Nat) (xs : List PV), rnP σ (.sl e xs) = .sl e xs) /\
  (∀ (σ : Nat -> Nat) (cs : List PV), rnP σ (.agg cs) = .agg cs) /\
  (∀ (σ : Nat -> Nat) (cs : List PV), rnP σ (.tup cs) = .tup cs) /\
  (∀ (σ : Nat -> Nat) (cs : List PV), rnP σ (.pt cs) = .pt cs) /\
  (∀ (σ : Nat -> Nat), rnP σ .nilS = .nilS) /\
  (∀ (σ : Nat -> Nat), rnP σ .undef = .undef) /\
  (∀ (σ : Nat -> Nat) (β o n : Nat), rnP σ (.mso β o n) = .mso (σ β) o n) /\
  (∀ (σ : Nat -> Nat) (β o n : Nat), rnP σ (.mp β o n) = .mp (σ β) o n) /\
  (∀ (σ : Nat -> Nat) (β o n : Nat), rnP σ (.nso β o n) = .nso (σ β) o n) /\
  (∀ (σ : Nat -> Nat) (β o n : Nat), rnP σ (.np β o n) = .np (σ β) o n) /\
  (∀ (σ : Nat -> Nat) (cs : List PV), rnP σ (.rag cs) = .rag (cs.map (rn1 σ))) := by
 refine ⟨?_, ?_, ?_, ?_, ?_, ?_, ?_, ?_, ?_, ?_, ?_, ?_, ?_⟩ <;> intros <;> rfl
theorem rn1s :
  (∀ (σ : Nat -> Nat) (k : IntKind) (n : Int), rn1 σ (.int k n) = .int k n) /\
  (∀ (σ : Nat -> Nat) (b : Bool), rn1 σ (.bool b) = .bool b) /\
  (∀ (σ : Nat -> Nat) (e : Nat) (xs : List PV), rn1 σ (.sl e xs) = .sl e xs) /\
  (∀ (σ : Nat -> Nat), rn1 σ .nilS = .nilS) /\
  (∀ (σ : Nat -> Nat), rn1 σ .undef = .undef) /\
  (∀ (σ : Nat -> Nat) (β o n : Nat), rn1 σ (.mso β o n) = .mso (σ β) o n) /\
  (∀ (σ : Nat -> Nat) (β o n : Nat), rn1 σ (.nso β o n) = .nso (σ β) o n) := by
 refine ⟨?_, ?_, ?_, ?_, ?_, ?_, ?_⟩ <;> intros <;> rfl
theorem Qad2 :
  (∀ (γ : Nat) (k : IntKind) (n : Int), Qdb γ (.int k n) = .int k n) /\
  (∀ (γ : Nat) (b : Bool), Qdb γ (.bool b) = .bool b) /\
  (∀ (γ e : Nat) (xs : List PV), Qdb γ (.sl e xs) = .sl e xs) /\
  (∀ (γ : Nat) (cs : List PV), Qdb γ (.agg cs) = .agg cs) /\
  (∀ (γ : Nat) (cs : List PV), Qdb γ (.tup cs) = .tup cs) /\
  (∀ (γ : Nat) (cs : List PV), Qdb γ (.pt cs) = .pt cs) /\
  (∀ (γ : Nat), Qdb γ .nilS = .nilS) /\
  (∀ (γ : Nat), Qdb γ .undef = .undef) /\
  (∀ (γ β o n : Nat), Qdb γ (.mso β o n) = if β = γ then .nso γ o n else .mso β o n) /\
  (∀ (γ β o n : Nat), Qdb γ (.mp β o n) = if β = γ then .np γ o n else .mp β o n) /\
  (∀ (γ β o n : Nat), Qdb γ (.nso β o n) = .nso β o n) /\
  (∀ (γ β o n : Nat), Qdb γ (.np β o n) = .np β o n) := by
 refine ⟨?_, ?_, ?_, ?_, ?_, ?_, ?_, ?_, ?_, ?_, ?_, ?_⟩ <;> intros <;> rfl
theorem Q8v {γ s : Nat} {x : PV} : Qxl γ x fr s = if s = γ then x else Qdb γ (fr s) := rfl
theorem Q8w {args : List PV} {G : Fr} {s : Nat} : Qjx args G s = if s < 1000000 then (args[s]?).getD .undef else G s := rfl
theorem Q8x {nm : Nat -> Bool} {s : Nat} : Qgm nm fr s = Qt9 nm (fr s) := rfl
theorem Q8y {nm : Nat -> Bool} {p : PV} : Qt9 nm p = if (p.refs ++ p.sref).any nm then .undef else p := rfl
theorem Qab3 {nm ex : Nat -> Bool} {H : HP} {x : Nat} : exH nm ex H hp x = if ex x then H x else if nm x then none else hp x := rfl
theorem Qab4 {S : List Nat} {F : Fr} {s : Nat} : exF S F fr s = if S.contains s then F s else fr s := rfl
theorem Qpv (l : List (Nat × Nat)) : Qxn (Qac l) := fun x hx => by
 obtain ⟨y, _, rfl⟩ := List.mem_map.1 hx; rfl
theorem Qad3 {d β n ty e : Nat} {xs ys : List PV} (hb : hp β = some ⟨e, ty, xs, false⟩) (he : 0 < e) (hn : n = xs.length) (hl : ys.length = n) :
  Qii e (.ms β n) (.sl e ys) d fr hp K = K (upd fr d (.int .i64 n)) (Qk hp β ⟨e, ty, ys, false⟩) := by
 rw [Q2g hb he hn]
 have h1 : ys.take n = ys := List.take_of_length_le (by omega)
 have h2 : xs.drop ys.length = [] := List.drop_eq_nil_of_le (by omega)
 rw [h1, h2, List.append_nil]
 congr 2
 ·congr 1; congr 1; omega
attribute [go_sem] Q8p Q8q Qab0 Qab1 Qabz Q4q rnPs rn1s Qad2 Q8v Q8w Q8x Q8y Qab3 Qab4
end Go.FW
namespace Go.FW
open Go
variable {C : Ctx} {ρ : Nat -> Option Nat} {fr fr' : Fr} {hp : HP} {w : World} {K R : Qg}
def Qdc (B i n : Nat) (L : Nat -> Nat) : List PV := Qac (rws B i L) ++ List.replicate (n - i) .nilS
theorem Q0l (B n : Nat) (L : Nat -> Nat) : List.replicate n PV.nilS = Qdc B 0 n L := by simp [Qdc, rws, Qac]
theorem Q0m (B n : Nat) (L : Nat -> Nat) : Qdc B n n L = Qac (rws B n L) := by simp [Qdc]
theorem Qn3 {B i n : Nat} {L : Nat -> Nat} (h : i <= n) : (Qdc B i n L).length = n := by simp [Qdc, Qac, rws]; omega
theorem Q4r {B i n j : Nat} {L : Nat -> Nat} (h : j < i) : (Qdc B i n L)[j]? = some (.ms (B + j) (L j)) := by
 simp [Qdc, Qac, rws, List.getElem?_append, h]
theorem Q4s {B i n : Nat} {L : Nat -> Nat} (h : i < n) : (Qdc B i n L).set i (.ms (B + i) (L i)) = Qdc B (i + 1) n L := by
 have h1 : (Qac (rws B i L)).length = i := by simp [Qac, rws]
 unfold Qdc
 rw [List.set_append, if_neg (by omega), h1, Nat.sub_self]
 have h2 : Qac (rws B (i + 1) L) = Qac (rws B i L) ++ [.ms (B + i) (L i)] := by simp [Qac, rws, List.range_succ]
 rw [h2, List.append_assoc]
 congr 1
 obtain ⟨k, hk⟩ : ∃ k, n - i = k + 1 := ⟨n - i - 1, by omega⟩
 rw [hk, show n - (i + 1) = k by omega, List.replicate_succ]
 rfl
theorem Q8z {γ i n ty B m : Nat} {L : Nat -> Nat} {e0 ty0 : Nat} {xs0 : List PV} (hγ : fr γ = .nst γ 1 ty (Qdc B i n L)) (hh : hp γ = some ⟨e0, ty0, xs0, false⟩) (h : i < n) (hB : 1000000 <= B) (hm : L i = m) :
  stK 1 (.np γ i 0) (.ms (B + i) m) fr hp K = K (upd (Qc1 γ fr) γ (.nst γ 1 ty (Qdc B (i + 1) n L))) hp := by
 subst hm
 have hl : i < (Qdc B i n L).length := by rw [Qn3 (by omega)]; exact h
 have hb : isB (B + i) = true := by simp [isB]; omega
 have h0 : (Qdc B i n L)[i] = .nilS := by
  have h1 : (Qac (rws B i L)).length = i := by simp [Qac, rws]
  simp [Qdc, List.getElem_append, h1]
 simp only [stK, hγ, hl, exists_true_left, true_and, Nat.le_refl, Nat.zero_add, stN, hb, if_true, List.length_cons, List.length_nil, hh, Option.some.injEq, exists_eq_left', h0]
 rw [<- Q4s h]
 simp [Qc3, Qhs, PV.ncells, PV.cells]
theorem Q80 {d γ j i n ty B : Nat} {L : Nat -> Nat} (hγ : fr γ = .nst γ 1 ty (Qdc B i n L)) (h : j < i) (hi : i <= n) : ldK 1 false (.np γ j 0) d fr hp K = K (upd fr d (.ms (B + j) (L j))) hp := by
 have hl : j < (Qdc B i n L).length := by rw [Qn3 hi]; omega
 have h0 : (Qdc B i n L)[j] = .ms (B + j) (L j) := by
  have := Q4r (B := B) (n := n) (L := L) h
  rw [List.getElem?_eq_getElem hl] at this
  exact Option.some.inj this
 simp only [ldK, hγ, hl, exists_true_left, true_and, Nat.le_refl, Nat.zero_add, implies_true, h0]
 simp [ldN, PV.ncells, PV.cells]
theorem Qqz {σ : Nat -> Nat} {p : PV} (h : p = .nilS ∨ ∃ β n, p = .ms β n) (hσ : ∀ β n, p = .ms β n -> σ β = β) : Qc3 (p.ncells.map (rn1 σ)) = p := by
 rcases h with rfl | ⟨β, n, rfl⟩
 ·rfl
 ·have := hσ β n rfl
  simp [PV.ncells, PV.cells, rn1, Qc3, this]
theorem Q81 {β δ γ e ty B i n : Nat} {L : Nat -> Nat} (hβ : β < 1000000) (hB : 2000000 <= B) (hγ : 2000000 <= γ) : rnP (mvN β δ) (.nst γ e ty (Qdc B i n L)) = .nst γ e ty (Qdc B i n L) := by
 have e1 : mvN β δ γ = γ := by unfold mvN; rw [if_neg (by omega)]
 simp only [rnP, e1]
 congr 1
 conv => rhs; rw [<- List.map_id (Qdc B i n L)]
 refine List.map_congr_left fun x hx => ?_
 rcases List.mem_append.1 hx with hx | hx
 ·obtain ⟨y, hy, rfl⟩ := List.mem_map.1 hx
  obtain ⟨j, hj, rfl⟩ := List.mem_map.1 hy
  refine Qqz (.inr ⟨_, _, rfl⟩) fun β' n' h => ?_
  cases h; unfold mvN; rw [if_neg (by omega)]
 ·obtain rfl := List.eq_of_mem_replicate hx
  exact Qqz (.inl rfl) fun _ _ h => by cases h
def Qas (B n w : Nat) (π : Nat -> Nat) : List (Nat × Nat) := (List.range n).map fun r => (B + π r, w)
theorem Qad4 (B n w : Nat) : rws B n (fun _ => w) = Qas B n w id := rfl
theorem Qvc (B n w : Nat) (π : Nat -> Nat) : (Qas B n w π).length = n := by simp [Qas]
theorem Qua {B n w r : Nat} {π : Nat -> Nat} (h : r < (Qas B n w π).length) : (Qas B n w π)[r] = (B + π r, w) := by simp [Qas]
theorem Qpw {B n w : Nat} {π : Nat -> Nat} : ∀ β ∈ (Qac (Qas B n w π)).flatMap (fun x => x.ncells.flatMap PV.sref1), ∃ r, r < n /\ β = B + π r := by
 intro β hβ
 obtain ⟨x, hx, hβ⟩ := List.mem_flatMap.1 hβ
 obtain ⟨y, hy, rfl⟩ := List.mem_map.1 hx
 obtain ⟨r, hr, rfl⟩ := List.mem_map.1 hy
 exact ⟨r, List.mem_range.1 hr, by simpa [PV.ncells, PV.cells, PV.sref1] using hβ⟩
def Q6 {α : Type} (p : α -> PV) (f : Nat -> α) (w : Nat) : List PV := (List.range w).map fun c => p (f c)
theorem Qau {α : Type} (p : α -> PV) (f : Nat -> α) (w : Nat) : (Q6 p f w).length = w := by simp [Q6]
theorem Qfd {α : Type} {p : α -> PV} {f : Nat -> α} {w c : Nat} (h : c < (Q6 p f w).length) : (Q6 p f w)[c] = p (f c) := by simp [Q6]
theorem Q4t {α : Type} {p : α -> PV} {f g : Nat -> α} {w c : Nat} {v : α} (h : ∀ k, k < w -> g k = if k = c then v else f k) : (Q6 p f w).set c (p v) = Q6 p g w := by
 refine List.ext_getElem (by simp [Q6]) fun j h1 h2 => ?_
 have hj : j < w := by simpa [Q6] using h2
 rw [Qfd, List.getElem_set, Qfd, h j hj]
 split
 ·rename_i e; subst e; simp
 ·rename_i e; rw [if_neg fun e2 => e e2.symm]
theorem Qb5 {α : Type} {p : α -> PV} {f g : Nat -> α} {w : Nat} (h : ∀ k, k < w -> f k = g k) : Q6 p f w = Q6 p g w :=
 List.map_congr_left fun c hc => by rw [h c (List.mem_range.1 hc)]
theorem Qq0 {α : Type} {p : α -> PV} {f : Nat -> α} {w : Nat} (h : 0 < w) : Q6 p f w ≠ [] := by
 intro e; have := Qau p f w; rw [e] at this; simp at this; omega
theorem Qad5 {by_ ty d : Nat} {k k' : IntKind} {n c : Nat} (h2 : n <= c) (h3 : by_ * c <= 281474976710656) (h4 : c <= 9223372036854775807) :
  mkK 3 by_ ty (.agg [.bool false, .nilS, .nilS]) (.int k (n : Int)) (.int k' (c : Int)) d fr hp K = K (upd (Qan d fr) d (.ms d n)) (Qk hp d ⟨3, ty, List.replicate n (.agg [.bool false, .nilS, .nilS]), false⟩) := by
 rw [Qsf (e := 3) (by omega) rfl (by omega) (by omega) (by omega) (by omega)]; rfl
attribute [go_sem] Qad5
end Go.FW
namespace Go.FW
open Go
def ind (m : List Int) : List Int -> Rat := fun n => if n = m then 1 else 0
end Go.FW
namespace Go.FW
open Go
variable {C : Ctx} {fr : Fr} {hp : HP} {w : World} {K R : Qg}
end Go.FW
namespace Go.FW
open Go
end Go.FW
namespace Go.FW
open Go
end Go.FW
namespace Go.FW
open Go
theorem Q4u (q : Rat) : Qfr (decide (q.num < 0)) (dig q.num.natAbs) (dig q.den) = true := by
 simp only [Qfr, Qfl, Bool.and_eq_true, decide_eq_true_eq]
 refine ⟨?_, ⟨?_, Qit _⟩, ?_⟩
 ·split
  ·rename_i h
   rw [Qbe] at h
   have : ¬ q.num < 0 := by omega
   simp [this]
  ·exact decide_eq_true (Qit _)
 ·rw [ne_eq, Qbe]; exact q.den_nz
 ·rw [Qy, Qy]; exact q.reduced
end Go.FW
namespace Go.FW
open Go
def Q4v (a : Rat) : Nat -> Rat
 | 0 => 1
 | n + 1 => Q4v a n * a
def mevN (vs : List Rat) (m : List Int) : Nat -> Rat
 | 0 => 1
 | n + 1 => mevN vs m n * Q4v (vs.getD n 0) (eN m n).toNat
def mev (vs : List Rat) (m : List Int) : Rat := mevN vs m m.length
abbrev PV.rats (vs : List Rat) : PV := .sl 3 (vs.map PV.rat)
end Go.FW
namespace Go.FW
open Go
end Go.FW
namespace Go.FW
open Go
theorem Qxo {B B' : List Nat} {F : Fr} (h : (B'.all B.contains) = true) : Q5 B' (Q5 B F) = Q5 B F := by
 funext s
 rw [Qmm B']
 split
 ·rename_i h1
  rw [Qmm B] at h1 ⊢
  split
  ·rfl
  ·rename_i h2
   rw [if_neg h2] at h1
   exfalso
   apply h2
   rw [List.any_eq_true] at h1 ⊢
   obtain ⟨x, hx, hb⟩ := h1
   rw [List.all_eq_true] at h
   exact ⟨x, hx, h x (List.contains_iff_mem.1 hb)⟩
 ·rfl
theorem Qxp {W : List (Nat × Nat)} {B : List Nat} {J F : Fr} : Q5 B (ovr W J F) = ovr W (Q5 B J) (Q5 B F) := by
 funext s; unfold Q5 ovr; split <;> rfl
theorem Qvd {V W : List (Nat × Nat)} {B B' : List Nat} {X Z F : Fr} (h : Qom V W = true) (hB : (B'.all B.contains) = true) : ovr V X (Q5 B' (ovr W Z (Q5 B F))) = ovr W (ovr V X (Q5 B' Z)) (Q5 B F) := by
 rw [Qxp, Qxo hB, Qb9 h]
section
variable {C : Ctx} {fr : Fr} {hp : HP} {w : World} {K R : Qg}
end
def Q6e (m : List Int) (v : Nat) : List Int := Q6a (m.set v 0)
def Q6f (p : List Tm) (v : Nat) (n : Int) : List Tm := p.filterMap fun t => if eN t.2 v = n then some (t.1, Q6e t.2 v) else none
end Go.FW
namespace Go.FW
open Go
def hor (p : List Tm) (v : Nat) (q : List Tm) (top : Nat) : Nat -> List Tm
 | 0 => Q6f p v top
 | k + 1 => Qqs (pmul (hor p v q top k) q) (Q6f p v ((top : Int) - (k + 1)))
end Go.FW
namespace Go.FW
open Go
def Qda (vs : List Rat) (v : Nat) (b : Rat) (n : Int) : List Tm -> Rat
 | [] => 0
 | t :: p => (if n <= eN t.2 v then t.1 * mev vs (Q6e t.2 v) * Q4v b (eN t.2 v - n).toNat else 0) + Qda vs v b n p
end Go.FW
namespace Go.FW
open Go
end Go.FW
namespace Go.FW
open Go
end Go.FW
namespace Go.FW
open Go
variable {C : Ctx} {fr : Fr} {hp : HP} {w : World} {K R : Qg}
end Go.FW
namespace Go.FW
open Go
variable {C : Ctx} {fr : Fr} {hp : HP} {K : Qg}
end Go.FW
namespace Go.FW
open Go
end Go.FW
namespace Go.FW
open Go
abbrev PV.mat (r c : Nat) (l : List Rat) : PV := .agg [.int .i64 r, .int .i64 c, PV.rats l]
abbrev MF := Nat -> Nat -> Rat
def Qaj (l : List Rat) (m : Nat) : MF := fun r c => l.getD (r * m + c) 0
theorem Qrt {l : List Rat} {n m r : Nat} (hl : l.length = n * m) (hr : r < n) : ((l.take ((r + 1) * m)).drop (r * m)).map PV.rat = Q6 PV.rat (Qaj l m r) m := by
 have h1 : (r + 1) * m <= n * m := Nat.mul_le_mul_right _ hr
 have h2 : (r + 1) * m = r * m + m := by rw [Nat.add_mul, Nat.one_mul]
 refine List.ext_getElem (by simp [Q6]; omega) fun j h3 h4 => ?_
 have hj : j < m := by simpa [Q6] using h4
 simp only [List.getElem_drop, List.getElem_take, List.getElem_map, Q6, List.getElem_range, Qaj]
 rw [List.getD_eq_getElem?_getD, List.getElem?_eq_getElem (by omega)]
 rfl
structure RQ where
 n : Bool
 a : List Nat
 d : List Nat
 deriving Inhabited
abbrev PV.rq (q : RQ) : PV := PV.rr q.n q.a q.d
abbrev PV.rqs (l : List RQ) : PV := .sl 3 (l.map PV.rq)
abbrev PV.rmat (r c : Int) (l : List RQ) : PV := .agg [.int .i64 r, .int .i64 c, PV.rqs l]
def Qfm (q : RQ) : Bool := Qfr q.n q.a q.d
def rqV (q : RQ) : Rat := rv q.n q.a q.d
def Qaf (r c : Int) (l : List RQ) : Bool := decide (0 <= r /\ r <= 40 /\ 0 <= c /\ c <= 40 /\ (l.length : Int) = r * c) && l.all Qfm
def qR (q : Rat) : RQ := ⟨decide (q.num < 0), dig q.num.natAbs, dig q.den⟩
theorem Qhq {R m : Nat} {l : List Rat} (hl : l.length = R * m) (hR : R <= 40) (hm : m <= 40) : Qaf R m (l.map qR) = true := by
 unfold Qaf
 rw [Bool.and_eq_true, decide_eq_true_eq]
 refine ⟨⟨by omega, by omega, by omega, by omega, by rw [List.length_map, hl, Int.natCast_mul]⟩, ?_⟩
 rw [List.all_eq_true]
 intro x hx
 obtain ⟨q, hq, rfl⟩ := List.mem_map.1 hx
 exact Q4u q
theorem Qub (l : List Rat) : PV.rats l = PV.rqs (l.map qR) := by
 unfold PV.rqs PV.rats
 rw [List.map_map]; rfl
theorem Qko (R m : Nat) (l : List Rat) : PV.mat R m l = PV.rmat R m (l.map qR) := by
 unfold PV.mat PV.rmat
 rw [Qub]
def Qq1 (M : MF) (k : Nat) : Nat -> Nat -> Nat
 | 0, i => i
 | f + 1, i => if M i k = 0 then Qq1 M k f (i + 1) else i
theorem Qwa (M : MF) (k : Nat) : ∀ f i, i <= Qq1 M k f i /\ Qq1 M k f i <= i + f
 | 0, i => ⟨Nat.le_refl _, Nat.le_refl _⟩
 | f + 1, i => by
  unfold Qq1
  split
  ·have := Qwa M k f (i + 1); omega
  ·omega
def Qiy (M : MF) (R k n : Nat) : Nat := Qq1 M k (R - n) n
def Qe4 (M : MF) (i n : Nat) : MF := fun r => if r = n then M i else if r = i then M n else M r
def Qni (M : MF) (n : Nat) (p : Rat) : MF := fun r c => if r = n then M n c / p else M r c
def Qsj (M : MF) (n k : Nat) : MF := fun r c => if r = n then M n c else M r c - M r k * M n c
structure Ech where
 M : MF
 piv : List Nat
 det : Rat
def Qlq (R : Nat) (E : Ech) (k : Nat) : Ech :=
 if Qiy E.M R k E.piv.length = R then E else
  ⟨Qsj (Qni (Qe4 E.M (Qiy E.M R k E.piv.length) E.piv.length) E.piv.length (E.M (Qiy E.M R k E.piv.length) k)) E.piv.length k, E.piv ++ [k],
   (if Qiy E.M R k E.piv.length = E.piv.length then E.det else -E.det) * E.M (Qiy E.M R k E.piv.length) k⟩
def Qb2 (R : Nat) (M : MF) : Nat -> Ech
 | 0 => ⟨M, [], 1⟩
 | k + 1 => Qlq R (Qb2 R M k) k
theorem Quc (R : Nat) (M : MF) : ∀ k, (Qb2 R M k).piv.length <= k /\ (Qb2 R M k).piv.length <= R /\ ∀ x ∈ (Qb2 R M k).piv, x < k
 | 0 => ⟨Nat.le_refl _, Nat.zero_le _, by simp [Qb2]⟩
 | k + 1 => by
  obtain ⟨h1, h2, h3⟩ := Quc R M k
  show (Qlq R (Qb2 R M k) k).piv.length <= k + 1 /\ _
  simp only [Qb2]
  unfold Qlq
  split
  ·exact ⟨by omega, h2, fun x hx => by have := h3 x hx; omega⟩
  ·rename_i h
   have := Qwa (Qb2 R M k).M k (R - (Qb2 R M k).piv.length) (Qb2 R M k).piv.length
   have h4 : Qiy (Qb2 R M k).M R k (Qb2 R M k).piv.length <= R := by unfold Qiy; omega
   have h5 : (Qb2 R M k).piv.length <= Qiy (Qb2 R M k).M R k (Qb2 R M k).piv.length := this.1
   refine ⟨by simp; omega, by simp; omega, fun x hx => ?_⟩
   simp only [List.mem_append, List.mem_singleton] at hx
   rcases hx with hx | hx
   ·have := h3 x hx; omega
   ·omega
theorem Qpx (M : MF) : ∀ k, Qb2 0 M k = ⟨M, [], 1⟩
 | 0 => rfl
 | k + 1 => by
  show Qlq 0 (Qb2 0 M k) k = _
  rw [Qpx M k]; rfl
def Qud (R : Nat) (M : MF) : Rat := if (Qb2 R M R).piv.length < R then 0 else (Qb2 R M R).det
def MBd (K R w : Nat) (M : MF) : Prop := ∀ r, r < R -> ∀ c, c < w -> rs (M r c) <= K
theorem Qad6 {fr : Fr} {hp : HP} {K : Qg} {z : List PV} {o n o2 n2 o3 n3 d β m e ty : Nat} {p q : PV} {xs : List PV} {fz : Bool} (h : p.flat = true) (h' : q.flat = true) (hb : hp β = some ⟨e, ty, xs, fz⟩) (hm : m = xs.length) (hB : isB β = false := by decide) :
  Qe6 z [(o, n, p), (o2, n2, q), (o3, n3, .ms β m)] d fr hp K = ((p.cells.length = n /\ o + n <= z.length) /\ (q.cells.length = n2 /\ o2 + n2 <= z.length) /\ (1 = n3 /\ o3 + n3 <= z.length) /\ K (upd fr d (.agg (Qcn z [(o, p.cells), (o2, q.cells), (o3, [.sl e xs])]))) (Q7 hp [β])) := by
 obtain ⟨s1, s2, s3⟩ := Qdm (hp := hp) h
 obtain ⟨t1, t2, t3⟩ := Qdm (hp := hp) h'
 have s4 : Q4 hp (.ms β m) = .sl e xs := by simp [Q4, Qav, Qih hB, hb, hm]
 have r4 : (PV.ms β m).refs = [β] := rfl
 have c4 : (PV.sl e xs).cells = [.sl e xs] := rfl
 have d4 : (PV.sl e xs).isData = true := rfl
 have i1 : p.isNst = false := Qla h
 have i3 : q.isNst = false := Qla h'
 have i2 : (PV.ms β m).isNst = false := by simp [isB] at hB; simp [PV.isNst]; omega
 unfold Qe6 Qov Qsq
 rw [if_neg (by simp [i1, i2, i3])]
 apply propext
 simp only [List.mem_cons, List.not_mem_nil, or_false, forall_eq_or_imp, forall_eq, s1, s3, s4, t1, t3, d4, c4, List.length_cons, List.length_nil, true_and, List.map_cons, List.map_nil, List.flatMap_cons, List.flatMap_nil, s2, t2, r4, List.nil_append, List.append_nil, and_assoc, Nat.zero_add]
theorem Qc9 : PV.le (.agg [.int .i64 0, .int .i64 0, .nilS]) (PV.rmat 0 0 []) := by simp [PV.le, PV.leL, PV.le1, PV.rmat, PV.rqs]
def Qxq (K R w n : Nat) (M : MF) : Prop := ∀ k, k <= n -> MBd K R w (Qb2 R M k).M /\ rs (Qb2 R M k).det <= K
def Qmr (p : Nat -> Bool) : Nat -> Nat -> Nat
 | 0, i => i
 | f + 1, i => if p i then i else Qmr p f (i + 1)
theorem Qnj {p : Nat -> Bool} : ∀ {f i n : Nat}, i <= n -> n < i + f -> p n = true -> (∀ j, i <= j -> j < n -> p j = false) -> Qmr p f i = n
 | 0, i, n, h1, h2, _, _ => by omega
 | f + 1, i, n, h1, h2, h3, h4 => by
  unfold Qmr
  by_cases e : i = n
  ·subst e; rw [if_pos h3]
  ·rw [h4 i (Nat.le_refl _) (by omega)]
   exact Qnj (by omega) (by omega) h3 fun j h5 h6 => h4 j (by omega) h6
theorem Qkp {p : Nat -> Bool} : ∀ {f i : Nat}, (∀ j, i <= j -> j < i + f -> p j = false) -> Qmr p f i = i + f
 | 0, i, _ => rfl
 | f + 1, i, h => by
  unfold Qmr
  rw [h i (Nat.le_refl _) (by omega)]
  have := Qkp (p := p) (f := f) (i := i + 1) fun j h5 h6 => h j (by omega) (by omega)
  simp only [Bool.false_eq_true, if_false]; omega
def Qgn (x y : Nat -> Rat) (c : Rat) : Nat -> Rat := fun i => x i + c * y i
def Qh6 (M : MF) (R : Nat) : Nat := Qmr (fun i => decide (M i i ≠ 0)) R 0
def Qjy (M : MF) (R i : Nat) : Nat := Qmr (fun k => decide (M i k ≠ 0)) R 0
def Qfn (M : MF) (R : Nat) : Nat := Qmr (fun i => decide (Qjy M R i < R)) R 0
def Qer (M : MF) (R : Nat) : List (Rat × (Nat -> Rat)) :=
  if Qh6 M R < R then [(M (Qh6 M R) (Qh6 M R), Qgn (fun _ => 0) (M (Qh6 M R)) (1 / M (Qh6 M R) (Qh6 M R)))]
  else if Qfn M R < R then
    [(1 / (M (Qfn M R) (Qjy M R (Qfn M R)) + M (Qfn M R) (Qjy M R (Qfn M R))), Qgn (M (Qfn M R)) (M (Qjy M R (Qfn M R))) 1),
     (-(1 / (M (Qfn M R) (Qjy M R (Qfn M R)) + M (Qfn M R) (Qjy M R (Qfn M R)))), Qgn (M (Qfn M R)) (M (Qjy M R (Qfn M R))) (-1))]
  else []
abbrev PV.form (w : Nat) (f : Rat × (Nat -> Rat)) : PV := .agg [.bool (decide (f.1.num < 0)), PV.num f.1.num.natAbs, PV.num f.1.den, .sl 3 (Q6 PV.rat f.2 w)]
end Go.FW
