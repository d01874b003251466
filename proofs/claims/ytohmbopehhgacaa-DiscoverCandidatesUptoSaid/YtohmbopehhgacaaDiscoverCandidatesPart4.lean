/- Part 4 of the proof of DiscoverCandidates: C1, CM, CP, CS2, CS3, CU, FwNG, FwNS, FwNT, FwNH, FwQA, FwSD, FwSE, FwSF, FwSG, FwSH, FwSI, FwNI, FwNJ, FwSJ, FwSK, FwSL, FwUA, FwSM, FwUC, FwVA, FwVB, FwVC, FwYA. Own lemmas; no conditions. -/
import Derived.Test.YtohmbopehhgacaaDiscoverCandidatesPart3
import Derived.Test.YtohmbopehhgacaaProg
set_option maxHeartbeats 1000000
set_option linter.unusedSimpArgs false
set_option linter.unusedVariables false
set_option linter.unnecessarySimpa false
set_option maxRecDepth 100000
namespace Go.Proofs.Ytohmbopehhgacaa
open Go Go.FW
theorem Qat : Try.prog.follows .mixedOrders = true := by kernel_rfl
end Go.Proofs.Ytohmbopehhgacaa
namespace Go.FW
open Go
variable {C : Ctx} {ρ : Nat -> Option Nat} {fr fr' : Fr} {hp hp' : HP} {w w' : World} {K R : Qa}
def Qf0 (r : PV) : Prop := (r.refs = [] /\ r.sref = []) /\ ∀ σ, rnP σ r = r
def Qkt (nm : Nat -> Bool) (p : PV) : PV := if (p.refs ++ p.sref).any nm then .undef else p
def Qyq (nm : Nat -> Bool) (fr : Fr) : Fr := fun s => Qkt nm (fr s)
def exH (nm ex : Nat -> Bool) (H hp : HP) : HP := fun x => if ex x then H x else if nm x then none else hp x
def exF (S : List Nat) (F fr : Fr) : Fr := fun s => if S.contains s then F s else fr s
end Go.FW
namespace Go.FW
open Go
variable {C : Ctx} {ρ : Nat -> Option Nat} {fr fr' : Fr} {hp : HP} {w : World} {K R : Qa}
theorem Qrp {B : List Nat} {F : Fr} {β δ : Nat} (hβ : B.contains β = true) (h2 : β < 1000000) : mvF β δ (bse B F) = bse B F := Qts (.inl hβ) (.inl h2)
theorem Qyr :
  (∀ (σ : Nat -> Nat) (k : IntKind) (n : Int), rnP σ (.int k n) = .int k n) /\
  (∀ (σ : Nat -> Nat) (b : Bool), rnP σ (.bool b) = .bool b) /\
  (∀ (σ : Nat -> Nat) (e : Nat) (xs : List PV), rnP σ (.sl e xs) = .sl e xs) /\
  (∀ (σ : Nat -> Nat) (cs : List PV), rnP σ (.agg cs) = .agg cs) /\
  (∀ (σ : Nat -> Nat) (cs : List PV), rnP σ (.tup cs) = .tup cs) /\
  (∀ (σ : Nat -> Nat) (cs : List PV), rnP σ (.pt cs) = .pt cs) /\
  (∀ (σ : Nat -> Nat), rnP σ .nilS = .nilS) /\
  (∀ (σ : Nat -> Nat), rnP σ .undef = .undef) /\
  (∀ (σ : Nat -> Nat) (β o n : Nat), rnP σ (.mso β o n) = .mso (σ β) o n) /\
  (∀ (σ : Nat -> Nat) (β o n : Nat), rnP σ (.mp β o n) = .mp (σ β) o n) /\
  (∀ (σ : Nat -> Nat) (β o n : Nat), rnP σ (.nso β o n) = .nso (σ β) o n) /\
  (∀ (σ : Nat -> Nat) (β o n : Nat), rnP σ (.np β o n) = .np (σ β) o n) /\
  (∀ (σ : Nat -> Nat) (cs : List PV), rnP σ (.rag cs) = .rag (cs.map (rn1 σ))) := by
 refine ⟨?_, ?_, ?_, ?_, ?_, ?_, ?_, ?_, ?_, ?_, ?_, ?_, ?_⟩ <;> intros <;> rfl
theorem Qys :
  (∀ (σ : Nat -> Nat) (k : IntKind) (n : Int), rn1 σ (.int k n) = .int k n) /\
  (∀ (σ : Nat -> Nat) (b : Bool), rn1 σ (.bool b) = .bool b) /\
  (∀ (σ : Nat -> Nat) (e : Nat) (xs : List PV), rn1 σ (.sl e xs) = .sl e xs) /\
  (∀ (σ : Nat -> Nat), rn1 σ .nilS = .nilS) /\
  (∀ (σ : Nat -> Nat), rn1 σ .undef = .undef) /\
  (∀ (σ : Nat -> Nat) (β o n : Nat), rn1 σ (.mso β o n) = .mso (σ β) o n) /\
  (∀ (σ : Nat -> Nat) (β o n : Nat), rn1 σ (.nso β o n) = .nso (σ β) o n) := by
 refine ⟨?_, ?_, ?_, ?_, ?_, ?_, ?_⟩ <;> intros <;> rfl
theorem Qxl :
  (∀ (γ : Nat) (k : IntKind) (n : Int), Qcf γ (.int k n) = .int k n) /\
  (∀ (γ : Nat) (b : Bool), Qcf γ (.bool b) = .bool b) /\
  (∀ (γ e : Nat) (xs : List PV), Qcf γ (.sl e xs) = .sl e xs) /\
  (∀ (γ : Nat) (cs : List PV), Qcf γ (.agg cs) = .agg cs) /\
  (∀ (γ : Nat) (cs : List PV), Qcf γ (.tup cs) = .tup cs) /\
  (∀ (γ : Nat) (cs : List PV), Qcf γ (.pt cs) = .pt cs) /\
  (∀ (γ : Nat), Qcf γ .nilS = .nilS) /\
  (∀ (γ : Nat), Qcf γ .undef = .undef) /\
  (∀ (γ β o n : Nat), Qcf γ (.mso β o n) = if β = γ then .nso γ o n else .mso β o n) /\
  (∀ (γ β o n : Nat), Qcf γ (.mp β o n) = if β = γ then .np γ o n else .mp β o n) /\
  (∀ (γ β o n : Nat), Qcf γ (.nso β o n) = .nso β o n) /\
  (∀ (γ β o n : Nat), Qcf γ (.np β o n) = .np β o n) := by
 refine ⟨?_, ?_, ?_, ?_, ?_, ?_, ?_, ?_, ?_, ?_, ?_, ?_⟩ <;> intros <;> rfl
theorem Qtv {γ s : Nat} {x : PV} : Qyo γ x fr s = if s = γ then x else Qcf γ (fr s) := rfl
theorem Qtw {args : List PV} {G : Fr} {s : Nat} : Qyp args G s = if s < 1000000 then (args[s]?).getD .undef else G s := rfl
theorem Qtx {nm : Nat -> Bool} {s : Nat} : Qyq nm fr s = Qkt nm (fr s) := rfl
theorem Qty {nm : Nat -> Bool} {p : PV} : Qkt nm p = if (p.refs ++ p.sref).any nm then .undef else p := rfl
theorem Qvt {nm ex : Nat -> Bool} {H : HP} {x : Nat} : exH nm ex H hp x = if ex x then H x else if nm x then none else hp x := rfl
theorem Qvu {S : List Nat} {F : Fr} {s : Nat} : exF S F fr s = if S.contains s then F s else fr s := rfl
attribute [go_sem] Qtp Qtq Qvq Qvr Qvp Qrp Qyr Qys Qxl Qtv Qtw Qtx Qty Qvt Qvu
end Go.FW
namespace Go.FW
open Go
variable {C : Ctx} {ρ : Nat -> Option Nat} {fr fr' : Fr} {hp : HP} {w : World} {K R : Qa}
theorem Qtz {σ : Nat -> Nat} {p : PV} (h : p = .nilS ∨ ∃ β n, p = .ms β n) (hσ : ∀ β n, p = .ms β n -> σ β = β) : Qb5 (p.ncells.map (rn1 σ)) = p := by
 rcases h with rfl | ⟨β, n, rfl⟩
 ·rfl
 ·have := hσ β n rfl;simp [PV.ncells, PV.cells, rn1, Qb5, this]
def Qbr (B n w : Nat) (π : Nat -> Nat) : List (Nat × Nat) := (List.range n).map fun r => (B + π r, w)
theorem Qku {B n w r : Nat} {π : Nat -> Nat} (h : r < (Qbr B n w π).length) : (Qbr B n w π)[r] = (B + π r, w) := by simp [Qbr]
def Qdk {α : Type} (p : α -> PV) (f : Nat -> α) (w : Nat) : List PV := (List.range w).map fun c => p (f c)
theorem Qfa {α : Type} (p : α -> PV) (f : Nat -> α) (w : Nat) : (Qdk p f w).length = w := by simp [Qdk]
theorem Qg8 {α : Type} {p : α -> PV} {f : Nat -> α} {w c : Nat} (h : c < (Qdk p f w).length) : (Qdk p f w)[c] = p (f c) := by simp [Qdk]
theorem Qxm {by_ ty d : Nat} {k k' : IntKind} {n c : Nat} (h2 : n <= c) (h3 : by_ * c <= 281474976710656) (h4 : c <= 9223372036854775807) :
  mkK 3 by_ ty (.agg [.bool false, .nilS, .nilS]) (.int k (n : Int)) (.int k' (c : Int)) d fr hp K = K (upd (Qy d fr) d (.ms d n)) (Qe hp d ⟨3, ty, List.replicate n (.agg [.bool false, .nilS, .nilS]), false⟩) := by
 rw [Qjj (e := 3) (by omega) rfl (by omega) (by omega) (by omega) (by omega)]; rfl
attribute [go_sem] Qxm
end Go.FW
namespace Go.FW
open Go
variable {C : Ctx} {ρ : Nat -> Option Nat} {fr fr' : Fr} {hp : HP} {w : World} {K R : Qa}
theorem Qt0 {ty w i d : Nat} {fz : Bool} {f : Nat -> Rat} (h : i < w) : ldM (some ⟨3, ty, Qdk PV.rat f w, fz⟩) 3 true i 0 d fr hp K = K (upd fr d (PV.rat (f i))) hp := by rw [Qfh (by rw [Qfa]; exact h) (by omega) (by simp), Qg8]; rfl
theorem Qvv : (Qf0 (.tup []) = True) /\ (∀ (k : IntKind) (n : Int), Qf0 (.int k n) = True) /\ (∀ b : Bool, Qf0 (.bool b) = True) /\ (∀ (e : Nat) (xs : List PV), Qf0 (.sl e xs) = True) /\ (∀ cs : List PV, Qf0 (.agg cs) = True) /\ (∀ cs : List PV, Qf0 (.tup cs) = True) := by refine ⟨?_, ?_, ?_, ?_, ?_, ?_⟩ <;> intros <;> simp [Qf0, PV.refs, PV.sref, rnP, rn1]
attribute [go_sem] Qvv Qt0
end Go.FW
namespace Go.FW
open Go
def Can (p : List Tm) : Prop := ∀ t ∈ p, t.2.getLast? ≠ some 0
def NZ (p : List Tm) : Prop := ∀ t ∈ p, t.1 ≠ 0
structure Nrm (p : List Tm) : Prop where
 c : Can p
 z : NZ p
 s : Qgr p
theorem Can.cons {t : Tm} {p : List Tm} : Can (t :: p) ↔ t.2.getLast? ≠ some 0 /\ Can p := by simp [Can]
theorem NZ.cons {t : Tm} {p : List Tm} : NZ (t :: p) ↔ t.1 ≠ 0 /\ NZ p := by simp [NZ]
theorem Nrm.nil : Nrm [] := ⟨by simp [Can], by simp [NZ], trivial⟩
def ind (m : List Int) : List Int -> Rat := fun n => if n = m then 1 else 0
variable {C : Ctx} {fr : Fr} {hp : HP} {w : World} {K R : Qa}
end Go.FW
namespace Go.FW
open Go
def Qrq (a : Rat) : Nat -> Rat
 | 0 => 1
 | n + 1 => Qrq a n * a
def Qvw (vs : List Rat) (m : List Int) : Nat -> Rat
 | 0 => 1
 | n + 1 => Qvw vs m n * Qrq (vs.getD n 0) (eN m n).toNat
def mev (vs : List Rat) (m : List Int) : Rat := Qvw vs m m.length
theorem Qm3 {B B' : List Nat} {F : Fr} (h : (B'.all B.contains) = true) : Qv B' (Qv B F) = Qv B F := by
 funext s;rw [Qgg B'];split
 ·rename_i h1;rw [Qgg B] at h1 ⊢;split
  ·rfl
  ·rename_i h2;rw [if_neg h2] at h1;exfalso;apply h2;rw [List.any_eq_true] at h1 ⊢;obtain ⟨x, hx, hb⟩ := h1;rw [List.all_eq_true] at h;exact ⟨x, hx, h x (List.contains_iff_mem.1 hb)⟩
 ·rfl
theorem Qm4 {W : List (Nat × Nat)} {B : List Nat} {J F : Fr} : Qv B (ovr W J F) = ovr W (Qv B J) (Qv B F) := by funext s; unfold Qv ovr; split <;> rfl
theorem Qcj {V W : List (Nat × Nat)} {B B' : List Nat} {X Z F : Fr} (h : Qkp V W = true) (hB : (B'.all B.contains) = true) : ovr V X (Qv B' (ovr W Z (Qv B F))) = ovr W (ovr V X (Qv B' Z)) (Qv B F) := by rw [Qm4, Qm3 hB, Qei h]
section
variable {C : Ctx} {fr : Fr} {hp : HP} {w : World} {K R : Qa}
end
def Qxn (m : List Int) (v : Nat) : List Int := Qxe (m.set v 0)
end Go.FW
namespace Go.FW
open Go
variable {C : Ctx} {ρ : Nat -> Option Nat} {fr fr' : Fr} {hp : HP} {w : World} {K R : Qa}
def ldX (p : PV) (γ n : Nat) (ag : Bool) (i o d : Nat) (fr : Fr) (hp : HP) (K : Qa) : Prop := match p with
 |.nst γ' e _ xs => γ' = γ /\ ∃ h : i < xs.length, o + n <= e /\ (ag = false -> n = 1) /\ K (upd fr d (ldN ag n o (xs[i]'h))) hp
 | _ => False
theorem Qvx {γ n i o d : Nat} {ag : Bool} : ldK n ag (.np γ i o) d fr hp K = ldX (fr γ) γ n ag i o d fr hp K := by simp only [ldK, ldX];cases fr γ <;> rfl
def stX (p : PV) (h : Option HB) (v : Option (List PV)) (γ n i o : Nat) (fr : Fr) (hp : HP) (K : Qa) : Prop := match p with
 |.nst γ' e ty xs => γ' = γ /\ (∃ hb, h = some hb /\ hb.fz = false) /\ ∃ h : i < xs.length, o + n <= e /\ match v with
   | some cs => cs.length = n /\ K (upd (Qbe γ fr) γ (.nst γ e ty (xs.set i (Qb5 (Qeo (xs[i]'h).ncells o cs))))) hp
   | none => False
 | _ => False
theorem Qvy {γ n i o : Nat} {v : PV} : stK n (.np γ i o) v fr hp K = stX (fr γ) (hp γ) (stN v) γ n i o fr hp K := by simp only [stK, stX];cases fr γ <;> rfl
theorem Qxo {γ e ty n o d : Nat} {ag : Bool} {x : PV} (h1 : o + n <= e) (h2 : ag = true ∨ n = 1) : ldX (.nst γ e ty [x]) γ n ag 0 o d fr hp K = K (upd fr d (ldN ag n o x)) hp := by have : (ag = false -> n = 1) := fun h => h2.resolve_left (by simp [h]);simp [ldX, h1];exact fun _ => this
theorem Qxp {γ e ty n o e0 ty0 : Nat} {x : PV} {xs0 cs : List PV} (h1 : o + n <= e) (h2 : cs.length = n) : stX (.nst γ e ty [x]) (some ⟨e0, ty0, xs0, false⟩) (some cs) γ n 0 o fr hp K = K (upd (Qbe γ fr) γ (.nst γ e ty [Qb5 (Qeo x.ncells o cs)])) hp := by simp [stX, h1, h2]
theorem Qxq {γ ty B n w r d : Nat} {π : Nat -> Nat} (h : r < n) : ldX (.nst γ 1 ty (Qbs (Qbr B n w π))) γ 1 false r 0 d fr hp K = K (upd fr d (.ms (B + π r) w)) hp := by
 have hl : r < (Qbs (Qbr B n w π)).length := by simpa [Qbs, Qbr] using h
 simp only [ldX, hl, exists_true_left, true_and, Nat.le_refl, Nat.zero_add, implies_true];simp [ldN, Qbs, Qbr, PV.ncells, PV.cells]
theorem Qxr {γ ty B n w r m e0 ty0 : Nat} {π : Nat -> Nat} {xs0 : List PV} (h : r < n) : stX (.nst γ 1 ty (Qbs (Qbr B n w π))) (some ⟨e0, ty0, xs0, false⟩) (some [.ms (B + m) w]) γ 1 r 0 fr hp K = K (upd (Qbe γ fr) γ (.nst γ 1 ty (Qbs (Qbr B n w fun x => if x = r then m else π x)))) hp := by
 have hl : r < (Qbs (Qbr B n w π)).length := by simpa [Qbs, Qbr] using h
 have e : (Qbr B n w π).set r (B + m, w) = Qbr B n w fun x => if x = r then m else π x := by
  refine List.ext_getElem (by simp [Qbr]) fun j h1 h2 =>?_;rw [List.getElem_set, Qku, Qku];split
  ·rename_i e; subst e; simp
  ·rename_i e; rw [if_neg fun e2 => e e2.symm]
 rw [<- e];simp only [stX, hl, exists_true_left, true_and, Nat.le_refl, Nat.zero_add, Option.some.injEq, exists_eq_left', List.length_cons, List.length_nil];simp [Qb5, Qeo, Qbs, PV.ncells, PV.cells, List.map_set]
theorem Qyt :
  (∀ (γ o n : Nat), stN (.nso γ o n) = some [.nso γ o n]) /\
  (∀ (k : IntKind) (n : Int), stN (.int k n) = some [.int k n]) /\
  (∀ (b : Bool), stN (.bool b) = some [.bool b]) /\
  (stN .nilS = some [.nilS]) /\
  (∀ (e : Nat) (xs : List PV), stN (.sl e xs) = some [.sl e xs]) /\
  (∀ (cs : List PV), stN (.pt cs) = some [.pt cs]) /\
  (∀ (cs : List PV), stN (.agg cs) = some cs) := by
 refine ⟨?_, ?_, ?_, ?_, ?_, ?_, ?_⟩ <;> intros <;> rfl
theorem Qvz {β o n : Nat} (h : 1000000 <= β) : stN (.mso β o n) = some [.mso β o n] := by simp [stN, isB, h]
theorem Qt1 {cs : List PV} : stN (.rag cs) = if cs.all PV.notU then some cs else none := rfl
theorem Qxs : (∀ (k : IntKind) (n : Int), (PV.int k n).notU = true) /\ (∀ b : Bool, (PV.bool b).notU = true) /\ (PV.nilS.notU = true) /\ (∀ (e : Nat) (xs : List PV), (PV.sl e xs).notU = true) /\ (∀ (β o n : Nat), (PV.mso β o n).notU = true) /\ (∀ (β o n : Nat), (PV.nso β o n).notU = true) /\ (∀ cs : List PV, (PV.pt cs).notU = true) /\ (PV.undef.notU = false) := by refine ⟨?_, ?_, ?_, ?_, ?_, ?_, ?_, ?_⟩ <;> intros <;> rfl
theorem Qxt : (∀ (k : IntKind) (n : Int), (PV.int k n).isRefC = false) /\ (∀ b : Bool, (PV.bool b).isRefC = false) /\ (PV.nilS.isRefC = false) /\ (∀ (e : Nat) (xs : List PV), (PV.sl e xs).isRefC = false) /\ (∀ (β o n : Nat), (PV.mso β o n).isRefC = true) /\ (∀ (β o n : Nat), (PV.nso β o n).isRefC = true) /\ (∀ cs : List PV, (PV.pt cs).isRefC = false) /\ (PV.undef.isRefC = true) := by refine ⟨?_, ?_, ?_, ?_, ?_, ?_, ?_, ?_⟩ <;> intros <;> rfl
theorem Qpa {cs : List PV} (h : cs.any PV.isRefC = true) : Qcz cs = .rag cs := by simp [Qcz, h]
theorem Qpb {cs : List PV} (h : cs.any PV.isRefC = false) : Qcz cs = .agg cs := by simp [Qcz, h]
theorem Qv0 {a b : PV} {cs : List PV} : Qb5 (a :: b :: cs) = Qcz (a :: b :: cs) := rfl
theorem Qv1 {a : PV} : Qb5 [a] = a := rfl
theorem Qxu {n o : Nat} {x : PV} : ldN true n o x = Qcz ((x.ncells.drop o).take n) := rfl
theorem Qxv {n o : Nat} {x : PV} : ldN false n o x = (x.ncells.drop o).headD .undef := rfl
theorem Qt2 {l cs : List PV} {o : Nat} : Qeo l o cs = l.take o ++ cs ++ l.drop (o + cs.length) := rfl
theorem Qm5 {cs : List PV} : (PV.rag cs).ncells = cs := rfl
theorem Qm6 {cs : List PV} : (PV.agg cs).ncells = cs := rfl
theorem Qxw {z : List PV} {ps : List (Nat × Nat × PV)} {d : Nat} (h : ps.any (fun p => p.2.2.isNst) = true) : Qcp z ps d fr hp K = (Qc5 z.length ps /\ K (upd fr d (.rag (Qa6 z (ps.map fun p => (p.1, (stN p.2.2).getD []))))) hp) := by simp only [Qcp, if_pos h]
theorem Qlc {len : Nat} : Qc5 len [] = True := by simp [Qc5]
theorem Qkv {len o n : Nat} {v : PV} {ps : List (Nat × Nat × PV)} : Qc5 len ((o, n, v) :: ps) = ((∃ cs, stN v = some cs /\ cs.length = n /\ o + n <= len) /\ Qc5 len ps) := by simp [Qc5]
theorem Qv2 : (∀ (γ o n : Nat), (PV.nso γ o n).isNst = true) /\ (∀ (cs : List PV), (PV.rag cs).isNst = true) /\ (∀ (β o n : Nat), (PV.mso β o n).isNst = decide (2000000 <= β)) /\ (∀ (cs : List PV), (PV.agg cs).isNst = false) /\ (∀ (k : IntKind) (n : Int), (PV.int k n).isNst = false) /\ (∀ b : Bool, (PV.bool b).isNst = false) /\ (PV.nilS.isNst = false) /\ (∀ (e : Nat) (xs : List PV), (PV.sl e xs).isNst = false) := by refine ⟨?_, ?_, ?_, ?_, ?_, ?_, ?_, ?_⟩ <;> intros <;> rfl
theorem Qt3 : (∀ (β : Nat) (k : IntKind) (n : Int), Qba β (.int k n) = .int k n) /\ (∀ (β : Nat) (b : Bool), Qba β (.bool b) = .bool b) /\ (∀ β : Nat, Qba β .nilS = .nilS) /\ (∀ (β e : Nat) (xs : List PV), Qba β (.sl e xs) = .sl e xs) /\ (∀ (β γ o n : Nat), Qba β (.mso γ o n) = if γ = β then .undef else .mso γ o n) /\ (∀ (β γ o n : Nat), Qba β (.nso γ o n) = if γ = β then .undef else .nso γ o n) := by refine ⟨?_, ?_, ?_, ?_, ?_, ?_⟩ <;> intros <;> rfl
theorem Qt4 {β γ e ty : Nat} {x : PV} (h : γ ≠ β) : Q1 β (.nst γ e ty [x]) = .nst γ e ty [Qb5 (x.ncells.map (Qba β))] := by simp [Q1, h]
theorem Qt5 {β γ ty B n w : Nat} {π : Nat -> Nat} (h : γ ≠ β) (h2 : β < B) : Q1 β (.nst γ 1 ty (Qbs (Qbr B n w π))) = .nst γ 1 ty (Qbs (Qbr B n w π)) := by
 simp only [Q1, if_neg h];congr 1;conv => rhs; rw [<- List.map_id (Qbs (Qbr B n w π))]
 refine List.map_congr_left fun x hx =>?_;obtain ⟨y, hy, rfl⟩ := List.mem_map.1 hx;obtain ⟨r, hr, rfl⟩ := List.mem_map.1 hy;simp only [PV.ncells, PV.cells, List.map_cons, List.map_nil, Qba, Qb5];rw [if_neg (by omega)]; rfl
theorem Qyu {β δ γ ty B n w : Nat} {π : Nat -> Nat} (hβ : β < 1000000) (hB : 2000000 <= B) (hγ : 2000000 <= γ) : rnP (mvN β δ) (.nst γ 1 ty (Qbs (Qbr B n w π))) = .nst γ 1 ty (Qbs (Qbr B n w π)) := by
 have e1 : mvN β δ γ = γ := by unfold mvN; rw [if_neg (by omega)]
 simp only [rnP, e1];congr 1;conv => rhs; rw [<- List.map_id (Qbs (Qbr B n w π))]
 refine List.map_congr_left fun x hx =>?_;obtain ⟨y, hy, rfl⟩ := List.mem_map.1 hx;obtain ⟨r, hr, rfl⟩ := List.mem_map.1 hy;refine Qtz (.inr ⟨_, _, rfl⟩) fun β' n' h =>?_;cases h; unfold mvN; rw [if_neg (by omega)]
theorem Qxx {δ γ ty B n w : Nat} {π : Nat -> Nat} (h : γ ≠ δ) (hδ : δ < B) : Qcf δ (.nst γ 1 ty (Qbs (Qbr B n w π))) = .nst γ 1 ty (Qbs (Qbr B n w π)) := by
 simp only [Qcf, if_neg h];congr 1;conv => rhs; rw [<- List.map_id (Qbs (Qbr B n w π))]
 refine List.map_congr_left fun x hx =>?_;obtain ⟨y, hy, rfl⟩ := List.mem_map.1 hx;obtain ⟨r, hr, rfl⟩ := List.mem_map.1 hy;simp only [PV.ncells, PV.cells, List.map_cons, List.map_nil, Qdj, Qb5];rw [if_neg (by omega)]; rfl
theorem Qpc {β : Nat} {cs : List PV} : Qn β (.rag cs) = .rag cs := rfl
theorem Qrr {γ : Nat} {cs : List PV} : Qcf γ (.rag cs) = .rag (cs.map (Qdj γ)) := rfl
theorem Qpd {β : Nat} {cs : List PV} : Q1 β (.rag cs) = .rag (cs.map (Qba β)) := rfl
theorem Qxy : (∀ (γ : Nat) (k : IntKind) (n : Int), Qdj γ (.int k n) = .int k n) /\ (∀ (γ : Nat) (b : Bool), Qdj γ (.bool b) = .bool b) /\ (∀ γ : Nat, Qdj γ .nilS = .nilS) /\ (∀ (γ e : Nat) (xs : List PV), Qdj γ (.sl e xs) = .sl e xs) /\ (∀ (γ β o n : Nat), Qdj γ (.mso β o n) = if β = γ then .nso γ o n else .mso β o n) /\ (∀ (γ β o n : Nat), Qdj γ (.nso β o n) = .nso β o n) := by refine ⟨?_, ?_, ?_, ?_, ?_, ?_⟩ <;> intros <;> rfl
theorem Qv3 {γ i o off d : Nat} : Qe7 off (.np γ i o) d fr hp K = K (upd fr d (.np γ i (o + off))) hp := rfl
theorem Qpe {γ γ' e ty : Nat} {xs : List PV} : Qbi γ (.nst γ' e ty xs) = if γ' = γ then .undef else .nst γ' e ty xs := rfl
theorem Qpf {γ : Nat} {cs : List PV} : Qbi γ (.rag cs) = .rag cs := rfl
attribute [go_sem] Qv3 Qpe Qpf false_and List.all_cons List.all_nil Qpc Qrr Qpd Qxy exists_eq_left' Qvx Qvy Qxo Qxp Qxq Qxr Qyt Qvz Qt1 Qxs Qxt Qpa Qpb Qv0 Qv1 Qxu Qxv Qt2 Qm5 Qm6 Qxw Qlc Qkv Qv2 Qt3 Qt4 Qt5 Qyu Qxx
theorem Qpg {γ : Nat} {F : Fr} : Qbe γ (Qin F) = Qin F := by have := Qi6 (γ := γ) (B := []) (F := F);simpa only [bse, Qbw] using this
theorem Qph {β : Nat} {F : Fr} (h : 2000000 <= β) : Qay β (Qin F) = Qin F := by have := Qi5 (B := []) (F := F) h;simpa only [bse, Qbw] using this
attribute [go_sem] Qpg Qph
theorem Qxz : (∀ (k : IntKind) (n : Int), (PV.int k n).sref = []) /\ (∀ b : Bool, (PV.bool b).sref = []) /\ (PV.nilS.sref = []) /\ (PV.undef.sref = []) /\ (∀ (e : Nat) (xs : List PV), (PV.sl e xs).sref = []) /\ (∀ cs : List PV, (PV.agg cs).sref = []) /\ (∀ cs : List PV, (PV.tup cs).sref = []) /\ (∀ cs : List PV, (PV.pt cs).sref = []) /\
  (∀ (β o n : Nat), (PV.mso β o n).sref = []) /\ (∀ (β o n : Nat), (PV.mp β o n).sref = []) /\ (∀ (β o n : Nat), (PV.nso β o n).sref = [β]) /\ (∀ (β o n : Nat), (PV.np β o n).sref = [β]) := by
 refine ⟨?_, ?_, ?_, ?_, ?_, ?_, ?_, ?_, ?_, ?_, ?_, ?_⟩ <;> intros <;> rfl
attribute [go_sem] Qxz
theorem Qrs {d w i : Nat} {k : IntKind} {f : Nat -> Rat} (h : i < w) : Qbg 3 (.sl 3 (Qdk PV.rat f w)) (.int k (i : Nat)) d fr hp K = K (upd fr d (.pt (PV.rat (f i)).cells)) hp := by unfold Qdk;rw [Qgp (by omega) (by simp; omega)];simp
theorem Qrt {α : Type} {p : α -> PV} {f : Nat -> α} {w d e : Nat} : Qd8 (.sl e (Qdk p f w)) d fr hp K = K (upd fr d (.int .i64 (w : Nat))) hp := by simp [Qd8, Qdk]
attribute [go_sem] Qrs Qrt
theorem Qt6 {i c : Nat} (h : c < 1600000) : (1600000 + i = c) = False := by simp; omega
attribute [go_sem] Qt6
end Go.FW
namespace Go.FW
open Go
variable {C C' : Ctx} {ρ ρ' : Nat -> Option Nat} {fr fr' : Fr} {hp hp' : HP} {w : World} {K R : Qa}
end Go.FW
namespace Go.FW
open Go
def Qe9 (vs : List Rat) (v : Nat) (b : Rat) (n : Int) : List Tm -> Rat
 | [] => 0
 | t :: p => (if n <= eN t.2 v then t.1 * mev vs (Qxn t.2 v) * Qrq b (eN t.2 v - n).toNat else 0) + Qe9 vs v b n p
variable {C : Ctx} {fr : Fr} {hp : HP} {w : World} {K R : Qa}
theorem bs0 {e ty d : Nat} (he : 0 < e) : bsK e ty [] d fr hp K = K (upd (Qy d fr) d (.ms d 0)) (Qe hp d ⟨e, ty, [], false⟩) := Qci (by rfl) (by simp) he
end Go.FW
namespace Go.FW
open Go
variable {C : Ctx} {fr : Fr} {hp : HP} {K : Qa}
theorem Qsh {z : List PV} {o n o2 n2 d β m e ty : Nat} {p : PV} {xs : List PV} {fz : Bool} (h : p.flat = true) (hb : hp β = some ⟨e, ty, xs, fz⟩) (hm : m = xs.length) (hB : isB β = false := by decide) :
  Qcp z [(o, n, p), (o2, n2, .ms β m)] d fr hp K = ((p.cells.length = n /\ o + n <= z.length) /\ (1 = n2 /\ o2 + n2 <= z.length) /\ K (upd fr d (.agg (Qa6 z [(o, p.cells), (o2, [.sl e xs])]))) (Ql hp [β])) := by
 obtain ⟨s1, s2, s3⟩ := Qbx (hp := hp) h;have s4 : Qh hp (.ms β m) = .sl e xs := by simp [Qh, Qw, Qf4 hB, hb, hm]
 have r4 : (PV.ms β m).refs = [β] := rfl;have c4 : (PV.sl e xs).cells = [.sl e xs] := rfl;have d4 : (PV.sl e xs).isData = true := rfl;have i1 : p.isNst = false := Qhv h;have i2 : (PV.ms β m).isNst = false := by simp [isB] at hB; simp [PV.isNst]; omega
 unfold Qcp Qhf Qjt;rw [if_neg (by simp [i1, i2])];apply propext;simp only [List.mem_cons, List.not_mem_nil, or_false, forall_eq_or_imp, forall_eq, s1, s3, s4, d4, c4, List.length_cons, List.length_nil, true_and, List.map_cons, List.map_nil, List.flatMap_cons, List.flatMap_nil, s2, r4, List.nil_append, List.append_nil, and_assoc, Nat.zero_add]
end Go.FW
namespace Go.FW
open Go
theorem Qhz : ∀ {p : List Tm}, Qgr p -> ∀ n, Qgr (p.take n)
 | _, _, 0 => trivial
 | [], _, n + 1 => trivial
 | t :: p, h, n + 1 => ⟨fun s hs => h.1 s (List.mem_of_mem_take hs), Qhz h.2 n⟩
theorem Nrm.take {p : List Tm} (h : Nrm p) (n : Nat) : Nrm (p.take n) := ⟨fun t ht => h.c t (List.mem_of_mem_take ht), fun t ht => h.z t (List.mem_of_mem_take ht), Qhz h.s n⟩
abbrev MF := Nat -> Nat -> Rat
abbrev LF := Rat × (Nat -> Rat)
variable {C : Ctx} {fr : Fr} {hp : HP} {w : World} {K R : Qa}
abbrev PV.rowD (w : Nat) (f : Nat -> Rat) : PV :=.sl 3 (Qdk PV.rat f w)
theorem Qt7 {ty w n i d : Nat} {fz : Bool} {M : MF} (h : i < n) : ldM (some ⟨1, ty, Qdk (PV.rowD w) M n, fz⟩) 1 false i 0 d fr hp K = K (upd fr d (PV.rowD w (M i))) hp := by rw [Qfh (by rw [Qfa]; exact h) (by omega) (by simp), Qg8]; rfl
theorem Qru {d w n i : Nat} {k : IntKind} {M : MF} (h : i < n) : Qbg 1 (.sl 1 (Qdk (PV.rowD w) M n)) (.int k (i : Nat)) d fr hp K = K (upd fr d (.pt [PV.rowD w (M i)])) hp := by
 have hl : i < (Qdk (PV.rowD w) M n).length := by rw [Qfa]; exact h
 simp only [Qbg];simp [hl, Qg8]; rfl
attribute [go_sem] Qt7 Qru
theorem Qrv {ty i d : Nat} {fz : Bool} {α : Type} {p : α -> PV} {L : List α} (h : i < L.length) : ldM (some ⟨1, ty, L.map p, fz⟩) 1 false i 0 d fr hp K = K (upd fr d (ldV false 1 0 (p (L[i]'h)))) hp := by rw [Qfh (by rw [List.length_map]; exact h) (by omega) (by simp), List.getElem_map]
theorem Qrw {ty i d : Nat} {fz : Bool} {L : List LF} (h : i < L.length) : ldM (some ⟨3, ty, L.map (fun f => PV.rat f.1), fz⟩) 3 true i 0 d fr hp K = K (upd fr d (PV.rat (L[i]'h).1)) hp := by rw [Qfh (by rw [List.length_map]; exact h) (by omega) (by simp), List.getElem_map]; rfl
theorem Qrx {ty i d w : Nat} {fz : Bool} {L : List LF} (h : i < L.length) : ldM (some ⟨1, ty, L.map (fun f => PV.rowD w f.2), fz⟩) 1 false i 0 d fr hp K = K (upd fr d (PV.rowD w (L[i]'h).2)) hp := by rw [Qrv h]; rfl
attribute [go_sem] Qrw Qrx
def nm1 (x : Nat) : Bool := decide (x = 2000000)
theorem Qv4 : nm1 2000000 = true := decide_eq_true rfl
attribute [go_sem] Qv4
theorem Qv5 {p : PV} {ps : List PV} {d : Nat} {fr : Fr} {hp : HP} {K : Qa} : Qc3 (.rtp (p :: ps)) 0 d fr hp K = K (upd fr d p) hp := rfl
theorem Qv6 {p q : PV} {ps : List PV} {d : Nat} {fr : Fr} {hp : HP} {K : Qa} : Qc3 (.rtp (p :: q :: ps)) 1 d fr hp K = K (upd fr d q) hp := rfl
attribute [go_sem] Qv5 Qv6
end Go.FW
namespace Go.FW
open Go
variable {C : Ctx} {fr : Fr} {hp : HP} {w : World} {K R : Qa}
theorem Qv7 {cs : List PV} {q : PV} {d : Nat} : Qc3 (.rtq cs q) 0 d fr hp K = K (upd fr d (.rag cs)) hp := rfl
theorem Qv8 {cs : List PV} {q : PV} {d : Nat} : Qc3 (.rtq cs q) 1 d fr hp K = K (upd fr d q) hp := rfl
theorem Qx0 {n ty d : Nat} {cs : List PV} (h : cs.length = n) (h0 : 0 < n) (hU : cs.all PV.notU = true) (hno : cs.all (fun x => !(x.sref1.contains (4000000 + d))) = true) :
  Qbb n ty (.rag cs) d fr hp K = K (upd (upd (Qay (4000000 + d) fr) (4000000 + d) (.nst (4000000 + d) n ty [.rag cs])) d (.np (4000000 + d) 0 0)) (Qe hp (4000000 + d) ⟨n, ty, [], false⟩) := by
 show Qf6 n ty cs d fr hp K = _;unfold Qf6 nmN;simp only [eq_iff_iff, and_iff_right_iff_imp];exact fun _ => ⟨h, h0, hU, hno⟩
theorem Qyv {σ : Nat -> Nat} {γ e ty : Nat} {cs : List PV} : rnP σ (.nst γ e ty [.rag cs]) = .nst (σ γ) e ty [Qb5 (cs.map (rn1 σ))] := rfl
theorem Qx1 {γ γ' e ty : Nat} {cs : List PV} (h : γ' ≠ γ) : Qcf γ (.nst γ' e ty [.rag cs]) = .nst γ' e ty [Qb5 (cs.map (Qdj γ))] := by simp [Qcf, h, PV.ncells]
theorem Qx2 {γ e ty : Nat} {cs : List PV} {nm : Nat -> Bool} : Qkt nm (.nst γ e ty [.rag cs]) = if (γ :: cs.flatMap PV.sref1).any nm then .undef else .nst γ e ty [.rag cs] := by simp [Qkt, PV.refs, PV.sref, PV.ncells]
attribute [go_sem] Qv7 Qv8 Qx0 Qyv Qx1 Qx2
end Go.FW
