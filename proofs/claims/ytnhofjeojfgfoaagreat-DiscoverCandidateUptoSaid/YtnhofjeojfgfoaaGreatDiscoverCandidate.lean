/- law46 DiscoverCandidate: the candidates are in normal form, not trivial, ordered, and those of fewer points are among them. -/
import Derived.Test.YtnhofjeojfgfoaaGreatDiscoverCandidatePart7
import Derived.Test.YtnhofjeojfgfoaaGreatRows
import Derived.WalkKit
import Derived.ProofKit
import Derived.OpenShut
import Derived.JoinedCond
set_option maxHeartbeats 1000000
set_option linter.unusedSimpArgs false
set_option linter.unusedVariables false
set_option linter.unnecessarySimpa false
set_option maxRecDepth 100000
namespace Go.Proofs.YtnhofjeojfgfoaaGreat
open Go Go.FW Go.ChangeShapes Go.WideShapes Go.ChangeAt Go.RowKit
theorem Qjm {H : Type} {d : DataW H} {l : List (DataW H)} (h : d ∈ l) : Rows.uptoBulk d <= Rows.uptoBulkAll l := by
 induction l with
 | nil => cases h
 | cons x r ih =>
  simp only [Rows.uptoBulkAll];cases List.mem_cons.1 h with
  | inl e => subst e; omega
  | inr e => have := ih e; omega
theorem Qsw {H : Type} (d : DataW H) : 1 <= Rows.uptoBulk d := by
 cases d with
 | lit l => cases l <;> simp [Rows.uptoBulk]
 | nil => simp [Rows.uptoBulk]
 | ptr d => simp [Rows.uptoBulk]
 | slice elems spare => simp [Rows.uptoBulk]
 | agg parts => simp [Rows.uptoBulk]
 | iface t d => simp [Rows.uptoBulk]
 | map entries => simp [Rows.uptoBulk]
 | held h => simp [Rows.uptoBulk]
theorem Qlv {H : Type} (l : List (DataW H)) : l.length <= Rows.uptoBulkAll l := by
 induction l with
 | nil => simp [Rows.uptoBulkAll]
 | cons x r ih => have := Qsw x; simp only [Rows.uptoBulkAll, List.length_cons]; omega
theorem Qcm {H : Type} : Qzy (H := H) Rows.uptoBulk := by
 refine ⟨fun elems spare =>?_, fun elems spare d hd =>?_, fun parts d hd =>?_⟩
 ·have := Qlv elems;simp only [Rows.uptoBulk]; omega
 ·have := Qjm hd;simp only [Rows.uptoBulk]; omega
 ·have := Qjm hd;simp only [Rows.uptoBulk]; omega
theorem Qsx {H : Type} {l : List (DataW H)} (hk : Rows.uptoSmall H l = true) : Rows.uptoBulkAll l <= 1048576 := of_decide_eq_true hk
theorem own : ownKnob Tryz.prog.godebug = none := by kernel_rfl
theorem Q0b : laidOutB Tryz.prog = true := by kernel_rfl
theorem Qx3 : mapsRowed Tryz.prog = true := by kernel_rfl
def Qqa (P : Program) : Bool := (List.range P.types.size).all fun t => match P.underlying t with | some (.slice e) => decide (0 < P.cellsOf e) | _ => true
theorem Qzh : Qqa Tryz.prog = true := by kernel_rfl
theorem Qx4 {t e : TypeId} (ht : t < Tryz.prog.types.size) (he : Tryz.prog.underlying t = some (.slice e)) : 0 < Tryz.prog.cellsOf e := by have h := Qzh;simp only [Qqa, List.all_eq_true] at h;have := h t (List.mem_range.2 ht);rw [he] at this;exact of_decide_eq_true this
variable {H : Type} {enc : TypeId × Value -> H}
abbrev Rd (enc : TypeId × Value -> H) := Qfz enc Tryz.prog Rows.uptoBulk 1048576
variable {w : World} {base : Nat} {spare : Nat -> Bool} {held : Bool} {r : Reach} {b0 : Nat} {v : Value} {d : DataW H} {ps : List MemPlace}
theorem Qsy {t : TypeId} (ht : Tryz.prog.underlying t = some (.int .u8)) : Rd enc t fun ps => ∃ n : Nat, ps = [.int .u8 n] /\ n < 256 := by refine (Qpe ht).mono ?_;rintro ps ⟨n, rfl, hw⟩;simp [Lit.wf, IntKind.min, IntKind.max, IntKind.signed, IntKind.bits] at hw;obtain ⟨m, rfl⟩ := Int.eq_ofNat_of_zero_le hw.1;exact ⟨m, rfl, by omega⟩
theorem Qx5 (Qe9 : Value.okWide Tryz.prog w r b0 5 v) (hd : DataW.Trod enc Tryz.prog w base spare held 5 v d ps) (hn : Rows.uptoBulk d <= 1048576) : ∃ n : Nat, Qn w Qi (.int .u8 n) v /\ n < 256 := by
 obtain ⟨p, ⟨n, e, h⟩, h2⟩ := FW.Qt7 Tryz.underlying5 Qe9 (Qsy Tryz.underlying5) hd hn;obtain rfl : p = .int .u8 n := by simpa using e
 exact ⟨n, h2, h⟩
theorem Qqb {f : FuncId} {fn : Func} {s : ChangeSpec} {ap fresh handsOn Qgq : Bool} {W : World} {args : Array Value} {ds gs : List (DataW H)} {before : List MemPlace} {pargs : List PV}
  (hW : DataW.Whole enc Tryz.prog fn.params.toList s.vars ap W args.toList ds gs before) (hvars : s.vars = []) (hres : fn.resultTypes = #[4]) (hpar : (fn.params.toList.all fun t => decide (t < Tryz.prog.types.size)) = true)
  (hfn : s.fn H (ds ++ gs) = { results := [.lit (.bool true)], args := ds })
  (hF : Qm Tryz.prog f pargs (· = .bool true)) (hsize : args.size = pargs.length) (hrep : ∀ (i : Nat) (x : PV), pargs[i]? = some x -> Qn W Qi x (args.getD i undef)) :
  Calls Tryz.prog f args W fun e W' => ∃ v, e = .returned v /\ s.post enc Tryz.prog fn ap fresh handsOn Qgq W args v W' := by
 simp only [List.all_eq_true, decide_eq_true_eq] at hpar;exact Qk7 hW hvars hres Tryz.underlying4 Q0b Qx3 (fun h1 h2 => Qx4 h1 h2) hpar hfn hF hsize hrep
theorem Qsz {w : World} {ps : List PV} {vs : List Value} (h : ∀ (i : Nat) (x : PV), ps[i]? = some x -> ∀ v, vs[i]? = some v -> Qn w Qi x v) (hl : vs.length = ps.length) : ∀ (i : Nat) (x : PV), ps[i]? = some x -> Qn w Qi x (vs.toArray.getD i undef) := by
 intro i x hx;have hi : i < vs.length := by rw [hl]; exact (List.getElem?_eq_some_iff.1 hx).1
 have := h i x hx vs[i] (List.getElem?_eq_getElem hi);simpa [Array.getD, hi] using this
end Go.Proofs.YtnhofjeojfgfoaaGreat
namespace Go.Proofs.YtnhofjeojfgfoaaGreat
open Go Go.FW Go.ChangeShapes Go.WideShapes Go.ChangeAt Go.RowKit
theorem Qd6 (H : Type) (enc : TypeId × Value -> H) (W : World) (base : Nat) (args : Array Value) (ds gs : List (DataW H)) (before : List MemPlace)
  (Qe9 : ∀ (j : Nat) t v, Tryz.f3.params[j]? = some t -> args[j]? = some v -> Value.okWide Tryz.prog W .any base t v)
  (hW : DataW.Whole enc Tryz.prog Tryz.f3.params.toList Rows.discoverCandidateSpec.vars false W args.toList ds gs before) (hk : Rows.uptoSmall H (ds ++ gs) = true) :
  Calls Tryz.prog 3 args W fun e W' => ∃ v, e = .returned v /\ Rows.discoverCandidateSpec.post enc Tryz.prog Tryz.f3 false true false false W args v W' := by
 have hW' := hW;obtain ⟨p, q, hA0, hV, rfl, hfz, hnd⟩ := hW;have hA : DataW.TrodAll enc Tryz.prog W 0 (fun _ => true) true Tryz.f3.params.toList args.toList ds p := hA0;rw [Tryz.params3] at hA Qe9;obtain ⟨v0, vs0, e0, ds0, p0, q0, hargs, rfl, rfl, h0, r0⟩ := trodAll_cons hA;obtain ⟨rfl, rfl, rfl⟩ := trodAll_nil r0;obtain rfl : args = #[v0] := by cases args; simp_all
 obtain ⟨rfl, rfl⟩ := trodVars_none hV;have hb := Qsx hk;simp only [List.append_nil, Rows.uptoBulkAll] at hb;obtain ⟨a0, g0, b0⟩ := Qx5 (Qe9 0 _ v0 rfl rfl) h0 (by omega);exact Qqb hW' rfl (by kernel_rfl) (by kernel_rfl) rfl (Qfk b0) rfl
  (Qsz (vs := [v0]) (by
   intro i x hx v hv
   match i, hx, hv with
   | 0, hx, hv => simp at hx hv; subst hx hv; exact g0
   | i + 1, hx, hv => simp at hx) rfl)
theorem Qeu (os : Os) (started : os.Started) (H : Type) (enc : TypeId × Value -> H) (F : Stop.Interp) :
  ReturnsInHanded {} Tryz.checked os 3 .any ((Rows.OpenSpec.upto Rows.discoverCandidateSpec).pre6 enc Tryz.prog Tryz.f3 Rows.discoverCandidateUptoRow.domain false) (((Rows.OpenSpec.upto Rows.discoverCandidateSpec).at F).post enc Tryz.prog Tryz.f3 false true false false) := by
 refine returnsInHanded_of_cond (C := Tryz.checked) (s := Rows.OpenSpec.upto Rows.discoverCandidateSpec) (k := Rows.uptoSmall) rfl own started (by kernel_rfl) Tryz.func3
  (OpenSpec.witness (enc := enc) (C := Tryz.checked) (s := Rows.OpenSpec.upto Rows.discoverCandidateSpec) (k := Rows.uptoSmall) rfl false ⟨#[], #[.int .u8 0], []⟩ 8 (by kernel_rfl) (by kernel_rfl) (by kernel_rfl)
   (x := ([.lit (.int .u8 0)], [], [])) (by kernel_rfl) rfl (by kernel_rfl)) ?_
 intro W base args ds gs before Qe9 hW _ hk _;exact Qd6 H enc W base args ds gs before Qe9 hW hk
theorem discoverCandidate_proved : Rows.DiscoverCandidateUptoSaid :=
 OpenClaim.holds_of_cond 3 Tryz.f3 rfl rfl rfl rfl rfl rfl rfl ⟨rfl, rfl, rfl, rfl, rfl⟩ rfl rfl rfl rfl rfl (by kernel_rfl) Tryz.func3 (by kernel_rfl)
  (of_decide_eq_true (by kernel_rfl)) (by unfold Func.isWrapper; first | (rw [if_pos (by decide +kernel)]; kernel_rfl) | (rw [if_neg (by decide +kernel)]; exact ⟨rfl, rfl⟩))
  (fun os started H enc _ F => Qeu os started H enc F)
end Go.Proofs.YtnhofjeojfgfoaaGreat
