/- law46 DiscoverCandidates: the candidates that discover.Candidates lists are those of the reference. -/
import Derived.Test.YtohmbopehhgacaaDiscoverCandidatesPart6
import Derived.Test.YtohmbopehhgacaaRows
import Derived.WalkKit
import Derived.ProofKit
import Derived.OpenShut
import Derived.JoinedCond
set_option maxHeartbeats 1000000
set_option linter.unusedSimpArgs false
set_option linter.unusedVariables false
set_option linter.unnecessarySimpa false
set_option maxRecDepth 100000
namespace Go.Proofs.Ytohmbopehhgacaa
open Go Go.FW Go.ChangeShapes Go.WideShapes Go.ChangeAt Go.RowKit
theorem Qja {H : Type} {d : DataW H} {l : List (DataW H)} (h : d ∈ l) : Rows.uptoBulk d <= Rows.uptoBulkAll l := by
 induction l with
 | nil => cases h
 | cons x r ih =>
  simp only [Rows.uptoBulkAll];cases List.mem_cons.1 h with
  | inl e => subst e; omega
  | inr e => have := ih e; omega
theorem Qr8 {H : Type} (d : DataW H) : 1 <= Rows.uptoBulk d := by
 cases d with
 | lit l => cases l <;> simp [Rows.uptoBulk]
 | nil => simp [Rows.uptoBulk]
 | ptr d => simp [Rows.uptoBulk]
 | slice elems spare => simp [Rows.uptoBulk]
 | agg parts => simp [Rows.uptoBulk]
 | iface t d => simp [Rows.uptoBulk]
 | map entries => simp [Rows.uptoBulk]
 | held h => simp [Rows.uptoBulk]
theorem Qld {H : Type} (l : List (DataW H)) : l.length <= Rows.uptoBulkAll l := by
 induction l with
 | nil => simp [Rows.uptoBulkAll]
 | cons x r ih => have := Qr8 x; simp only [Rows.uptoBulkAll, List.length_cons]; omega
theorem Qcm {H : Type} : Qyn (H := H) Rows.uptoBulk := by
 refine ⟨fun elems spare =>?_, fun elems spare d hd =>?_, fun parts d hd =>?_⟩
 ·have := Qld elems;simp only [Rows.uptoBulk]; omega
 ·have := Qja hd;simp only [Rows.uptoBulk]; omega
 ·have := Qja hd;simp only [Rows.uptoBulk]; omega
theorem Qr9 {H : Type} {l : List (DataW H)} (hk : Rows.uptoSmall H l = true) : Rows.uptoBulkAll l <= 1048576 := of_decide_eq_true hk
theorem own : ownKnob Try.prog.godebug = none := by kernel_rfl
theorem Qyx : laidOutB Try.prog = true := by kernel_rfl
theorem Qwv : mapsRowed Try.prog = true := by kernel_rfl
def Qpt (P : Program) : Bool := (List.range P.types.size).all fun t => match P.underlying t with | some (.slice e) => decide (0 < P.cellsOf e) | _ => true
theorem Qx7 : Qpt Try.prog = true := by kernel_rfl
theorem Qww {t e : TypeId} (ht : t < Try.prog.types.size) (he : Try.prog.underlying t = some (.slice e)) : 0 < Try.prog.cellsOf e := by have h := Qx7;simp only [Qpt, List.all_eq_true] at h;have := h t (List.mem_range.2 ht);rw [he] at this;exact of_decide_eq_true this
variable {H : Type} {enc : TypeId × Value -> H}
variable {w : World} {base : Nat} {spare : Nat -> Bool} {held : Bool} {r : Reach} {b0 : Nat} {v : Value} {d : DataW H} {ps : List MemPlace}
theorem Qud (Qe9 : Value.okWide Try.prog w r b0 3 v) (hd : DataW.Trod enc Try.prog w base spare held 3 v d ps) (hn : Rows.uptoBulk d <= 1048576) : ∃ n : Int, Qk w Qm (.int .i64 n) v /\ -9223372036854775808 <= n /\ n <= 9223372036854775807 := by
 obtain ⟨p, ⟨n, e, h⟩, h2⟩ := FW.Qti Try.underlying3 Qe9 (Qo2 Try.underlying3) hd hn;obtain rfl : p = .int .i64 n := by simpa using e
 exact ⟨n, h2, h⟩
theorem Qpu {f : FuncId} {fn : Func} {s : ChangeSpec} {ap fresh handsOn Qgo : Bool} {W : World} {args : Array Value} {ds gs : List (DataW H)} {before : List MemPlace} {pargs : List PV}
  (hW : DataW.Whole enc Try.prog fn.params.toList s.vars ap W args.toList ds gs before) (hvars : s.vars = []) (hres : fn.resultTypes = #[4]) (hpar : (fn.params.toList.all fun t => decide (t < Try.prog.types.size)) = true)
  (hfn : s.fn H (ds ++ gs) = { results := [.lit (.bool true)], args := ds })
  (hF : Qo Try.prog f pargs (· = .bool true)) (hsize : args.size = pargs.length) (hrep : ∀ (i : Nat) (x : PV), pargs[i]? = some x -> Qk W Qm x (args.getD i undef)) :
  Calls Try.prog f args W fun e W' => ∃ v, e = .returned v /\ s.post enc Try.prog fn ap fresh handsOn Qgo W args v W' := by
 simp only [List.all_eq_true, decide_eq_true_eq] at hpar;exact Qkr hW hvars hres Try.underlying4 Qyx Qwv (fun h1 h2 => Qww h1 h2) hpar hfn hF hsize hrep
theorem Qsa {w : World} {ps : List PV} {vs : List Value} (h : ∀ (i : Nat) (x : PV), ps[i]? = some x -> ∀ v, vs[i]? = some v -> Qk w Qm x v) (hl : vs.length = ps.length) : ∀ (i : Nat) (x : PV), ps[i]? = some x -> Qk w Qm x (vs.toArray.getD i undef) := by
 intro i x hx;have hi : i < vs.length := by rw [hl]; exact (List.getElem?_eq_some_iff.1 hx).1
 have := h i x hx vs[i] (List.getElem?_eq_getElem hi);simpa [Array.getD, hi] using this
end Go.Proofs.Ytohmbopehhgacaa
namespace Go.Proofs.Ytohmbopehhgacaa
open Go Go.FW Go.ChangeShapes Go.WideShapes Go.ChangeAt Go.RowKit
theorem Qd6 (H : Type) (enc : TypeId × Value -> H) (W : World) (base : Nat) (args : Array Value) (ds gs : List (DataW H)) (before : List MemPlace)
  (Qe9 : ∀ (j : Nat) t v, Try.f3.params[j]? = some t -> args[j]? = some v -> Value.okWide Try.prog W .any base t v)
  (hW : DataW.Whole enc Try.prog Try.f3.params.toList Rows.discoverCandidatesSpec.vars false W args.toList ds gs before) (hk : Rows.uptoSmall H (ds ++ gs) = true) :
  Calls Try.prog 3 args W fun e W' => ∃ v, e = .returned v /\ Rows.discoverCandidatesSpec.post enc Try.prog Try.f3 false true false false W args v W' := by
 have hW' := hW;obtain ⟨p, q, hA0, hV, rfl, hfz, hnd⟩ := hW;have hA : DataW.TrodAll enc Try.prog W 0 (fun _ => true) true Try.f3.params.toList args.toList ds p := hA0;rw [Try.params3] at hA Qe9;obtain ⟨v0, vs0, e0, ds0, p0, q0, hargs, rfl, rfl, h0, r0⟩ := trodAll_cons hA;obtain ⟨rfl, rfl, rfl⟩ := trodAll_nil r0;obtain rfl : args = #[v0] := by cases args; simp_all
 obtain ⟨rfl, rfl⟩ := trodVars_none hV;have hb := Qr9 hk;simp only [List.append_nil, Rows.uptoBulkAll] at hb;obtain ⟨a0, g0, b0⟩ := Qud (Qe9 0 _ v0 rfl rfl) h0 (by omega);exact Qpu hW' rfl (by kernel_rfl) (by kernel_rfl) rfl (Qfb Qx6 b0.1 b0.2) rfl
  (Qsa (vs := [v0]) (by
   intro i x hx v hv
   match i, hx, hv with
   | 0, hx, hv => simp at hx hv; subst hx hv; exact g0
   | i + 1, hx, hv => simp at hx) rfl)
theorem Qeg (os : Os) (started : os.Started) (H : Type) (enc : TypeId × Value -> H) (F : Stop.Interp) :
  ReturnsInHanded {} Try.checked os 3 .any ((Rows.OpenSpec.upto Rows.discoverCandidatesSpec).pre6 enc Try.prog Try.f3 Rows.discoverCandidatesUptoRow.domain false) (((Rows.OpenSpec.upto Rows.discoverCandidatesSpec).at F).post enc Try.prog Try.f3 false true false false) := by
 refine returnsInHanded_of_cond (C := Try.checked) (s := Rows.OpenSpec.upto Rows.discoverCandidatesSpec) (k := Rows.uptoSmall) rfl own started (by kernel_rfl) Try.func3
  (OpenSpec.witness (enc := enc) (C := Try.checked) (s := Rows.OpenSpec.upto Rows.discoverCandidatesSpec) (k := Rows.uptoSmall) rfl false ⟨#[], #[.int .i64 0], []⟩ 8 (by kernel_rfl) (by kernel_rfl) (by kernel_rfl)
   (x := ([.lit (.int .i64 0)], [], [])) (by kernel_rfl) rfl (by kernel_rfl)) ?_
 intro W base args ds gs before Qe9 hW _ hk _;exact Qd6 H enc W base args ds gs before Qe9 hW hk
theorem discoverCandidates_proved : Rows.DiscoverCandidatesUptoSaid :=
 OpenClaim.holds_of_cond 3 Try.f3 rfl rfl rfl rfl rfl rfl rfl ⟨rfl, rfl, rfl, rfl, rfl⟩ rfl rfl rfl rfl rfl (by kernel_rfl) Try.func3 (by kernel_rfl)
  (of_decide_eq_true (by kernel_rfl)) (by unfold Func.isWrapper; first | (rw [if_pos (by decide +kernel)]; kernel_rfl) | (rw [if_neg (by decide +kernel)]; exact ⟨rfl, rfl⟩))
  (fun os started H enc _ F => Qeg os started H enc F)
end Go.Proofs.Ytohmbopehhgacaa
