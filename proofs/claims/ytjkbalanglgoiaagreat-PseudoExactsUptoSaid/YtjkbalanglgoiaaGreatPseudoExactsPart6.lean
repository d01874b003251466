/- Part 6 of the proof of PseudoExacts: W1, FwSM, FwUC. Own lemmas; no conditions. -/
import Derived.Test.YtjkbalanglgoiaaGreatPseudoExactsPart5
set_option linter.unusedSimpArgs false
set_option linter.unnecessarySimpa false
set_option linter.unusedVariables false
namespace Go.Proofs.YtjkbalanglgoiaaGreat
open Go Go.FW
set_option linter.unusedSimpArgs false
set_option linter.unusedVariables false
set_option maxRecDepth 100000
end Go.Proofs.YtjkbalanglgoiaaGreat
namespace Go.FW
open Go
variable {C : Ctx} {fr : Fr} {hp : HP} {w : World} {K R : Qh}
end Go.FW
namespace Go.FW
open Go
variable {C : Ctx} {fr : Fr} {hp : HP} {K : Qh}
theorem Qyl {z : List PV} {o n o2 n2 d β m e ty : Nat} {p : PV} {xs : List PV} {fz : Bool} (h : p.flat = true) (hb : hp β = some ⟨e, ty, xs, fz⟩) (hm : m = xs.length) (hB : isB β = false := by decide) :
    Qgo z [(o, n, p), (o2, n2, .ms β m)] d fr hp K = ((p.cells.length = n ∧ o + n ≤ z.length) ∧ (1 = n2 ∧ o2 + n2 ≤ z.length) ∧ K (upd fr d (.agg (Qc5 z [(o, p.cells), (o2, [.sl e xs])]))) (Qal hp [β])) := by
  obtain ⟨s1, s2, s3⟩ := Qdc (hp := hp) h
  have s4 : Q4 hp (.ms β m) = .sl e xs := by simp [Q4, Qbm, hB, hb, hm]
  have r4 : (PV.ms β m).refs = [β] := rfl
  have c4 : (PV.sl e xs).cells = [.sl e xs] := rfl
  have d4 : (PV.sl e xs).isData = true := rfl
  unfold Qgo Qtb
  apply propext
  simp only [List.mem_cons, List.not_mem_nil, or_false, forall_eq_or_imp, forall_eq, s1, s3, s4, d4, c4, List.length_cons, List.length_nil, true_and, List.map_cons, List.map_nil, List.flatMap_cons, List.flatMap_nil, s2, r4, List.nil_append, List.append_nil, and_assoc, Nat.zero_add]
end Go.FW
namespace Go.FW
open Go
theorem Qqp : ∀ {p : List Tm}, Qa1 p → ∀ n, Qa1 (p.take n)
  | _, _, 0 => trivial
  | [], _, n + 1 => trivial
  | t :: p, h, n + 1 => ⟨fun s hs => h.1 s (List.mem_of_mem_take hs), Qqp h.2 n⟩
theorem Nrm.take {p : List Tm} (h : Nrm p) (n : Nat) : Nrm (p.take n) := ⟨fun t ht => h.c t (List.mem_of_mem_take ht), fun t ht => h.z t (List.mem_of_mem_take ht), Qqp h.s n⟩
theorem Qqq {p : List Tm} (h : Nrm p) : Qki [] p = p := by rw [Q09 Nrm.nil h, Qd2]
theorem Qym {p : List Tm} (h : Nrm p) {i : Nat} (hi : i < p.length) : Qc6 (p.take i) p[i].1 p[i].2 = p.take (i + 1) := by
  have e := Qqq (h.take (i + 1))
  rwa [List.take_succ_eq_append_getElem hi, Qv5, Qqq (h.take i), ← List.take_succ_eq_append_getElem hi] at e
end Go.FW
