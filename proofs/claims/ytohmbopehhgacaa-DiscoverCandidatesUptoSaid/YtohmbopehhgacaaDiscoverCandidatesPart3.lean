/- Part 3 of the proof of DiscoverCandidates: FwCD, FwCE, FwCF, FwCG, FwCH, FwCI, FwCJ, FwCK, FwCL, FwMA, FwMB, FwMC, FwPA, FwPB, FwPC, FwSA, FwSB, FwSC, FwTA, FwSet, FwSt, FwUB, FwNA, FwNB, FwND, FwNE, FwNF, FwSu. Own lemmas; no conditions. -/
import Derived.Test.YtohmbopehhgacaaDiscoverCandidatesPart2
import Derived.ChangeSame
import Derived.ChangeStays
import Derived.Deep.Slices
import Derived.OpenShut
import Derived.RowKit
import Derived.ProofKit
import Derived.JoinedCond
set_option maxHeartbeats 1000000
set_option linter.unusedSimpArgs false
set_option linter.unusedVariables false
set_option linter.unnecessarySimpa false
set_option maxRecDepth 100000
namespace Go.FW
open Go
variable {C : Ctx} {fr : Fr} {hp : HP} {w : World} {K R : Qa}
theorem Qu9 :
  (∀ (β : Nat) (cs : List PV), Qn β (.pt cs) = .pt cs) /\ (∀ (β : Nat), Qn β .undef = .undef) /\ (∀ (β : Nat) (cs : List PV), Qn β (.tup cs) = .tup cs) /\
  (∀ (cs : List PV), (PV.pt cs).refs = []) /\ (PV.undef.refs = []) /\ (∀ (cs : List PV), (PV.tup cs).refs = []) /\
  (∀ (hp : HP) (cs : List PV), Qh hp (.pt cs) = .pt cs) /\ (∀ (hp : HP) (cs : List PV), Qh hp (.tup cs) = .tup cs) /\
  (∀ (β f : Nat) (a b : List PV), Qn β (.fn f a b) = if (a.flatMap PV.ref1 ++ b.flatMap PV.ref1).contains β then .undef else .fn f a b) /\
  (∀ (β o n : Nat), (PV.mso β o n).ref1 = [β]) /\ (∀ (β o n : Nat), (PV.rb β o n).ref1 = [β]) /\ (∀ (β o n : Nat), (PV.mp β o n).ref1 = [β]) /\
  (∀ (k : IntKind) (n : Int), (PV.int k n).ref1 = []) /\ (∀ (b : Bool), (PV.bool b).ref1 = []) /\ (∀ (e : Nat) (xs : List PV), (PV.sl e xs).ref1 = []) /\ (PV.nilS.ref1 = []) /\ (∀ (xs : List PV), (PV.pt xs).ref1 = []) := by
 refine ⟨fun _ _ => rfl, fun _ => rfl, fun _ _ => rfl, fun _ => rfl, rfl, fun _ => rfl, fun _ _ => rfl, fun _ _ => rfl, fun _ _ _ _ => rfl, fun _ _ _ => rfl, fun _ _ _ => rfl, fun _ _ _ => rfl, fun _ _ => rfl, fun _ => rfl, fun _ _ => rfl, rfl, fun _ => rfl⟩
theorem Qyc :
  (∀ (ty d e : Nat) (xs : List PV) (fr : Fr) (hp : HP) (K : Qa), Qbb 1 ty (.sl e xs) d fr hp K = K (upd (Qy d fr) d (.mp d 0 0)) (Qe hp d ⟨1, ty, [.sl e xs], false⟩)) /\
  (∀ (ty d : Nat) (k : IntKind) (x : Int) (fr : Fr) (hp : HP) (K : Qa), Qbb 1 ty (.int k x) d fr hp K = K (upd (Qy d fr) d (.mp d 0 0)) (Qe hp d ⟨1, ty, [.int k x], false⟩)) /\
  (∀ (ty d : Nat) (x : Bool) (fr : Fr) (hp : HP) (K : Qa), Qbb 1 ty (.bool x) d fr hp K = K (upd (Qy d fr) d (.mp d 0 0)) (Qe hp d ⟨1, ty, [.bool x], false⟩)) /\
  (∀ (ty d : Nat) (fr : Fr) (hp : HP) (K : Qa), Qbb 1 ty .nilS d fr hp K = K (upd (Qy d fr) d (.mp d 0 0)) (Qe hp d ⟨1, ty, [.nilS], false⟩)) /\
  (∀ (n ty d o m : Nat) (fr : Fr) (hp : HP) (K : Qa), Qbb n ty (.mso 1000000 o m) d fr hp K = K (upd fr d (.rb 1000000 o m)) hp) /\
  (∀ (n ty d : Nat) (x : PV) (cs : List PV) (fr : Fr) (hp : HP) (K : Qa), Qbb n ty (.agg (x :: cs)) d fr hp K = (cs.length + 1 = n /\ K (upd (Qy d fr) d (.mp d 0 0)) (Qe hp d ⟨n, ty, [.agg (x :: cs)], false⟩))) /\
  (∀ (ty d : Nat) (x : PV) (fz : Bool) (fr : Fr) (hp : HP) (K : Qa), ldM (some ⟨1, ty, [x], fz⟩) 1 false 0 0 d fr hp K = K (upd fr d (ldV false 1 0 x)) hp) /\
  (∀ (ty β e : Nat) (x : PV) (xs : List PV) (fr : Fr) (hp : HP) (K : Qa), stM (some ⟨1, ty, [x], false⟩) β 1 0 0 (.sl e xs) fr hp K = K fr (Qe hp β ⟨1, ty, [.sl e xs], false⟩)) /\
  (∀ (ty β : Nat) (x : PV) (k : IntKind) (y : Int) (fr : Fr) (hp : HP) (K : Qa), stM (some ⟨1, ty, [x], false⟩) β 1 0 0 (.int k y) fr hp K = K fr (Qe hp β ⟨1, ty, [.int k y], false⟩)) /\
  (∀ (ty β : Nat) (x : PV) (y : Bool) (fr : Fr) (hp : HP) (K : Qa), stM (some ⟨1, ty, [x], false⟩) β 1 0 0 (.bool y) fr hp K = K fr (Qe hp β ⟨1, ty, [.bool y], false⟩)) /\
  (∀ (ty β : Nat) (x : PV) (fr : Fr) (hp : HP) (K : Qa), stM (some ⟨1, ty, [x], false⟩) β 1 0 0 .nilS fr hp K = K fr (Qe hp β ⟨1, ty, [.nilS], false⟩)) /\
  (∀ (e : Nat) (xs : List PV), ldV false 1 0 (.sl e xs) = .sl e xs) /\ (∀ (k : IntKind) (x : Int), ldV false 1 0 (.int k x) = .int k x) /\ (∀ (x : Bool), ldV false 1 0 (.bool x) = .bool x) /\ (ldV false 1 0 .nilS = .nilS) := by
 have fz : ∀ hp : HP, Ql hp [] = hp := fun _ => rfl;refine ⟨fun _ _ _ _ _ _ _ =>?_, fun _ _ _ _ _ _ _ =>?_, fun _ _ _ _ _ _ =>?_, fun _ _ _ _ _ =>?_, fun _ _ _ _ _ _ _ _ => Qur (by decide), fun n ty d x cs fr hp K =>?_, fun _ _ _ _ _ _ _ =>?_, fun _ _ _ _ _ _ _ _ =>?_, fun _ _ _ _ _ _ _ _ =>?_, fun _ _ _ _ _ _ _ =>?_, fun _ _ _ _ _ _ =>?_, fun _ _ => rfl, fun _ _ => rfl, fun _ => rfl, rfl⟩
 ·simp [Qbb, Qh, Qw, PV.isData, PV.cells, PV.refs, fz]
 ·simp [Qbb, Qh, Qw, PV.isData, PV.cells, PV.refs, fz]
 ·simp [Qbb, Qh, Qw, PV.isData, PV.cells, PV.refs, fz]
 ·simp [Qbb, Qh, Qw, PV.isData, PV.cells, PV.refs, fz]
 ·apply propext;simp only [Qbb, Qh, Qw, PV.isData, PV.cells, PV.refs, List.length_cons, fz];exact ⟨fun ⟨_, h1, _, h2⟩ => ⟨h1, h2⟩, fun ⟨h1, h2⟩ => ⟨trivial, h1, by omega, h2⟩⟩
 all_goals simp [ldM, stM, PV.isData, PV.cells]
end Go.FW
namespace Go.FW
open Go
variable {C : Ctx} {fr : Fr} {hp : HP} {w : World} {K R : Qa}
theorem Qfx {x y : RT} {sk : List It} (h1 : vc C R (.o x :: sk) fr hp) (h2 : vc C R (.o y :: sk) fr hp) : brV C R x y sk fr hp := ⟨h1, h2⟩
end Go.FW
namespace Go.FW
def Qkp (V W : List (Nat × Nat)) : Bool := V.all fun p => W.any fun q => decide (q.1 <= p.1) && decide (p.2 <= q.2)
theorem Qoy {V W : List (Nat × Nat)} (h : Qkp V W = true) {s : Nat} (hs : inW V s = true) : inW W s = true := by
 induction V with
 | nil => cases hs
 | cons p V ih =>
  simp only [Qkp, List.all_cons, Bool.and_eq_true] at h;rw [Qfw, Bool.or_eq_true] at hs;rcases hs with hs | hs
  ·obtain ⟨q, hq, hq2⟩ := List.any_eq_true.1 h.1;simp only [Bool.and_eq_true, decide_eq_true_eq] at hq2 hs;clear h ih;induction W with
   | nil => cases hq
   | cons r W ih =>
    rw [Qfw, Bool.or_eq_true];rcases List.mem_cons.1 hq with rfl | hq
    ·left; simp only [Bool.and_eq_true, decide_eq_true_eq]; omega
    ·right; exact ih hq
  ·exact ih h.2 hs
theorem Qei {V W : List (Nat × Nat)} {X Z F : Fr} (h : Qkp V W = true) : ovr V X (ovr W Z F) = ovr W (ovr V X Z) F := by
 funext s;unfold ovr;by_cases h1 : inW V s = true
 ·simp [h1, Qoy h h1]
 ·simp [h1]
open Go
variable {C : Ctx} {fr : Fr} {hp : HP} {w : World} {K R : Qa}
theorem Qyd : (∀ (C : Ctx) (d : Nat) (ng : Bool) (x y : Opd) (fr : Fr) (hp : HP) (K : Qa), opV C (.eqs d ng x y) fr hp K = Qe5 ng (ev fr x) (ev fr y) d fr hp K) /\
  (∀ (k l : IntKind) (x y x' y' : Int) (d : Nat) (fr : Fr) (hp : HP) (K : Qa), Qe5 false (.agg [.int k x, .int l y]) (.agg [.int k x', .int l y']) d fr hp K = K (upd fr d (.bool (decide (x = x') && decide (y = y')))) hp) /\
  (∀ (k l : IntKind) (x y x' y' : Int) (d : Nat) (fr : Fr) (hp : HP) (K : Qa), Qe5 true (.agg [.int k x, .int l y]) (.agg [.int k x', .int l y']) d fr hp K = K (upd fr d (.bool (!(decide (x = x') && decide (y = y'))))) hp) :=
 ⟨fun _ _ _ _ _ _ _ _ => rfl, fun _ _ _ _ _ _ _ _ _ _ => by simp [Qe5], fun _ _ _ _ _ _ _ _ _ _ => by simp [Qe5]⟩
theorem Qye : (∀ (C : Ctx) (d : Nat) (ng : Bool) (x y : Opd) (fr : Fr) (hp : HP) (K : Qa), opV C (.sqs d ng x y) fr hp K = Qe6 ng (ev fr x) (ev fr y) d fr hp K) /\
  (∀ (C : Ctx) (d : Nat) (x : Opd) (fr : Fr) (hp : HP) (K : Qa), opV C (.sln d x) fr hp K = Qg0 (ev fr x) d fr hp K) /\
  (∀ (C : Ctx) (d : Nat) (x i : Opd) (fr : Fr) (hp : HP) (K : Qa), opV C (.six d x i) fr hp K = Qf5 (ev fr x) (ev fr i) d fr hp K) /\
  (∀ (x y : ByteArray) (d : Nat) (fr : Fr) (hp : HP) (K : Qa), Qe6 false (.str x) (.str y) d fr hp K = K (upd fr d (.bool (decide (x = y)))) hp) /\
  (∀ (x y : ByteArray) (d : Nat) (fr : Fr) (hp : HP) (K : Qa), Qe6 true (.str x) (.str y) d fr hp K = K (upd fr d (.bool (!decide (x = y)))) hp) /\
  (∀ (x : ByteArray) (d : Nat) (fr : Fr) (hp : HP) (K : Qa), Qg0 (.str x) d fr hp K = K (upd fr d (.int .i64 x.size)) hp) :=
 ⟨fun _ _ _ _ _ _ _ _ => rfl, fun _ _ _ _ _ _ => rfl, fun _ _ _ _ _ _ _ => rfl, fun _ _ _ _ _ _ => by simp [Qe6], fun _ _ _ _ _ _ => by simp [Qe6], fun _ _ _ _ _ => rfl⟩
theorem Qva {s : ByteArray} {k : IntKind} {i : Nat} {d : Nat} (h : i < s.size) : Qf5 (.str s) (.int k i) d fr hp K = K (upd fr d (.int .u8 (s.get! i).toNat)) hp := by simp [Qf5, h]
theorem Qq1 {α : Type} {f : α -> PV} {e d : Nat} {k : IntKind} {xs : List α} (h : 0 < xs.length) : Qbg e (.sl e (xs.map f)) (.int k 0) d fr hp K = K (upd fr d (.pt (f (xs[0]'h)).cells)) hp := by rw [Qgp (by omega) (by omega)]; rfl
theorem Qq2 {α : Type} {f : α -> PV} {e d : Nat} {k : IntKind} {xs : List α} (h : 1 < xs.length) : Qbg e (.sl e (xs.map f)) (.int k 1) d fr hp K = K (upd fr d (.pt (f (xs[1]'h)).cells)) hp := by rw [Qgp (by omega) (by omega)]; rfl
theorem Qq3 {e d : Nat} {k : IntKind} {x : PV} {xs : List PV} : Qbg e (.sl e (x :: xs)) (.int k 0) d fr hp K = K (upd fr d (.pt x.cells)) hp := by rw [Qgf (by omega) (by simp only [List.length_cons]; omega)]; rfl
theorem Qq4 {e d : Nat} {k : IntKind} {x y : PV} {xs : List PV} : Qbg e (.sl e (x :: y :: xs)) (.int k 1) d fr hp K = K (upd fr d (.pt y.cells)) hp := by rw [Qgf (by omega) (by simp only [List.length_cons]; omega)]; rfl
def PV.flat : PV -> Bool
 |.int .. | .bool _ | .nilS | .sl .. | .agg _ | .pt _ | .str _ => true
 | _ => false
theorem Qq5 : ∀ s, (PV.str s).flat = true := fun _ => rfl
theorem Qq6 : ∀ s, (PV.str s).isData = true := fun _ => rfl
theorem Qw7 : (∀ (k : IntKind) (n : Int), (PV.int k n).flat = true) /\ (∀ b, (PV.bool b).flat = true) /\ (PV.nilS.flat = true) /\ (∀ (e : Nat) (xs : List PV), (PV.sl e xs).flat = true) /\ (∀ xs, (PV.agg xs).flat = true) /\ (∀ xs, (PV.pt xs).flat = true) :=
 ⟨fun _ _ => rfl, fun _ => rfl, rfl, fun _ _ => rfl, fun _ => rfl, fun _ => rfl⟩
theorem Qw8 : (∀ (k : IntKind) (n : Int), (PV.int k n).isData = true) /\ (∀ b, (PV.bool b).isData = true) /\ (PV.nilS.isData = true) /\ (∀ (e : Nat) (xs : List PV), (PV.sl e xs).isData = true) /\ (∀ xs, (PV.agg xs).isData = true) /\ (∀ xs, (PV.pt xs).isData = true) :=
 ⟨fun _ _ => rfl, fun _ => rfl, rfl, fun _ _ => rfl, fun _ => rfl, fun _ => rfl⟩
theorem Qbx {p : PV} (h : p.flat = true) : Qh hp p = p /\ p.refs = [] /\ p.isData = true := by cases p <;> first | (cases h; done) | exact ⟨rfl, rfl, rfl⟩
theorem Qci {e ty d : Nat} {ps : List PV} (h : ps.all PV.flat = true) (hl : ∀ p ∈ ps, p.cells.length = e) (he : 0 < e) : bsK e ty ps d fr hp K = K (upd (Qy d fr) d (.ms d ps.length)) (Qe hp d ⟨e, ty, ps, false⟩) := by
 have h' := List.all_eq_true.1 h;have e1 : ps.map (Qh hp) = ps := by
  conv => rhs; rw [<- List.map_id ps]
  exact List.map_congr_left fun p hp' => (Qbx (h' p hp')).1
 have e2 : ps.flatMap PV.refs = [] := by rw [List.flatMap_eq_nil_iff]; exact fun p hp' => (Qbx (hp := hp) (h' p hp')).2.1
 have e3 : Qh8 hp e ps := fun p hp' => by obtain ⟨h1, _, h3⟩ := Qbx (hp := hp) (h' p hp');rw [h1]; exact ⟨h3, hl p hp'⟩
 have hbg : Qd9 ps = false := by
  unfold Qd9;split
  ·rename_i x;have := List.all_eq_true.1 h x (by simp);unfold Qbm;split
   ·cases this
   ·rfl
  ·rfl
 simp only [bsK, hbg, Bool.false_eq_true, if_false, bsO, e1, e2, e3, he, true_and];rfl
theorem bs1 {e ty d : Nat} {p : PV} (h : p.flat = true) (hl : p.cells.length = e) (he : 0 < e) : bsK e ty [p] d fr hp K = K (upd (Qy d fr) d (.ms d 1)) (Qe hp d ⟨e, ty, [p], false⟩) :=
 Qci (by simp [h]) (by simpa using hl) he
theorem bs2 {e ty d : Nat} {p q : PV} (h : p.flat = true) (h2 : q.flat = true) (hl : p.cells.length = e) (hl2 : q.cells.length = e) (he : 0 < e) : bsK e ty [p, q] d fr hp K = K (upd (Qy d fr) d (.ms d 2)) (Qe hp d ⟨e, ty, [p, q], false⟩) :=
 Qci (by simp [h, h2]) (by simp [hl, hl2]) he
end Go.FW
namespace Go.FW
open Go
variable {C : Ctx} {fr : Fr} {hp : HP} {w : World} {K R : Qa}
theorem Qq7 {e ty n : Nat} {fz : Bool} {o d : Nat} {x : PV} (h : o + n <= e) : ldM (some ⟨e, ty, [x], fz⟩) n true 0 o d fr hp K = K (upd fr d (ldV true n o x)) hp := Qln h (by simp)
theorem Qq8 {e ty : Nat} {fz : Bool} {o d : Nat} {x : PV} (h : o + 1 <= e) : ldM (some ⟨e, ty, [x], fz⟩) 1 false 0 o d fr hp K = K (upd fr d (ldV false 1 o x)) hp := Qln h (by simp)
theorem Qw9 (n o : Nat) (cs : List PV) : ldV true n o (.agg cs) = .agg ((cs.drop o).take n) := rfl
theorem Qxa (n o : Nat) (cs : List PV) : ldV false n o (.agg cs) = (cs.drop o).headD .undef := rfl
theorem Qmx (n ty β : Nat) (x : PV) (cs : List PV) : stM (some ⟨n, ty, [x], false⟩) β n 0 0 (.agg cs) fr hp K = (cs.length = n /\ K fr (Qe hp β ⟨n, ty, [.agg cs], false⟩)) := by simp [stM, PV.isData, PV.cells]
theorem Qq9 {e n ty β o : Nat} {x v : PV} (h : v.flat = true) (hn : ¬ n = e) (hl : v.cells.length = n) (ho : o + n <= e) : stM (some ⟨e, ty, [x], false⟩) β n 0 o v fr hp K = K fr (Qe hp β ⟨e, ty, [stV x o v], false⟩) := by have := (Qbx (hp := hp) h).2.2;simp [stM, this, hl, ho, hn]
theorem Qs8 (cs : List PV) (o : Nat) (v : PV) : stV (.agg cs) o v = .agg (cs.take o ++ v.cells ++ cs.drop (o + v.cells.length)) := rfl
theorem Qoz : (PV.nilS).cells = [.nilS] := rfl
theorem Qhv {p : PV} (h : p.flat = true) : p.isNst = false := by cases p <;> simp_all [PV.flat, PV.isNst]
theorem Qfy {z : List PV} {ps : List (Nat × Nat × PV)} {d : Nat} (h : ps.all (fun p => p.2.2.flat) = true) :
  Qcp z ps d fr hp K = ((∀ p ∈ ps, p.2.2.cells.length = p.2.1 /\ p.1 + p.2.1 <= z.length) /\ K (upd fr d (.agg (Qa6 z (ps.map fun p => (p.1, p.2.2.cells))))) hp) := by
 have h' := List.all_eq_true.1 h;have e1 : (ps.map fun p => (p.1, (Qh hp p.2.2).cells)) = ps.map fun p => (p.1, p.2.2.cells) := List.map_congr_left fun p hp' => by rw [(Qbx (h' p hp')).1]
 have e2 : (ps.flatMap fun p => p.2.2.refs) = [] := by rw [List.flatMap_eq_nil_iff]; exact fun p hp' => (Qbx (hp := hp) (h' p hp')).2.1
 have e3 : Qjt hp z.length ps = (∀ p ∈ ps, p.2.2.cells.length = p.2.1 /\ p.1 + p.2.1 <= z.length) := by
  apply propext;constructor
  ·intro H p hp';obtain ⟨_, h2, h3⟩ := H p hp';rw [(Qbx (h' p hp')).1] at h2; exact ⟨h2, h3⟩
  ·intro H p hp';obtain ⟨h2, h3⟩ := H p hp';obtain ⟨g1, _, g3⟩ := Qbx (hp := hp) (h' p hp');rw [g1]; exact ⟨g3, h2, h3⟩
 have e4 : ps.any (fun p => p.2.2.isNst) = false := by rw [List.any_eq_false]; exact fun p hp' => by simp [Qhv (h' p hp')]
 simp only [Qcp, e4, Qhf, e1, e2, e3, Bool.false_eq_true, if_false];rfl
theorem Qyf (z : List PV) (d : Nat) : Qcp z [] d fr hp K = K (upd fr d (.agg z)) hp := by rw [Qfy rfl]; simp [Qa6]
theorem Qyg {z : List PV} {o n d : Nat} {p : PV} (h : p.flat = true) : Qcp z [(o, n, p)] d fr hp K = ((p.cells.length = n /\ o + n <= z.length) /\ K (upd fr d (.agg (z.take o ++ p.cells ++ z.drop (o + p.cells.length)))) hp) := by rw [Qfy (by simp [h])]; simp [Qa6]
theorem Qyh {z : List PV} {o n o2 n2 d : Nat} {p q : PV} (h : p.flat = true) (h2 : q.flat = true) : Qcp z [(o, n, p), (o2, n2, q)] d fr hp K =
  ((p.cells.length = n /\ o + n <= z.length) /\ (q.cells.length = n2 /\ o2 + n2 <= z.length) /\ K (upd fr d (.agg (Qa6 z [(o, p.cells), (o2, q.cells)]))) hp) := by
 rw [Qfy (by simp [h, h2])]; simp [and_assoc]
theorem Qyi {z : List PV} {o n o2 n2 o3 n3 d : Nat} {p q r : PV} (h : p.flat = true) (h2 : q.flat = true) (h3 : r.flat = true) : Qcp z [(o, n, p), (o2, n2, q), (o3, n3, r)] d fr hp K =
  ((p.cells.length = n /\ o + n <= z.length) /\ (q.cells.length = n2 /\ o2 + n2 <= z.length) /\ (r.cells.length = n3 /\ o3 + n3 <= z.length) /\ K (upd fr d (.agg (Qa6 z [(o, p.cells), (o2, q.cells), (o3, r.cells)]))) hp) := by
 rw [Qfy (by simp [h, h2, h3])]; simp [and_assoc]
theorem Qo0 (c : List PV) : Qa6 c [] = c := rfl
theorem Qmy (c xs : List PV) (o : Nat) (r : List (Nat × List PV)) : Qa6 c ((o, xs) :: r) = Qa6 (c.take o ++ xs ++ c.drop (o + xs.length)) r := rfl
def Qjk (p : PV) (hp : HP) (n : Nat) (ag : Bool) : PV := match p with
 |.mp β i o => match hp β with
  | some hb => if i < hb.xs.length /\ o + n <= hb.e /\ (ag = false -> n = 1) then ldV ag n o ((hb.xs[i]?).getD .undef) else .undef
  | none =>.undef
 | _ =>.undef
def gv (fr : Fr) (hp : HP) : RV -> PV
 |.t s => Qh hp (fr s)
 |.cell s n ag => Qjk (fr s) hp n ag
def Qhw (hb : Option HB) (n : Nat) (ag : Bool) (i o : Nat) : PV := match hb with
  | some hb => if i < hb.xs.length /\ o + n <= hb.e /\ (ag = false -> n = 1) then ldV ag n o ((hb.xs[i]?).getD .undef) else .undef
  | none =>.undef
theorem Qyj (fr : Fr) (hp : HP) (s : Nat) : gv fr hp (.t s) = Qh hp (fr s) := rfl
theorem Qyk (fr : Fr) (hp : HP) (s n : Nat) (ag : Bool) : gv fr hp (.cell s n ag) = Qjk (fr s) hp n ag := rfl
theorem Qra (hp : HP) (n : Nat) (ag : Bool) (β i o : Nat) : Qjk (.mp β i o) hp n ag = Qhw (hp β) n ag i o := rfl
theorem Qs9 {e ty n o : Nat} {fz : Bool} {x : PV} (h : o + n <= e) : Qhw (some ⟨e, ty, [x], fz⟩) n true 0 o = ldV true n o x := by simp [Qhw, h]
theorem Qta {e ty o : Nat} {fz : Bool} {x : PV} (h : o + 1 <= e) : Qhw (some ⟨e, ty, [x], fz⟩) 1 false 0 o = ldV false 1 o x := by simp [Qhw, h]
theorem Qxb {r : RV} (h : (gv fr hp r).isData = true) : okR fr hp r /\ rvP fr hp r = gv fr hp r := by
 cases r with
 | t s => exact ⟨h, rfl⟩
 | cell s n ag =>
  simp only [gv, okR, rvP] at h ⊢;cases hfs : fr s with
  | mp β i o =>
   rw [hfs] at h;simp only [Qjk] at h ⊢;cases hβ : hp β with
   | none => rw [hβ] at h; cases h
   | some hb =>
    rw [hβ] at h;simp only at h ⊢;split at h
    ·rename_i hc;rw [if_pos hc]; exact ⟨hc, rfl⟩
    ·cases h
  | _ => rw [hfs] at h; cases h
theorem Qe2 {r : RV} {Rr : PV -> Prop} (h : Qmp Rr (gv fr hp r)) : Qce [r] Rr fr hp := by obtain ⟨h1, h2⟩ := Qxb h.1;exact ⟨h1, by rw [h2]; exact h.2⟩
end Go.FW
namespace Go.FW
open Go
def zv (n : Bool) (a : List Nat) : Int := if n then -(val a : Int) else val a
def Qyl (x y : Int) : Int := if x < y then -1 else if y < x then 1 else 0
variable {C : Ctx} {fr : Fr} {hp : HP} {w : World} {K R : Qa}
def Qmz (hb : Option HB) (o n : Nat) : PV := match hb with
 | some hb =>.sl hb.e ((hb.xs.drop o).take n)
 | none =>.undef
theorem Qt : (∀ (hp : HP) (β o n : Nat), Qh hp (.mso β o n) = if isY β = true then .undef else Qmz (hp β) o n) /\
  (∀ (e ty o n : Nat) (xs : List PV) (fz : Bool), Qmz (some ⟨e, ty, xs, fz⟩) o n = .sl e ((xs.drop o).take n)) /\
  (∀ (β : Nat), isY β = (decide (1000000 <= β) && decide (β < 2000000))) /\
  (∀ (hp : HP) (l : List Nat) (β : Nat), FW.Ql hp l β = if l.contains β = true then (hp β).map (fun hb => { hb with fz := true }) else hp β) := by
 refine ⟨fun hp β o n =>?_, fun _ _ _ _ _ _ => rfl, fun _ => rfl, fun _ _ _ => rfl⟩;simp only [Qh, Qw, Qmz];cases isY β <;> cases hp β <;> rfl
theorem Qvb {n d : Nat} {cs : List PV} (h : n <= cs.length) : ldK n true (.pt cs) d fr hp K = K (upd fr d (.agg (cs.take n))) hp := by simp [ldK, h, ldV, PV.cells]
theorem Qvc {off d : Nat} {cs : List PV} (h : off <= cs.length) : Qe7 off (.pt cs) d fr hp K = K (upd fr d (.pt (cs.drop off))) hp := by simp [Qe7, h]
theorem Qvd {off n d : Nat} {cs : List PV} (h : off + n <= cs.length) : Qdt off n true (.agg cs) d fr hp K = K (upd fr d (.agg ((cs.drop off).take n))) hp := by simp [Qdt, h, ldV, PV.cells]
theorem Qve {off d : Nat} {cs : List PV} (h : off + 1 <= cs.length) : Qdt off 1 false (.agg cs) d fr hp K = K (upd fr d ((cs.drop off).headD .undef)) hp := by simp [Qdt, h, ldV, PV.cells]
def rv (n : Bool) (a d : List Nat) : Rat := mkRat (zv n a) (val d)
abbrev PV.rat (q : Rat) : PV :=.agg [.bool (decide (q.num < 0)), PV.num q.num.natAbs, PV.num q.den]
def rs (q : Rat) : Nat := max (nl q.num.natAbs) (nl q.den)
end Go.FW
namespace Go.FW
open Go
def eN (a : List Int) (i : Nat) : Int := a.getD i 0
theorem Qxc {a : List Int} {i : Nat} (h : i < a.length) : eN a i = a[i] := by simp [eN, List.getD_eq_getElem?_getD, h]
theorem Qxd {a : List Int} {i : Nat} (h : a.length <= i) : eN a i = 0 := by simp [eN, List.getD_eq_getElem?_getD, List.getElem?_eq_none h]
def Qvf (l : List Int) : Nat -> List Int
 | 0 => []
 | n + 1 => if l[n]? = some 0 then Qvf l n else l.take (n + 1)
def Qxe (l : List Int) : List Int := Qvf l l.length
def Qvg (a b : List Int) : Nat -> Int
 | 0 => 0
 | n + 1 => if eN a n = eN b n then Qvg a b n else Qyl (eN a n) (eN b n)
def Qym (a b : List Int) : Int := Qvg a b (max a.length b.length)
def Qkq (a : List Int) : Bool := decide (a.length <= 64) && (decide (a.getLast? ≠ some 0) && a.all fun x => decide (0 <= x) && decide (x <= 1048576))
structure MB (k : Nat) (a : List Int) : Prop where
 len : a.length <= 64
 lo : ∀ x ∈ a, 0 <= x
 hi : ∀ x ∈ a, x <= k
theorem MB.eN {k : Nat} {a : List Int} (h : MB k a) (i : Nat) : 0 <= FW.eN a i /\ FW.eN a i <= k := by
 by_cases hi : i < a.length
 ·rw [Qxc hi]; exact ⟨h.lo _ (List.getElem_mem _), h.hi _ (List.getElem_mem _)⟩
 ·rw [Qxd (by omega)]; omega
theorem MB.ofOk {a : List Int} (h : Qkq a = true) : MB 1048576 a := by simp only [Qkq, Bool.and_eq_true, decide_eq_true_eq, List.all_eq_true] at h;exact ⟨h.1, fun x hx => (h.2.2 x hx).1, fun x hx => (h.2.2 x hx).2⟩
variable {C : Ctx} {fr : Fr} {hp : HP} {w : World} {K R : Qa}
theorem Qxf {α : Type} {f : α -> PV} {e d : Nat} {xs : List α} {k k' : IntKind} {n : Nat} (h5 : n <= xs.length) :
  slK e (.sl e (xs.map f)) none (some (.int k (n : Int))) (some (.int k' (n : Int))) d fr hp K = K (upd fr d (.sl e ((xs.take n).map f))) hp := by
 simp [slK, Qal, h5]
theorem Qlb {α : Type} {f : α -> PV} {e by_ ty d : Nat} {xs : List α} (h0 : 0 < e) (h1 : xs.length * by_ <= 140737488355328) (h2 : xs.length <= 9223372036854775807) :
  Qcl e by_ ty .nilS (.sl e (xs.map f)) d fr hp K = K (upd (Qy d fr) d (.ms d xs.length)) (Qe hp d ⟨e, ty, xs.map f, false⟩) := by
 have := Qmq (fr := fr) (hp := hp) (K := K) (e := e) (by_ := by_) (ty := ty) (d := d) (x :=.sl e (xs.map f)) (ys := xs.map f) rfl h0 (by simpa using h1) (by simpa using h2);simpa using this
theorem Qim {α : Type} {f : α -> PV} {e by_ ty d β n : Nat} {xs ys : List α} (hb : hp β = some ⟨e, ty, xs.map f, false⟩) (hn : n = xs.length) (h0 : 0 < e) (h1 : (n + ys.length) * by_ <= 140737488355328) (h2 : n + ys.length <= 9223372036854775807) (hB : isB β = false := by decide) :
  Qcl e by_ ty (.ms β n) (.sl e (ys.map f)) d fr hp K = K (upd (Qy β fr) d (.ms β (n + ys.length))) (Qe hp β ⟨e, ty, (xs ++ ys).map f, false⟩) := by
 rw [Qef (ys := ys.map f) (xs := xs.map f) rfl hb h0 (by simp [hn]) (by simpa using h1) (by simpa using h2) hB];rw [List.take_of_length_le (by simp [hn]), List.map_append, List.length_map]
theorem Qbq {α : Type} {f : α -> PV} {y : α} {e by_ ty ty' d β γ n : Nat} {xs : List α} {fz : Bool} (hb : hp β = some ⟨e, ty, xs.map f, false⟩) (hy : hp γ = some ⟨e, ty', [f y], fz⟩) (h0 : 0 < e) (hn : n = xs.length) (h1 : (n + 1) * by_ <= 140737488355328) (h2 : n + 1 <= 9223372036854775807) (hB : isB β = false := by decide) :
  Qcl e by_ ty (.ms β n) (.ms γ 1) d fr hp K = K (upd (Qy β fr) d (.ms β (n + 1))) (Qe hp β ⟨e, ty, (xs ++ [y]).map f, false⟩) := by
 rw [Qg6 hb hy h0 (by simp [hn]) h1 h2 hB]; simp
abbrev PV.mono (a : List Int) : PV :=.sl 1 (Qcq a)
theorem Qvh {by_ ty d : Nat} {k k' : IntKind} {n c : Nat} (h2 : n <= c) (h3 : by_ * c <= 281474976710656) (h4 : c <= 9223372036854775807) :
  mkK 1 by_ ty (.int .i64 0) (.int k (n : Int)) (.int k' (c : Int)) d fr hp K = K (upd (Qy d fr) d (.ms d n)) (Qe hp d ⟨1, ty, Qcq (List.replicate n 0), false⟩) := by
 rw [Qon (by omega) (by omega) (by omega) (by omega)];simp [Qcq]
theorem Qtb (a b : Nat) : max (a : Int) (b : Int) = ((max a b : Nat) : Int) := by omega
end Go.FW
namespace Go.FW
open Go
variable {C : Ctx} {fr : Fr} {hp : HP} {w : World} {K R : Qa}
end Go.FW
namespace Go.FW
open Go
abbrev Tm := Rat × List Int
structure TB (K E : Nat) (t : Tm) : Prop where
 c : rs t.1 + 1 <= K
 m : MB E t.2
 l : t.2.getLast? ≠ some 0
def PB (K E : Nat) (p : List Tm) : Prop := ∀ t ∈ p, TB K E t
theorem PB.nil (K E : Nat) : PB K E [] := fun t ht => by cases ht
theorem PB.cons {K E : Nat} {t : Tm} {p : List Tm} : PB K E (t :: p) ↔ TB K E t /\ PB K E p := by simp [PB]
theorem PB.drop {K E : Nat} {p : List Tm} (h : PB K E p) (n : Nat) : PB K E (p.drop n) := fun t ht => h t (List.mem_of_mem_drop ht)
theorem PB.take {K E : Nat} {p : List Tm} (h : PB K E p) (n : Nat) : PB K E (p.take n) := fun t ht => h t (List.mem_of_mem_take ht)
section
variable {C : Ctx} {fr : Fr} {hp : HP} {w : World} {K R : Qa}
theorem Qrb {e by_ ty d : Nat} {z : PV} {k k' : IntKind} {Cc : Int} (h0 : 0 < e) (hz : z.cells.length = e) (h2 : 0 <= Cc) (h3 : by_ * Cc <= 281474976710656) (h4 : Cc <= 9223372036854775807) :
  mkK e by_ ty z (.int k 0) (.int k' Cc) d fr hp K = K (upd (Qy d fr) d (.ms d 0)) (Qe hp d ⟨e, ty, [], false⟩) := Qjj h0 hz (by omega) h2 h3 h4
end
end Go.FW
namespace Go.FW
open Go
theorem TB.num {a : Rat} {K E : Nat} (h : rs a + 1 <= K) : TB K E (a, []) := ⟨h, ⟨by simp, by simp, by simp⟩, by simp⟩
structure TV (t : Tm) : Prop where
 c : t.1 ≠ 0
 m : Qkq t.2 = true
def Qgr : List Tm -> Prop
 | [] => True
 | s :: p => (∀ t ∈ p, 0 < Qym s.2 t.2) /\ Qgr p
theorem TV.MB {t : Tm} (h : TV t) : MB 1048576 t.2 := MB.ofOk h.m
variable {C : Ctx} {ρ : Nat -> Option Nat} {fr : Fr} {hp : HP} {w : World} {K R : Qa}
theorem Qtc (s : Nat) (hd : (Qh hp (fr s)).isData = true) : Wk fr hp (upd fr s (Qh hp (fr s))) (FW.Ql hp (fr s).refs) := by
 rintro C tmps w ⟨ρ, hs⟩;have hf := hs.freeze (fr s).refs;refine ⟨ρ, hf.sz, hf.ext, hf.keep, hf.own, hf.inj, fun i =>?_⟩;unfold upd;split
 ·rename_i hi; subst hi;exact Qb.ofData (Qb0 hs (hs.slots i) (fun β h => h) hd)
 ·exact hf.slots i
def Qhx (W : List (Nat × Nat)) (F : Fr) (I : Nat -> Fr -> HP -> Prop) (n : Nat) : Qa := fun fr' hp' => ∃ J hp2 m, Wk fr' hp' (ovr W J F) hp2 /\ m < n /\ I m J hp2
theorem Qrc {W : List (Nat × Nat)} {F : Fr} {I : Nat -> Fr -> HP -> Prop} {n : Nat} : KM (Qhx W F I n) (Qhx W F I n) := by rintro f f' hp hf ⟨J, hp2, m, h1, h2, h3⟩;exact ⟨J, hp2, m, hf.wk.trans h1, h2, h3⟩
theorem Q3 {sk : List It} {W : List (Nat × Nat)} {F : Fr} {I : Nat -> Fr -> HP -> Prop} {n : Nat} (h : Qb2 R sk) : Qb2 R (.el (Qhx W F I n) :: sk) := ⟨h.1, .el Qrc h.2⟩
theorem Qhy {W : List (Nat × Nat)} {F J : Fr} {I : Nat -> Fr -> HP -> Prop} {n : Nat} (s m : Nat) (hs : inW W s = true) (hd : (Qh hp (J s)).isData = true) (hl : m < n) (h : I m (upd J s (Qh hp (J s))) (FW.Ql hp (J s).refs)) : Qhx W F I n (ovr W J F) hp := by
 have e : ovr W J F s = J s := by rw [Qow, if_pos hs]
 have hw := Qtc (fr := ovr W J F) (hp := hp) s (by rw [e]; exact hd);rw [e, Qlr hs] at hw;exact ⟨_, _, m, hw, hl, h⟩
theorem Qrd {sk : List It} {x : SC} (hok : Qb2 R sk) (W : List (Nat × Nat)) (B : List Nat) (I : Nat -> Fr -> HP -> Prop) (m0 : Nat) (h0 : I m0 fr hp)
  (h : ∀ m J hp, I m J hp -> vc C R (.c x :: .el (Qhx W (Qv B fr) I m) :: sk) (ovr W J (Qv B fr)) hp) : vc C R (.c (.loop x) :: sk) fr hp := by
 refine Qi1 (fun m fr' hp' => ∃ J, fr' = ovr W J (Qv B fr) /\ I m J hp') m0 (Qko W B).wk ⟨fr, rfl, h0⟩ ?_;rintro m _ hp' ⟨J, rfl, hI⟩;refine Qov hok.1 _ _ _ _ _ _ (Nat.le_refl _) (.c x (.el ?_ hok.2)) (Fle.refl _) (h m J hp' hI);rintro f f' hp2 hf ⟨J2, hp3, m2, e2, hl, h2⟩;exact Qkl hl (hf.wk.trans e2) ⟨J2, rfl, h2⟩
theorem Qvi {bt : Bool} {n d : Nat} : Qaw .rem bt (.int .u64 (n : Int)) (.int .u64 65536) d fr hp K = K (upd fr d (.int .u64 ((n % 65536 : Nat) : Int))) hp := by rw [show (65536 : Int) = ((65536 : Nat) : Int) from rfl, Qlp (by omega)]
theorem Qvj {bt : Bool} {n d : Nat} (h : n < 18446744073709551616) : Qaw .quo bt (.int .u64 (n : Int)) (.int .u64 65536) d fr hp K = K (upd fr d (.int .u64 ((n / 65536 : Nat) : Int))) hp := by rw [show (65536 : Int) = ((65536 : Nat) : Int) from rfl, Qs2 (by omega) h]
theorem Qtd {bt : Bool} {n d : Nat} : Qaw .rem bt (.int .i64 (n : Int)) (.int .i64 65536) d fr hp K = K (upd fr d (.int .i64 ((n % 65536 : Nat) : Int))) hp := by rw [show (65536 : Int) = ((65536 : Nat) : Int) from rfl, Qlp (by omega)]
theorem Qte {bt : Bool} {n d : Nat} (h : n < 9223372036854775808) : Qaw .quo bt (.int .i64 (n : Int)) (.int .i64 65536) d fr hp K = K (upd fr d (.int .i64 ((n / 65536 : Nat) : Int))) hp := by rw [show (65536 : Int) = ((65536 : Nat) : Int) from rfl, Qs3 (by omega) h]
theorem Qvk (n : Nat) : (n : Int) * 65536 = ((n * 65536 : Nat) : Int) := by omega
end Go.FW
namespace Go.FW
open Go
variable {C : Ctx} {ρ : Nat -> Option Nat} {fr : Fr} {hp : HP} {w : World} {K R : Qa}
theorem Qtf (i e : Nat) (hi : fr i = .nilS) : Wk fr hp (upd fr i (.sl e [])) hp := by
 rintro C tmps w ⟨ρ, hs⟩;refine ⟨ρ, hs.sz, hs.ext, hs.keep, hs.own, hs.inj, fun j =>?_⟩;unfold upd;split
 ·rename_i hj; subst hj;have := hs.slots j;rw [hi] at this;rw [Qb.nil_inv this];exact Qc.slE _ _ _ (Nat.zero_le _)
 ·exact hs.slots j
theorem Qtg {sk : List It} {x : SC} (i e : Nat) (hi : fr i = .nilS) (h : vc C R (.c (.loop x) :: sk) (upd fr i (.sl e [])) hp) : vc C R (.c (.loop x) :: sk) fr hp := by rw [Qdh] at h ⊢;obtain ⟨I, μ, ⟨fr0, hp0, h1, h1'⟩, h2⟩ := h;exact ⟨I, μ, ⟨fr0, hp0, (Qtf i e hi).trans h1, h1'⟩, h2⟩
end Go.FW
namespace Go.FW
open Go Go.ChangeShapes Go.WideShapes
section
variable {H : Type} {enc : TypeId × Value -> H} {P : Program} {w : World} {base : Nat} {spare : Nat -> Bool} {held : Bool}
structure Qyn (Qcm : DataW H -> Nat) : Prop where
 len : ∀ (elems spare : List (DataW H)), elems.length <= Qcm (.slice elems spare)
 sl : ∀ (elems spare : List (DataW H)) (d : DataW H), d ∈ elems -> Qcm d <= Qcm (.slice elems spare)
 ag : ∀ (parts : List (DataW H)) (d : DataW H), d ∈ parts -> Qcm d <= Qcm (.agg parts)
def Qfz (enc : TypeId × Value -> H) (P : Program) (Qcm : DataW H -> Nat) (N : Nat) (t : TypeId) (Q : List PV -> Prop) : Prop :=
 ∀ (w : World) (base : Nat) (spare : Nat -> Bool) (held : Bool) (fuel : Nat) (cs : List Value) (x : DataW H × List MemPlace), DataW.trod enc P w base spare held fuel t cs = some x -> Qcm x.1 <= N ->
  ∃ ps, Q ps /\ ps.length = cs.length /\ ∀ (i : Nat) (p : PV), ps[i]? = some p -> Qc w Qm p (cs.getD i undef)
variable {Qcm : DataW H -> Nat} {N : Nat}
theorem Qre {w : World} {p : PV} {v : Value} (h : Qc w Qm p v) : ∀ (i : Nat) (q : PV), [p][i]? = some q -> Qc w Qm q ([v].getD i undef) := by
 intro i q hq
 match i, hq with
 | 0, hq => simp at hq; subst hq; exact h
 | i + 1, hq => simp at hq
theorem Qfz.mono {t : TypeId} {Q Q' : List PV -> Prop} (h : Qfz enc P Qcm N t Q) (hQ : ∀ ps, Q ps -> Q' ps) : Qfz enc P Qcm N t Q' :=
 fun w base spare held fuel cs x hx hn => let ⟨ps, h1, h2, h3⟩ := h w base spare held fuel cs x hx hn; ⟨ps, hQ ps h1, h2, h3⟩
theorem Qo1 {t : TypeId} {k : IntKind} (ht : P.underlying t = some (.int k)) : Qfz enc P Qcm N t fun ps => ∃ n, ps = [.int k n] /\ (Lit.int k n).wf = true := by intro w base spare held fuel cs x hx _;obtain ⟨n, rfl, rfl, hw⟩ := DataW.trod_int ht hx;exact ⟨_, ⟨n, rfl, hw⟩, rfl, Qre (.int k n)⟩
theorem Qo2 {t : TypeId} (ht : P.underlying t = some (.int .i64)) : Qfz enc P Qcm N t fun ps => ∃ n : Int, ps = [.int .i64 n] /\ -9223372036854775808 <= n /\ n <= 9223372036854775807 := by refine (Qo1 ht).mono ?_;rintro ps ⟨n, rfl, hw⟩;simp [Lit.wf, IntKind.min, IntKind.max, IntKind.signed, IntKind.bits] at hw;exact ⟨n, rfl, by omega⟩
theorem Qth {r : Reach} {b0 : Nat} {t : TypeId} {v : Value} {d : DataW H} {ps : List MemPlace} {Q : List PV -> Prop} (hr : Qfz enc P Qcm N t Q) (hd : DataW.Trod enc P w base spare held t v d ps) (hn : Qcm d <= N)
  (hv : v.cells = #[v]) : ∃ p, Q [p] /\ Qk w Qm p v := by
 obtain ⟨fuel, hf⟩ := hd;obtain ⟨qs, h1, h2, h3⟩ := hr _ _ _ _ _ _ _ hf hn;rw [hv] at h2 h3
 match qs, h2 with
 | [p], _ => exact ⟨p, h1, Qk.of_c (by simpa using h3 0 p rfl)⟩
theorem Qti {r : Reach} {b0 : Nat} {t : TypeId} {k : IntKind} {v : Value} {d : DataW H} {ps : List MemPlace} {Q : List PV -> Prop} (ht : P.underlying t = some (.int k)) (Qe9 : Value.okWide P w r b0 t v) (hr : Qfz enc P Qcm N t Q) (hd : DataW.Trod enc P w base spare held t v d ps) (hn : Qcm d <= N) :
  ∃ p, Q [p] /\ Qk w Qm p v := by
 obtain ⟨n, rfl⟩ := okWide_int ht Qe9;exact Qth (r := r) (b0 := b0) hr hd hn rfl
theorem Ext.sameAt {W W' : World} (h : Ext Qm W W') {p : MemPlace} (hp : p.block < W.heap.size) : W.sameAt W' p := by
 cases p with
 | cell b off => exact Qby (h.block b hp (fun h => h))
 | map b => exact h.block b hp (fun h => h)
theorem Ext.keptBut {W W' : World} (h : Ext Qm W W') (may : MemPlace -> Prop) : W.keptBut W' may := by
 refine ⟨h.os, h.output, fun i hi =>?_⟩;rw [h.block i hi (fun h => h)];cases hh : W.heap[i]? with
 | none => rfl
 | some o => cases o with
  | cells c t fr => exact ⟨rfl, rfl, rfl, fun _ _ => rfl⟩
  | map es clock => exact Or.inr ⟨rfl, rfl⟩
  | _ => rfl
theorem Ext.frozen {W W' : World} (h : Ext Qm W W') {a : Addr} (ha : a.block < W.heap.size) : W'.frozen? a = W.frozen? a := by unfold World.frozen?;rw [h.block _ ha (fun h => h)]
theorem Qi3 (hl : laidOutB P = true) (hm : mapsRowed P = true) (hsz : ∀ {t e : TypeId}, t < P.types.size -> P.underlying t = some (.slice e) -> 0 < P.cellsOf e) {W W' : World} (hx : Ext Qm W W') (sp : Nat -> Bool) :
  ∀ {ts : List TypeId} {vs : List Value} {ds : List (DataW H)} {ps : List MemPlace}, (∀ t ∈ ts, t < P.types.size) -> DataW.TrodAll enc P W 0 (fun _ => true) true ts vs ds ps -> (∀ p ∈ ps, sp p.block = true) -> DataW.TrodAll enc P W' 0 sp true ts vs ds ps
 | [], _, _, _, _, h, _ => by obtain ⟨rfl, rfl, rfl⟩ := trodAll_nil h;rfl
 | t :: ts, _, _, _, hts, h, hs => by obtain ⟨v, vs, d, ds, p, q, rfl, rfl, rfl, ⟨fuel, h1⟩, h2⟩ := trodAll_cons h;refine ⟨p, q, ⟨fuel, ?_⟩, Qi3 hl hm hsz hx sp (fun t ht => hts t (by simp [ht])) h2 (fun x hx' => hs x (by simp [hx'])), rfl⟩;exact DataW.trod_stays (kids_rows hl hm) hsz (fun h => by cases h) (hts t (by simp)) h1 (fun x hx' => hx.sameAt (DataW.trod_lt _ _ _ _ h1 x hx')) (fun x hx' => hs x (by simp [hx']))
theorem Qkr {f : FuncId} {fn : Func} {s : ChangeSpec} {ap fresh handsOn Qgo : Bool} {W : World} {args : Array Value} {ds gs : List (DataW H)} {before : List MemPlace} {pargs : List PV} {tb : TypeId}
  (hW : DataW.Whole enc P fn.params.toList s.vars ap W args.toList ds gs before) (hvars : s.vars = []) (hres : fn.resultTypes = #[tb]) (htb : P.underlying tb = some .bool)
  (hl : laidOutB P = true) (hm : mapsRowed P = true) (hsz : ∀ {t e : TypeId}, t < P.types.size -> P.underlying t = some (.slice e) -> 0 < P.cellsOf e) (hpar : ∀ t ∈ fn.params.toList, t < P.types.size)
  (hfn : s.fn H (ds ++ gs) = { results := [.lit (.bool true)], args := ds })
  (hF : Qo P f pargs (· = .bool true)) (hsize : args.size = pargs.length) (hrep : ∀ (i : Nat) (x : PV), pargs[i]? = some x -> Qk W Qm x (args.getD i undef)) :
  Calls P f args W fun e W' => ∃ v, e = .returned v /\ s.post enc P fn ap fresh handsOn Qgo W args v W' := by
 refine (hF.2 W Qm args (fun _ h => h.elim) hsize hrep).mono ?_;rintro e W' ⟨v, r, rfl, hx, hr, rfl⟩;have hv : v = .bool true := by cases hr; rfl
 subst hv;refine ⟨_, rfl, ?_⟩;have hW' := hW;obtain ⟨p, q, hA, hV, rfl, hz, hn⟩ := hW;rw [hvars] at hV;obtain ⟨rfl, rfl⟩ := trodVars_none hV;simp only [List.append_nil] at hW' hz hn;have hlt : ∀ x ∈ p, x.block < W.heap.size := fun x hx' => by simpa using hW'.lt x hx'
 have hA' : ∀ sp : Nat -> Bool, (∀ x ∈ p, sp x.block = true) -> DataW.TrodAll enc P W' 0 sp true fn.params.toList args.toList ds p := fun sp hs => Qi3 hl hm hsz hx sp hpar hA hs;have hR : ∀ (b : Nat) (sp : Nat -> Bool) (hd : Bool), DataW.TrodAll enc P W' b sp hd fn.resultTypes.toList ((Value.bool true).resultList fn.resultTypes.size) [.lit (.bool true)] [] := fun b sp hd => by rw [hres];exact trodAll_mk1 ⟨1, by simp [DataW.trod, Value.cells, htb]⟩
 have hold : ∀ x ∈ p, (fun b => decide (b < W.heap.size)) x.block = true := fun x hx' => by simpa using hlt x hx'
 refine ⟨ds, [], p, [], p, [], hW', ?_, ?_, ?_, hx.keptBut _, fun _ => ⟨?_, ?_⟩⟩
 ·rw [hfn]; exact hR _ _ _
 ·rw [hfn]; simpa using hA' _ hold
 ·rw [hfn, hvars]; rfl
 ·exact RowKit.ok_one hres rfl (RowKit.okWide_bool_mk htb _)
 ·refine ⟨[.lit (.bool true)] ++ ds, [], p, ⟨[] ++ p, [], trodAll_append (hA' _ (fun _ _ => rfl)) (hR _ _ _), ?_, by simp, ?_, ?_⟩, ?_⟩
  ·rw [hvars]; rfl
  ·intro b off hp;rw [hx.frozen (hlt _ hp)];exact hz b off hp
  ·exact hn
  ·intro x hx' _;exact hx'
end
end Go.FW
namespace Go.FW
open Go
attribute [go_sem ↓] vcs Qya
attribute [go_sem] Qyb Qyc Qyd Qye Qva Qq5 Qq6 Qvb Qvc Qvd Qve Qq7 Qq8 Qw9 Qxa Qmx Qq9 Qs8 Qyf Qyg Qyh Qyi Qo0 Qmy List.drop_succ_cons List.drop_zero List.take_succ_cons List.take_zero List.headD_cons List.cons_append List.nil_append Qoz Qyj Qyk Qra Qs9 Qta and_true List.length_cons List.length_nil Qu5 Qu6 Qu7 B0 Qsu Qop Qs0 Qq1 Qq2 Qq3 Qq4 Qs1 Quw Qux Qqt Qs4 Qs5 Qw2 Quy Quz Qu0 Qu1 Qu2 Qut bs1 bs2 Quu Qsx Qsy Qsz Quv Nat.add_zero Qkm Qos Qor Int.toNat_natCast Nat.zero_add Option.map_some Option.map_none Qw5 Qu9 Qw8 true_and Qow Qqw Qox Qjh Qbw Qgg Qfw Qs6 Bool.and_true Bool.true_and Bool.and_false Bool.false_and decide_true decide_false List.contains_cons List.contains_nil Bool.or_false Bool.false_or Bool.or_true Bool.true_or List.any_cons List.any_nil Bool.false_eq_true SOp.dst Qkh Qqj Qki Qqk Qsq Bool.not_true Bool.not_false List.length_map List.map_cons List.map_nil Qw7 Option.some.injEq Qke List.getElem?_cons_zero List.getElem?_cons_succ Option.getD_some
attribute [go_sem] Qvi Qvj Qtd Qte Qvk Qrb Qxf Qlb Qvh Qtb
theorem Dz0 {p : Prop} (h : p := by first | omega | rfl | (simp +decide only [go_sem, ↓reduceIte] <;> rfl) | fail) : p := h
theorem Dz1 {p A0 : Prop} (x0 : A0) (h : A0 -> p := by intro x0; first | omega | rfl | (simp +decide only [go_sem, ↓reduceIte, x0] <;> rfl) | fail) : p := h x0
theorem Dz2 {p A0 A1 : Prop} (x0 : A0) (x1 : A1) (h : A0 -> A1 -> p := by intro x0 x1; first | omega | rfl | (simp +decide only [go_sem, ↓reduceIte, x0, x1] <;> rfl) | fail) : p := h x0 x1
theorem Dz3 {p A0 A1 A2 : Prop} (x0 : A0) (x1 : A1) (x2 : A2) (h : A0 -> A1 -> A2 -> p := by intro x0 x1 x2; first | omega | rfl | (simp +decide only [go_sem, ↓reduceIte, x0, x1, x2] <;> rfl) | fail) : p := h x0 x1 x2
theorem Dz4 {p A0 A1 A2 A3 : Prop} (x0 : A0) (x1 : A1) (x2 : A2) (x3 : A3) (h : A0 -> A1 -> A2 -> A3 -> p := by intro x0 x1 x2 x3; first | omega | rfl | (simp +decide only [go_sem, ↓reduceIte, x0, x1, x2, x3] <;> rfl) | fail) : p := h x0 x1 x2 x3
theorem Dz5 {p A0 A1 A2 A3 A4 : Prop} (x0 : A0) (x1 : A1) (x2 : A2) (x3 : A3) (x4 : A4) (h : A0 -> A1 -> A2 -> A3 -> A4 -> p := by intro x0 x1 x2 x3 x4; first | omega | rfl | (simp +decide only [go_sem, ↓reduceIte, x0, x1, x2, x3, x4] <;> rfl) | fail) : p := h x0 x1 x2 x3 x4
theorem Dz6 {p A0 A1 A2 A3 A4 A5 : Prop} (x0 : A0) (x1 : A1) (x2 : A2) (x3 : A3) (x4 : A4) (x5 : A5) (h : A0 -> A1 -> A2 -> A3 -> A4 -> A5 -> p := by intro x0 x1 x2 x3 x4 x5; first | omega | rfl | (simp +decide only [go_sem, ↓reduceIte, x0, x1, x2, x3, x4, x5] <;> rfl) | fail) : p := h x0 x1 x2 x3 x4 x5
theorem Dz7 {p A0 A1 A2 A3 A4 A5 A6 : Prop} (x0 : A0) (x1 : A1) (x2 : A2) (x3 : A3) (x4 : A4) (x5 : A5) (x6 : A6) (h : A0 -> A1 -> A2 -> A3 -> A4 -> A5 -> A6 -> p := by intro x0 x1 x2 x3 x4 x5 x6; first | omega | rfl | (simp +decide only [go_sem, ↓reduceIte, x0, x1, x2, x3, x4, x5, x6] <;> rfl) | fail) : p := h x0 x1 x2 x3 x4 x5 x6
theorem Dz8 {p A0 A1 A2 A3 A4 A5 A6 A7 : Prop} (x0 : A0) (x1 : A1) (x2 : A2) (x3 : A3) (x4 : A4) (x5 : A5) (x6 : A6) (x7 : A7) (h : A0 -> A1 -> A2 -> A3 -> A4 -> A5 -> A6 -> A7 -> p := by intro x0 x1 x2 x3 x4 x5 x6 x7; first | omega | rfl | (simp +decide only [go_sem, ↓reduceIte, x0, x1, x2, x3, x4, x5, x6, x7] <;> rfl) | fail) : p := h x0 x1 x2 x3 x4 x5 x6 x7
theorem Dz9 {p A0 A1 A2 A3 A4 A5 A6 A7 A8 : Prop} (x0 : A0) (x1 : A1) (x2 : A2) (x3 : A3) (x4 : A4) (x5 : A5) (x6 : A6) (x7 : A7) (x8 : A8) (h : A0 -> A1 -> A2 -> A3 -> A4 -> A5 -> A6 -> A7 -> A8 -> p := by intro x0 x1 x2 x3 x4 x5 x6 x7 x8; first | omega | rfl | (simp +decide only [go_sem, ↓reduceIte, x0, x1, x2, x3, x4, x5, x6, x7, x8] <;> rfl) | fail) : p := h x0 x1 x2 x3 x4 x5 x6 x7 x8
theorem Sz0 {p q : Prop} (h : q) (e : p = q := by conv => lhs; simp +decide (disch := try exact Dz0) only [go_sem, ↓reduceIte]) : p := e ▸ h
theorem Tz0 {p : Prop} (h : p := by simp +decide (disch := try exact Dz0) only [go_sem, ↓reduceIte]) : p := h
theorem Qm0 {p : Prop} (h : p := by simp +decide (disch := try exact Dz0) only [go_sem, ↓reduceIte] <;> rfl) : p := h
theorem Sz1 {p q A0 : Prop} (x0 : A0) (h : q) (e : A0 -> p = q := by intro x0; conv => lhs; simp +decide (disch := try exact Dz1 @x0) only [go_sem, ↓reduceIte, x0]) : p := (e x0) ▸ h
theorem Tz1 {p A0 : Prop} (x0 : A0) (h : A0 -> p := by intro x0; simp +decide (disch := try exact Dz1 @x0) only [go_sem, ↓reduceIte, x0]) : p := h x0
theorem Sz2 {p q A0 A1 : Prop} (x0 : A0) (x1 : A1) (h : q) (e : A0 -> A1 -> p = q := by intro x0 x1; conv => lhs; simp +decide (disch := try exact Dz2 @x0 @x1) only [go_sem, ↓reduceIte, x0, x1]) : p := (e x0 x1) ▸ h
theorem Tz2 {p A0 A1 : Prop} (x0 : A0) (x1 : A1) (h : A0 -> A1 -> p := by intro x0 x1; simp +decide (disch := try exact Dz2 @x0 @x1) only [go_sem, ↓reduceIte, x0, x1]) : p := h x0 x1
theorem Sz3 {p q A0 A1 A2 : Prop} (x0 : A0) (x1 : A1) (x2 : A2) (h : q) (e : A0 -> A1 -> A2 -> p = q := by intro x0 x1 x2; conv => lhs; simp +decide (disch := try exact Dz3 @x0 @x1 @x2) only [go_sem, ↓reduceIte, x0, x1, x2]) : p := (e x0 x1 x2) ▸ h
theorem Sz4 {p q A0 A1 A2 A3 : Prop} (x0 : A0) (x1 : A1) (x2 : A2) (x3 : A3) (h : q) (e : A0 -> A1 -> A2 -> A3 -> p = q := by intro x0 x1 x2 x3; conv => lhs; simp +decide (disch := try exact Dz4 @x0 @x1 @x2 @x3) only [go_sem, ↓reduceIte, x0, x1, x2, x3]) : p := (e x0 x1 x2 x3) ▸ h
theorem Sz5 {p q A0 A1 A2 A3 A4 : Prop} (x0 : A0) (x1 : A1) (x2 : A2) (x3 : A3) (x4 : A4) (h : q) (e : A0 -> A1 -> A2 -> A3 -> A4 -> p = q := by intro x0 x1 x2 x3 x4; conv => lhs; simp +decide (disch := try exact Dz5 @x0 @x1 @x2 @x3 @x4) only [go_sem, ↓reduceIte, x0, x1, x2, x3, x4]) : p := (e x0 x1 x2 x3 x4) ▸ h
theorem Sz6 {p q A0 A1 A2 A3 A4 A5 : Prop} (x0 : A0) (x1 : A1) (x2 : A2) (x3 : A3) (x4 : A4) (x5 : A5) (h : q) (e : A0 -> A1 -> A2 -> A3 -> A4 -> A5 -> p = q := by intro x0 x1 x2 x3 x4 x5; conv => lhs; simp +decide (disch := try exact Dz6 @x0 @x1 @x2 @x3 @x4 @x5) only [go_sem, ↓reduceIte, x0, x1, x2, x3, x4, x5]) : p := (e x0 x1 x2 x3 x4 x5) ▸ h
theorem Sz7 {p q A0 A1 A2 A3 A4 A5 A6 : Prop} (x0 : A0) (x1 : A1) (x2 : A2) (x3 : A3) (x4 : A4) (x5 : A5) (x6 : A6) (h : q) (e : A0 -> A1 -> A2 -> A3 -> A4 -> A5 -> A6 -> p = q := by intro x0 x1 x2 x3 x4 x5 x6; conv => lhs; simp +decide (disch := try exact Dz7 @x0 @x1 @x2 @x3 @x4 @x5 @x6) only [go_sem, ↓reduceIte, x0, x1, x2, x3, x4, x5, x6]) : p := (e x0 x1 x2 x3 x4 x5 x6) ▸ h
theorem Sz8 {p q A0 A1 A2 A3 A4 A5 A6 A7 : Prop} (x0 : A0) (x1 : A1) (x2 : A2) (x3 : A3) (x4 : A4) (x5 : A5) (x6 : A6) (x7 : A7) (h : q) (e : A0 -> A1 -> A2 -> A3 -> A4 -> A5 -> A6 -> A7 -> p = q := by intro x0 x1 x2 x3 x4 x5 x6 x7; conv => lhs; simp +decide (disch := try exact Dz8 @x0 @x1 @x2 @x3 @x4 @x5 @x6 @x7) only [go_sem, ↓reduceIte, x0, x1, x2, x3, x4, x5, x6, x7]) : p := (e x0 x1 x2 x3 x4 x5 x6 x7) ▸ h
theorem Sz9 {p q A0 A1 A2 A3 A4 A5 A6 A7 A8 : Prop} (x0 : A0) (x1 : A1) (x2 : A2) (x3 : A3) (x4 : A4) (x5 : A5) (x6 : A6) (x7 : A7) (x8 : A8) (h : q) (e : A0 -> A1 -> A2 -> A3 -> A4 -> A5 -> A6 -> A7 -> A8 -> p = q := by intro x0 x1 x2 x3 x4 x5 x6 x7 x8; conv => lhs; simp +decide (disch := try exact Dz9 @x0 @x1 @x2 @x3 @x4 @x5 @x6 @x7 @x8) only [go_sem, ↓reduceIte, x0, x1, x2, x3, x4, x5, x6, x7, x8]) : p := (e x0 x1 x2 x3 x4 x5 x6 x7 x8) ▸ h
theorem Ez0 {p : Prop} (h : p := by first | omega | rfl | (simp +decide only [go_sem, ↓reduceIte, Qt, List.contains_cons, List.contains_nil, List.flatMap_cons, List.flatMap_nil, List.append_nil] <;> rfl) | fail) : p := h
theorem Ez1 {p A0 : Prop} (x0 : A0) (h : A0 -> p := by intro x0; first | omega | rfl | (simp +decide only [go_sem, ↓reduceIte, Qt, List.contains_cons, List.contains_nil, List.flatMap_cons, List.flatMap_nil, List.append_nil, x0] <;> rfl) | fail) : p := h x0
theorem Ez2 {p A0 A1 : Prop} (x0 : A0) (x1 : A1) (h : A0 -> A1 -> p := by intro x0 x1; first | omega | rfl | (simp +decide only [go_sem, ↓reduceIte, Qt, List.contains_cons, List.contains_nil, List.flatMap_cons, List.flatMap_nil, List.append_nil, x0, x1] <;> rfl) | fail) : p := h x0 x1
theorem Ez4 {p A0 A1 A2 A3 : Prop} (x0 : A0) (x1 : A1) (x2 : A2) (x3 : A3) (h : A0 -> A1 -> A2 -> A3 -> p := by intro x0 x1 x2 x3; first | omega | rfl | (simp +decide only [go_sem, ↓reduceIte, Qt, List.contains_cons, List.contains_nil, List.flatMap_cons, List.flatMap_nil, List.append_nil, x0, x1, x2, x3] <;> rfl) | fail) : p := h x0 x1 x2 x3
theorem Vz0 {p q : Prop} (h : q) (e : p = q := by conv => lhs; simp +decide (disch := try exact Ez0) only [go_sem, ↓reduceIte, Qt, List.contains_cons, List.contains_nil, List.flatMap_cons, List.flatMap_nil, List.append_nil]) : p := e ▸ h
theorem Uz0 {p : Prop} (h : p := by simp +decide (disch := try exact Ez0) only [go_sem, ↓reduceIte, Qt, List.contains_cons, List.contains_nil, List.flatMap_cons, List.flatMap_nil, List.append_nil]) : p := h
theorem Qm1 {p : Prop} (h : p := by simp +decide (disch := try exact Ez0) only [go_sem, ↓reduceIte, Qt, List.contains_cons, List.contains_nil, List.flatMap_cons, List.flatMap_nil, List.append_nil] <;> rfl) : p := h
theorem Uz1 {p A0 : Prop} (x0 : A0) (h : A0 -> p := by intro x0; simp +decide (disch := try exact Ez1 @x0) only [go_sem, ↓reduceIte, Qt, List.contains_cons, List.contains_nil, List.flatMap_cons, List.flatMap_nil, List.append_nil, x0]) : p := h x0
theorem Vz2 {p q A0 A1 : Prop} (x0 : A0) (x1 : A1) (h : q) (e : A0 -> A1 -> p = q := by intro x0 x1; conv => lhs; simp +decide (disch := try exact Ez2 @x0 @x1) only [go_sem, ↓reduceIte, Qt, List.contains_cons, List.contains_nil, List.flatMap_cons, List.flatMap_nil, List.append_nil, x0, x1]) : p := (e x0 x1) ▸ h
theorem Vz4 {p q A0 A1 A2 A3 : Prop} (x0 : A0) (x1 : A1) (x2 : A2) (x3 : A3) (h : q) (e : A0 -> A1 -> A2 -> A3 -> p = q := by intro x0 x1 x2 x3; conv => lhs; simp +decide (disch := try exact Ez4 @x0 @x1 @x2 @x3) only [go_sem, ↓reduceIte, Qt, List.contains_cons, List.contains_nil, List.flatMap_cons, List.flatMap_nil, List.append_nil, x0, x1, x2, x3]) : p := (e x0 x1 x2 x3) ▸ h
variable {C : Ctx} {fr : Fr} {hp : HP} {R : Qa}
end Go.FW
namespace Go.FW
open Go
variable {C : Ctx} {ρ : Nat -> Option Nat} {fr fr' : Fr} {hp : HP} {w : World} {K R : Qa}
def isN (β : Nat) : Bool := decide (2000000 <= β)
def isS (β : Nat) : Bool := isN β || decide (β < 1000000)
theorem Qxg {β : Nat} (h : isS β = false) : isN β = false := by simp [isS] at h; exact h.1
def Qcr : PV -> PV
 |.nst _ _ _ _ | .rag _ | .rtp _ | .rtq _ _ =>.undef
 | p => if p.refs.any isN || p.sref.any isS then .undef else p
def Qin (F : Fr) : Fr := fun s => Qcr (F s)
def Cln (p : PV) : Prop := (∀ β ∈ p.refs, isN β = false) /\ (∀ β ∈ p.sref, isS β = false) /\ (∀ γ e ty xs, p ≠ .nst γ e ty xs) /\ ∀ cs, p ≠ .rag cs /\ p ≠ .rtp cs /\ ∀ q, p ≠ .rtq cs q
theorem Qrf (p : PV) : Cln (Qcr p) := by
 have h0 : Cln .undef := ⟨(fun β h => by cases h), (fun β h => by cases h), (fun _ _ _ _ h => by cases h), (fun _ => ⟨(fun h => by cases h), (fun h => by cases h), fun _ h => by cases h⟩)⟩
 unfold Qcr;split
 ·exact h0
 ·exact h0
 ·exact h0
 ·exact h0
 ·rename_i hn hn2 hn3 hn4;split
  ·exact h0
  ·rename_i h;simp only [Bool.or_eq_true, not_or, Bool.not_eq_true, List.any_eq_false] at h;exact ⟨fun β hβ => by simpa using h.1 β hβ, fun β hβ => by simpa using h.2 β hβ, fun γ e ty xs => hn γ e ty xs, fun cs => ⟨hn2 cs, hn3 cs, hn4 cs⟩⟩
theorem Cln.kill {p : PV} (h : Cln p) {B : List Nat} : Cln (if p.refs.any B.contains then .undef else p) := by
 split
 ·exact ⟨(fun β h => by cases h), (fun β h => by cases h), (fun _ _ _ _ h => by cases h), (fun _ => ⟨(fun h => by cases h), (fun h => by cases h), fun _ h => by cases h⟩)⟩
 ·exact h
theorem Qi4 {β : Nat} {p : PV} (h : ∀ γ ∈ p.refs, γ ≠ β) : Qn β p = p := by unfold Qn;rw [if_neg];intro hc;exact h β (by simpa using hc) rfl
theorem Qgh {β : Nat} {p : PV} (h : ∀ γ ∈ p.sref1, γ ≠ β) : Qba β p = p := by
 cases p with
 | mso γ o n => simp only [Qba]; rw [if_neg (h γ (by simp [PV.sref1]))]
 | nso γ o n => simp only [Qba]; rw [if_neg (h γ (by simp [PV.sref1]))]
 | _ => rfl
theorem Qo3 {β : Nat} {p : PV} (h : ∀ γ ∈ p.refs, γ ≠ β) (h2 : ∀ γ ∈ p.sref, γ ≠ β) (h3 : ∀ γ e ty xs, p ≠ .nst γ e ty xs) : Q1 β p = p := by
 cases p with
 | nst γ e ty xs => exact absurd rfl (h3 _ _ _ _)
 | rag cs =>
  simp only [Q1];congr 1;conv => rhs; rw [<- List.map_id cs]
  exact List.map_congr_left fun x hx => Qgh fun γ hγ => h2 γ (List.mem_flatMap.2 ⟨x, hx, hγ⟩)
 | rtp cs =>
  simp only [Q1];congr 1;conv => rhs; rw [<- List.map_id cs]
  exact List.map_congr_left fun x hx => Qgh fun γ hγ => h2 γ (List.mem_flatMap.2 ⟨x, hx, hγ⟩)
 | rtq cs q =>
  simp only [Q1];congr 1;conv => rhs; rw [<- List.map_id cs]
  exact List.map_congr_left fun x hx => Qgh fun γ hγ => h2 γ (List.mem_flatMap.2 ⟨x, hx, hγ⟩)
 | nso γ o n => simp only [Q1]; rw [if_neg (h2 γ (by simp [PV.sref]))]
 | np γ i o => simp only [Q1]; rw [if_neg (h2 γ (by simp [PV.sref]))]
 | fn f first cap =>simp only [Q1];rw [if_neg, Qi4 h];intro hc;exact h2 β (by simpa [PV.sref] using hc) rfl
 | _ => exact Qi4 h
theorem Qo4 {β γ : Nat} (h : 2000000 <= β) (h2 : isN γ = false) : γ ≠ β := by simp [isN] at h2; omega
abbrev bse (B : List Nat) (F : Fr) : Fr := Qv B (Qin F)
theorem Qio (B : List Nat) (F : Fr) (s : Nat) : Cln (bse B F s) := (Qrf (F s)).kill
theorem Qi5 {β : Nat} {B : List Nat} {F : Fr} (h : 2000000 <= β) : Qay β (bse B F) = bse B F := by funext s;have hc := Qio B F s;exact Qo3 (fun γ hγ => Qo4 h (hc.1 γ hγ)) (fun γ hγ => Qo4 h (Qxg (hc.2.1 γ hγ))) hc.2.2.1
theorem Qi6 {γ : Nat} {B : List Nat} {F : Fr} : Qbe γ (bse B F) = bse B F := by
 funext s;have hc := Qio B F s;show Qbi γ (bse B F s) = _;generalize bse B F s = p at *
 cases p with
 | nst γ' e ty xs => exact absurd rfl (hc.2.2.1 _ _ _ _)
 | _ => rfl
theorem Qo5 {W : List (Nat × Nat)} {β : Nat} {J F : Fr} : Qay β (ovr W J F) = ovr W (Qay β J) (Qay β F) := by funext s; unfold Qay ovr; split <;> rfl
theorem Qo6 {W : List (Nat × Nat)} {β : Nat} {J F : Fr} : Qbe β (ovr W J F) = ovr W (Qbe β J) (Qbe β F) := by funext s; unfold Qbe ovr; split <;> rfl
theorem Qo7 {β d : Nat} {F : Fr} {v : PV} : Qay β (upd F d v) = upd (Qay β F) d (Q1 β v) := by funext s; unfold Qay upd; split <;> rfl
theorem Qo8 {β d : Nat} {F : Fr} {v : PV} : Qbe β (upd F d v) = upd (Qbe β F) d (Qbi β v) := by funext s; unfold Qbe upd; split <;> rfl
theorem Qrg {β : Nat} {F : Fr} {s : Nat} : Qay β F s = Q1 β (F s) := rfl
theorem Qrh {β : Nat} {F : Fr} {s : Nat} : Qbe β F s = Qbi β (F s) := rfl
def Qbs (l : List (Nat × Nat)) : List PV := l.map fun x =>.mso x.1 0 x.2
def Qxh (d : Nat) (S : List Nat) (γ n : Nat) (x : PV) (fr : Fr) : Fr := fun s => if s = γ then x else if S.contains s then .nso γ 0 n else Qn d (fr s)
theorem Qks {tmps : Array Value} (h : Qg C ρ fr hp tmps w) {β b : Nat} {hb : HB} {l : List Nat} (hB : isY β = false) (hβ : hp β = some hb) (hl : β ∈ l) (hρ : ρ β = some b) : ¬ Xof C ρ (Ql hp l) b := by
 have hblk := (h.own β hb hβ).blk;rw [hρ] at hblk;rintro (hx | ⟨γ, hg, h1, h2, h3⟩)
 ·exact Ctx.cls_notX hblk.1 (Qjs hB) hx
 ·obtain ⟨hg0, g1, _, _, _, _, g6⟩ := Qdw h1;have := h.inj γ β b (by simp [g1]) (by simp [hβ]) h3 hρ;subst this;exact g6 h2 hl
theorem Qbt.snap {tmps : Array Value} (h : Qg C ρ fr hp tmps w) {β o n : Nat} {v : Value} {l : List Nat} {hb : HB} (hr : Qbt ρ hp w β o n v) (hB : isY β = false) (hl : β ∈ l) (hβ : hp β = some hb) : Qc w (Xof C ρ (Ql hp l)) (.sl hb.e ((hb.xs.drop o).take n)) v := by
 obtain ⟨hb', g1, g2, g3⟩ := hr;rw [hβ] at g1; cases g1;rcases g3 with ⟨g3, rfl, rfl, rfl⟩ | ⟨b, cap, g3, rfl, g5, g6⟩
 ·simp only [List.take_zero]; exact .slE _ _ _ (Nat.zero_le _)
 ·have hown := h.own β hb hβ;have hblk := hown.blk;rw [g3] at hblk;obtain ⟨_, hlt, cur, cap', c1, c2, c3, c4, c5⟩ := hblk;obtain ⟨cur', ty', d1, d2⟩ := g5;rw [c1] at d1; cases d1;have hcc : o + cap = cap' := by rw [c2] at d2;exact (Nat.eq_of_mul_eq_mul_right hown.epos d2).symm
  subst hcc;have hlen : ((hb.xs.drop o).take n).length = n := by simp; omega
  have hget : ∀ (i : Nat) (x : PV), ((hb.xs.drop o).take n)[i]? = some x -> i < n /\ hb.xs[o + i]? = some x := fun i x hx => by
   have hi : i < n := by have := (List.getElem?_eq_some_iff.1 hx).1; omega
   rw [List.getElem?_take_of_lt hi, List.getElem?_drop] at hx;exact ⟨hi, hx⟩
  have := Qc.sl (w := w) (X := Xof C ρ (Ql hp l)) hb.e ((hb.xs.drop o).take n) b (o * hb.e) cap (fun i j => cur.getD ((o + i) * hb.e + j) undef) (Qks h hB hβ hl g3) hlt (by omega) (by omega)
   (fun i x hx => (hown.len _ x (hget i x hx).2).1)
   (fun i hi j hj => by rw [hlen] at hi;have := Qcw (i := o + i) (e := hb.e) (o := 0) (j := j) (n := hb.e) (cap := o + cap) (by omega) (by omega) hj;rw [Nat.add_zero] at this;rw [show o * hb.e + i * hb.e + j = (o + i) * hb.e + j by rw [Nat.add_mul]];exact Qap c1 (by rw [c2]; exact this))
   (fun i x hx j y hy => (c5 _ x (hget i x hx).2 j y hy).freeze)
  rwa [hlen] at this
def Qri (R : Qa) : Qa := fun fr hp => ∃ fr' hp', Wk fr hp fr' hp' /\ R fr' hp'
theorem Qtj : KM (Qri R) (Qri R) := by rintro f f' hp hf ⟨fr', hp', h1, h2⟩;exact ⟨fr', hp', hf.wk.trans h1, h2⟩
theorem Qab : Qb2 (Qri R) [] := ⟨Qtj, .nil⟩
theorem Qtk {d γ m i : Nat} {k : IntKind} (h : i < m) (he : (hp γ).map (·.e) = some 1) : Qbg 1 (.nso γ 0 m) (.int k (i : Int)) d fr hp K = K (upd fr d (.np γ i 0)) hp := by
 have e : (0 : Int) <= (i : Int) := by omega
 simp [Qbg, e, h, he]
theorem Qtl {d γ o m : Nat} : Qd8 (.nso γ o m) d fr hp K = K (upd fr d (.int .i64 m)) hp := rfl
theorem Qo9 {β γ o n : Nat} (h : γ ≠ β) : Q1 β (.nso γ o n) = .nso γ o n := by simp only [Q1]; rw [if_neg h]
theorem Qrj {β γ o n : Nat} (h : γ ≠ β) : Q1 β (.np γ o n) = .np γ o n := by simp only [Q1]; rw [if_neg h]
theorem Qxi :
  (∀ (β : Nat) (k : IntKind) (n : Int), Q1 β (.int k n) = .int k n) /\
  (∀ (β : Nat) (b : Bool), Q1 β (.bool b) = .bool b) /\
  (∀ (β e : Nat) (xs : List PV), Q1 β (.sl e xs) = .sl e xs) /\
  (∀ (β : Nat) (cs : List PV), Q1 β (.agg cs) = .agg cs) /\
  (∀ (β : Nat) (cs : List PV), Q1 β (.pt cs) = .pt cs) /\
  (∀ (β : Nat), Q1 β .nilS = .nilS) /\
  (∀ (β : Nat), Q1 β .undef = .undef) /\
  (∀ (γ : Nat) (k : IntKind) (n : Int), Qbi γ (.int k n) = .int k n) /\
  (∀ (γ : Nat) (b : Bool), Qbi γ (.bool b) = .bool b) /\
  (∀ (γ e : Nat) (xs : List PV), Qbi γ (.sl e xs) = .sl e xs) /\
  (∀ (γ : Nat) (cs : List PV), Qbi γ (.agg cs) = .agg cs) /\
  (∀ (γ : Nat) (cs : List PV), Qbi γ (.pt cs) = .pt cs) /\
  (∀ (γ : Nat), Qbi γ .nilS = .nilS) /\
  (∀ (γ : Nat), Qbi γ .undef = .undef) /\
  (∀ (γ β o n : Nat), Qbi γ (.mso β o n) = .mso β o n) /\
  (∀ (γ β o n : Nat), Qbi γ (.mp β o n) = .mp β o n) /\
  (∀ (γ β o n : Nat), Qbi γ (.rb β o n) = .rb β o n) /\
  (∀ (γ β o n : Nat), Qbi γ (.nso β o n) = .nso β o n) /\
  (∀ (γ β o n : Nat), Qbi γ (.np β o n) = .np β o n) /\
  (∀ (β γ o n : Nat), Qn β (.nso γ o n) = .nso γ o n) /\
  (∀ (β γ o n : Nat), Qn β (.np γ o n) = .np γ o n) /\
  (∀ (β γ e ty : Nat) (xs : List PV), Qn β (.nst γ e ty xs) = .nst γ e ty xs) /\
  (∀ (β : Nat), Qn β .undef = .undef) /\
  (∀ (β : Nat) (cs : List PV), Qn β (.pt cs) = .pt cs) := by
 refine ⟨?_, ?_, ?_, ?_, ?_, ?_, ?_, ?_, ?_, ?_, ?_, ?_, ?_, ?_, ?_, ?_, ?_, ?_, ?_, ?_, ?_, ?_, ?_, ?_⟩ <;> intros <;> rfl
theorem Qrk (β γ o n : Nat) : Q1 β (.mso γ o n) = if γ = β then .undef else .mso γ o n := Qkj β γ o n
theorem Qrl (β γ o n : Nat) : Q1 β (.mp γ o n) = if γ = β then .undef else .mp γ o n := Qkk β γ o n
end Go.FW
namespace Go.FW
open Go
variable {C : Ctx} {ρ : Nat -> Option Nat} {fr fr' : Fr} {hp : HP} {w : World} {K R : Qa}
theorem Qtm {F : Fr} {s : Nat} : Qin F s = Qcr (F s) := rfl
theorem Qxj :
  (∀ (k : IntKind) (n : Int), Qcr (.int k n) = .int k n) /\
  (∀ (b : Bool), Qcr (.bool b) = .bool b) /\
  (∀ (e : Nat) (xs : List PV), Qcr (.sl e xs) = .sl e xs) /\
  (∀ (cs : List PV), Qcr (.agg cs) = .agg cs) /\
  (∀ (cs : List PV), Qcr (.pt cs) = .pt cs) /\
  (Qcr .nilS = .nilS) /\ (Qcr .undef = .undef) /\
  (∀ (β o n : Nat), Qcr (.mso β o n) = if isN β then .undef else .mso β o n) /\
  (∀ (β o n : Nat), Qcr (.mp β o n) = if isN β then .undef else .mp β o n) /\
  (∀ (β o n : Nat), Qcr (.rb β o n) = if isN β then .undef else .rb β o n) /\
  (∀ (β o n : Nat), Qcr (.nso β o n) = if isS β then .undef else .nso β o n) /\
  (∀ (β o n : Nat), Qcr (.np β o n) = if isS β then .undef else .np β o n) := by
 refine ⟨fun _ _ => rfl, fun _ => rfl, fun _ _ => rfl, fun _ => rfl, fun _ => rfl, rfl, rfl, ?_, ?_, ?_, ?_, ?_⟩ <;> intros <;> simp [Qcr, PV.refs, PV.sref]
theorem Qvl {β : Nat} : isS β = (isN β || decide (β < 1000000)) := rfl
theorem Qvm {β : Nat} : isN β = decide (2000000 <= β) := rfl
theorem Qrm {d γ n : Nat} {S : List Nat} {x : PV} {s : Nat} : Qxh d S γ n x fr s = if s = γ then x else if S.contains s then .nso γ 0 n else Qn d (fr s) := rfl
theorem Qtn {by_ ty d : Nat} {k k' : IntKind} {n c : Nat} (h2 : n <= c) (h3 : by_ * c <= 281474976710656) (h4 : c <= 9223372036854775807) :
  mkK 1 by_ ty .nilS (.int k (n : Int)) (.int k' (c : Int)) d fr hp K = K (upd (Qy d fr) d (.ms d n)) (Qe hp d ⟨1, ty, List.replicate n .nilS, false⟩) := by
 rw [Qjj (e := 1) (by omega) rfl (by omega) (by omega) (by omega) (by omega)]; rfl
theorem Qvn {k c : Nat} (h : c < 3000000) : (3000000 + k = c) = False := by simp; omega
theorem Qto {k c : Nat} (h : c < 3000000) : (c = 3000000 + k) = False := by simp; omega
theorem Qvo {k j : Nat} : (3000000 + k = 3000000 + j) = (k = j) := by simp
attribute [go_sem] Qvn Qto Qvo Qtn Qrm Qo5 Qo6 Qo7 Qo8 Qrg Qrh Qi5 Qi6 Qxi Qrk Qrl Qo9 Qrj Qtk Qtl Qtm Qxj Qvl Qvm
end Go.FW
namespace Go.FW
open Go
variable {C C' : Ctx} {ρ ρ' : Nat -> Option Nat} {fr fr' : Fr} {hp hp' : HP} {w : World} {K R : Qa}
def rn1 (σ : Nat -> Nat) : PV -> PV
 |.mp β i o =>.mp (σ β) i o
 |.mso β o n =>.mso (σ β) o n
 |.rb β o n =>.rb (σ β) o n
 |.np β i o =>.np (σ β) i o
 |.nso β o n =>.nso (σ β) o n
 | p => p
def rnP (σ : Nat -> Nat) : PV -> PV
 |.fn f a b =>.fn f (a.map (rn1 σ)) (b.map (rn1 σ))
 |.rag cs =>.rag (cs.map (rn1 σ))
 |.rtp cs =>.rtp (cs.map (rn1 σ))
 |.rtq cs q =>.rtq (cs.map (rn1 σ)) q
 |.nst γ e ty xs =>.nst (σ γ) e ty (xs.map fun x => Qb5 (x.ncells.map (rn1 σ)))
 | p => rn1 σ p
theorem Qc.rn1 {X : Nat -> Prop} {σ : Nat -> Nat} {p : PV} {v : Value} (h : Qc w X p v) : FW.rn1 σ p = p := by cases h <;> rfl
def mvN (β δ x : Nat) : Nat := if x = β then δ else x
def mvF (β δ : Nat) (fr : Fr) : Fr := fun s => rnP (mvN β δ) (fr s)
def mvH (β δ : Nat) (hp : HP) : HP := fun x => if x = δ then hp β else if x = β then none else hp x
theorem Qvp {β δ x : Nat} : mvH β δ hp x = if x = δ then hp β else if x = β then none else hp x := rfl
theorem Qvq {β δ s : Nat} : mvF β δ fr s = rnP (mvN β δ) (fr s) := rfl
theorem Qvr {β δ x : Nat} : mvN β δ x = if x = β then δ else x := rfl
theorem Qtp {β δ d : Nat} {v : PV} : mvF β δ (upd fr d v) = upd (mvF β δ fr) d (rnP (mvN β δ) v) := by funext s; unfold mvF upd; split <;> rfl
theorem Qtq {W : List (Nat × Nat)} {β δ : Nat} {J F : Fr} : mvF β δ (ovr W J F) = ovr W (mvF β δ J) (mvF β δ F) := by funext s; unfold mvF ovr; split <;> rfl
theorem Qvs {σ : Nat -> Nat} {p : PV} (h : ∀ β ∈ p.ref1 ++ p.nref1, σ β = β) : rn1 σ p = p := by
 cases p with
 | mp β => simp only [rn1]; rw [h β (by simp [PV.ref1])]
 | mso β => simp only [rn1]; rw [h β (by simp [PV.ref1])]
 | rb β => simp only [rn1]; rw [h β (by simp [PV.ref1])]
 | np β => simp only [rn1]; rw [h β (by simp [PV.ref1, PV.nref1])]
 | nso β => simp only [rn1]; rw [h β (by simp [PV.ref1, PV.nref1])]
 | _ => rfl
theorem Qtr {σ : Nat -> Nat} {p : PV} (h : Cln p) (hσ : ∀ β ∈ p.refs ++ p.sref, σ β = β) : rnP σ p = p := by
 have hm : ∀ (l : List PV), (∀ β ∈ l.flatMap PV.ref1 ++ l.flatMap PV.nref1, σ β = β) -> l.map (rn1 σ) = l := fun l hl => by
  conv => rhs; rw [<- List.map_id l]
  refine List.map_congr_left fun x hx => Qvs fun β hβ => hl β ?_;rcases List.mem_append.1 hβ with hβ | hβ
  ·exact List.mem_append_left _ (List.mem_flatMap.2 ⟨x, hx, hβ⟩)
  ·exact List.mem_append_right _ (List.mem_flatMap.2 ⟨x, hx, hβ⟩)
 cases p with
 | nst γ e ty xs => exact absurd rfl (h.2.2.1 _ _ _ _)
 | rag cs => exact absurd rfl (h.2.2.2 _).1
 | rtp cs => exact absurd rfl (h.2.2.2 _).2.1
 | rtq cs q => exact absurd rfl ((h.2.2.2 _).2.2 _)
 | fn f a b =>
  simp only [rnP];rw [hm a, hm b]
  ·intro β hβ; refine hσ β ?_;simp only [PV.refs, PV.sref, List.mem_append] at hβ ⊢;rcases hβ with h | h
   ·exact .inl (.inr h)
   ·exact .inr (.inr h)
  ·intro β hβ; refine hσ β ?_;simp only [PV.refs, PV.sref, List.mem_append] at hβ ⊢;rcases hβ with h | h
   ·exact .inl (.inl h)
   ·exact .inr (.inl h)
 | mp β => simp only [rnP, rn1]; rw [hσ β (by simp [PV.refs])]
 | mso β => simp only [rnP, rn1]; rw [hσ β (by simp [PV.refs])]
 | rb β => simp only [rnP, rn1]; rw [hσ β (by simp [PV.refs])]
 | np β => simp only [rnP, rn1]; rw [hσ β (by simp [PV.refs, PV.sref])]
 | nso β => simp only [rnP, rn1]; rw [hσ β (by simp [PV.refs, PV.sref])]
 | _ => rfl
theorem Qrn {B : List Nat} {F : Fr} {s β : Nat} (h : β ∈ (bse B F s).refs) : B.contains β = false := by
 cases hq : B.contains β with
 | false => rfl
 | true =>
  unfold bse Qv at h;split at h
  ·cases h
  ·rename_i hn; exact absurd (List.any_eq_true.2 ⟨β, h, hq⟩) hn
theorem Qts {B : List Nat} {F : Fr} {β δ : Nat} (hβ : B.contains β = true ∨ 2000000 <= β) (hβ2 : β < 1000000 ∨ 2000000 <= β) : mvF β δ (bse B F) = bse B F := by
 funext s;have hc := Qio B F s;refine Qtr hc fun x hx => if_neg fun e =>?_;subst e;rcases hβ with hβ | hβ
 ·rcases List.mem_append.1 hx with h | h
  ·rw [Qrn h] at hβ; cases hβ
  ·have h1 := hc.2.1 x h;simp [isS, isN] at h1; omega
 ·rcases List.mem_append.1 hx with h | h
  ·have := hc.1 x h; simp [isN] at this; omega
  ·have := hc.2.1 x h; simp [isS, isN] at this; omega
end Go.FW
namespace Go.FW
open Go
variable {C C' : Ctx} {ρ ρ' : Nat -> Option Nat} {fr fr' : Fr} {hp hp' : HP} {w : World} {K R : Qa}
def Qdj (γ : Nat) : PV -> PV
 |.mso β o n => if β = γ then .nso γ o n else .mso β o n
 |.mp β i o => if β = γ then .np γ i o else .mp β i o
 |.rb β o n => if β = γ then .undef else .rb β o n
 | p => p
def Qcf (γ : Nat) : PV -> PV
 |.fn f a b => Qn γ (.fn f a b)
 |.rag cs =>.rag (cs.map (Qdj γ))
 |.rtp cs =>.rtp (cs.map (Qdj γ))
 |.rtq cs q =>.rtq (cs.map (Qdj γ)) q
 |.nst γ' e ty xs => if γ' = γ then .undef else .nst γ' e ty (xs.map fun x => Qb5 (x.ncells.map (Qdj γ)))
 | p => Qdj γ p
def Qyo (γ : Nat) (x : PV) (fr : Fr) : Fr := fun s => if s = γ then x else Qcf γ (fr s)
end Go.FW
namespace Go.FW
open Go
variable {C : Ctx} {ρ : Nat -> Option Nat} {fr fr' : Fr} {hp hp' : HP} {w w' : World} {K R : Qa}
def Qyp (args : List PV) (G : Fr) : Fr := fun s => if s < 1000000 then (args[s]?).getD .undef else G s
def PV.one2 : PV -> Bool
 |.mso β _ _ => isB β
 |.int .. | .bool _ | .nilS => true
 | _ => false
def Qxk (fr : Fr) (s n : Nat) (cs : List PV) : Prop := ∃ γ i o e ty xs, fr s = .np γ i o /\ fr γ = .nst γ e ty xs /\ ∃ h : i < xs.length, o + n <= e /\ ldN true n o (xs[i]'h) = .rag cs
def Qro (rs : List RV) (Post : PV -> Fr -> HP -> Prop) : Qa := fun fr hp => ∃ fr' hp', Wk fr hp fr' hp' /\
 (Qce rs (fun r => Post r fr' (Ql hp' (rs.flatMap (lr fr')))) fr' hp' ∨ (∃ s, rs = [.t s] /\ Post (fr' s) fr' hp') ∨ (∃ s t, rs = [.t s, .t t] /\ (fr' s).one2 = true /\ (fr' t).one2 = true /\ Post (.rtp [fr' s, fr' t]) fr' hp') ∨ ∃ s n b cs, rs = [.cell s n true, b] /\ lr fr' b = [] /\ okR fr' hp' b /\ Qxk fr' s n cs /\ Post (.rtq cs (rvP fr' hp' b)) fr' hp')
theorem Qtt {rs : List RV} {Post : PV -> Fr -> HP -> Prop} : KM (Qro rs Post) (Qro rs Post) := by rintro f f' hp hf ⟨fr', hp', h1, h2⟩;exact ⟨fr', hp', hf.wk.trans h1, h2⟩
theorem Qac {rs : List RV} {Post : PV -> Fr -> HP -> Prop} : Qb2 (Qro rs Post) [] := ⟨Qtt, .nil⟩
structure Qm2 (C : Ctx) (hp : HP) (hp0 : HP) (gv : Nat -> Option Nat) : Prop where
 g : ∀ β γ, gv β = some γ -> ∃ hb, hp γ = some hb /\ isB β = true /\ (isR β = true -> hp0 β = some ⟨hb.e, hb.ty, hb.xs, true⟩) /\ (isR β = false -> hp0 β = some hb /\ hb.fz = false /\ isB γ = true /\ (isY β = false -> isY γ = false))
 a : ∀ β, hp0 β ≠ none -> ∃ γ, gv β = some γ
 i : ∀ β β' γ, gv β = some γ -> gv β' = some γ -> β = β'
def gn (gv : Nat -> Option Nat) : Nat -> Option Nat := fun β => if isR β = true then none else gv β
theorem Qtu {gv : Nat -> Option Nat} {β γ : Nat} (h : gn gv β = some γ) : isR β = false /\ gv β = some γ := by
 unfold gn at h;split at h
 ·cases h
 ·rename_i hr; exact ⟨by simpa using hr, h⟩
theorem Qm2.n {C : Ctx} {hp hp0 : HP} {gv : Nat -> Option Nat} (hh : Qm2 C hp hp0 gv) (β γ : Nat) (h : gn gv β = some γ) : ∃ hb, hp0 β = some hb /\ hp γ = some hb /\ hb.fz = false /\ isB β = true /\ isB γ = true /\ (isY β = false -> isY γ = false) := by obtain ⟨hr, h⟩ := Qtu h;obtain ⟨hb, h1, h2, _, h4⟩ := hh.g β γ h;obtain ⟨k1, k2, k3, k4⟩ := h4 hr;exact ⟨hb, k1, h1, k2, h2, k3, k4⟩
theorem Qm2.s {C : Ctx} {hp hp0 : HP} {gv : Nat -> Option Nat} (hh : Qm2 C hp hp0 gv) (β γ : Nat) (h : gv β = some γ) : ∃ hb hb', hp γ = some hb /\ hp0 β = some hb' /\ hb'.e = hb.e /\ hb'.ty = hb.ty /\ hb'.xs = hb.xs /\ (hb'.fz = false -> hb = hb' /\ isR β = false) /\ (isR β = true -> hb'.fz = true) /\ isB β = true := by
 obtain ⟨hb, h1, h2, h3, h4⟩ := hh.g β γ h;cases hr : isR β with
 | true => exact ⟨hb, _, h1, h3 hr, rfl, rfl, rfl, (fun h => by cases h), fun _ => rfl, h2⟩
 | false =>obtain ⟨k1, k2, _⟩ := h4 hr;exact ⟨hb, hb, h1, k1, rfl, rfl, rfl, (fun _ => ⟨rfl, rfl⟩), (fun h => by cases h), h2⟩
end Go.FW
namespace Go.FW
open Go
variable {C : Ctx} {R : Qa} {fr : Fr} {hp : HP} {K : Qa}
end Go.FW
