/- Part 4 of the proof of DiscoverCandidate: FwLN, FwM, FwN, FwO, FwP, FwQ, FwR, FwS, FwT, FwU, FwV, FwW, FwX, FwY, FwZ, FwBA, FwBB, FwBC, FwBD, FwBE, FwBF, FwBG, FwBH, FwCA, FwCB, FwCC, FwCD, FwCE, FwCF, FwCG, FwCH, FwCI, FwCJ, FwCK, FwCL, FwMA, FwMB, FwMC, FwPA, FwPB, FwPC, FwSA, FwSB, FwSC, FwTA, FwSet, FwSt, FwUB, FwNA, FwNB, FwND, FwNE, FwNF, FwSu. Own lemmas; no conditions. -/
import Derived.Test.YtnhofjeojfgfoaaGreatDiscoverCandidatePart3
import Derived.Deep.RegionHeld3
import Derived.LoopN
import Derived.ChangeSame
import Derived.ChangeStays
import Derived.Deep.Slices
import Derived.OpenShut
import Derived.RowKit
import Derived.ProofKit
import Derived.JoinedCond
set_option maxHeartbeats 1000000
set_option linter.unusedSimpArgs false
set_option linter.unusedVariables false
set_option linter.unnecessarySimpa false
set_option maxRecDepth 100000
namespace Go.FW
open Go
variable {C : Ctx} {ρ : Nat -> Option Nat} {fr : Fr} {hp : HP} {tmps : Array Value} {w : World} {a : Act} {K : Qa}
theorem Qfq {x : PV} (h : Qbn x = true) : ∃ β n, x = .mso β 0 n /\ 5000000 <= β := by
 unfold Qbn at h;split at h
 ·exact ⟨_, _, rfl, by simpa using h⟩
 ·cases h
theorem Qja {γ : Nat} : Qbe γ (Qav γ fr) = Qav γ fr := by
 funext i;unfold Qbe Qav;generalize fr i = p;cases p with
 | nst γ' e ty xs =>
  simp only [Q2];split
  ·rfl
  ·rename_i hne; simp [Qbi, hne]
 | nso γ' o n => simp only [Q2]; split <;> rfl
 | np γ' o n => simp only [Q2]; split <;> rfl
 | fn f first cap =>
  simp only [Q2];split
  ·rfl
  ·unfold Qs; split <;> rfl
 | rag cs => rfl
 | rtp cs => rfl
 | rtq cs q => rfl
 | _ => simp only [Q2, Qs]; split <;> rfl
theorem Qdp {γ β o n : Nat} {b' : Option Nat} {hb' : HB} {w' : World} {v : Value} (h : Qh C ρ fr hp tmps w) (hx : Ext (fun b => ρ γ = some b /\ ∃ hb, hp γ = some hb /\ hb.fz = false) w w') (hne : β ≠ γ)
  (hr : Qbu ρ hp w β o n v) : Qbu (rb ρ γ b') (Qf hp γ hb') w' β o n v :=
 Qbu.move hr ⟨Qc0 hne, fun hb hβ => ⟨hb, by simp [Qf, hne, hβ], rfl, Nat.le_refl _, fun b cap h1 h2 =>
  Qah (hx.block b (Qa3 h2) (fun ⟨e1, hb0, e2, _⟩ => hne (h.inj β γ b (by simp [hβ]) (by simp [e2]) h1 e1))) h2⟩⟩
theorem Qbu.slice {β o n : Nat} {v : Value} (h : Qbu ρ hp w β o n v) : ∃ ad m c, v = .slice ad m c := by
 obtain ⟨_, _, _, ⟨_, e, _⟩ | ⟨_, _, _, e, _⟩⟩ := h
 ·exact ⟨_, _, _, e⟩
 ·exact ⟨_, _, _, e⟩
theorem Qht {β : Nat} (h : 1000000 <= β) : isB β = true := by simp [isB]; omega
theorem Qir {β : Nat} (h : 2000000 <= β) : isY β = false := by simp [isY]; omega
theorem Qh.nestNew {γ b ty cap : Nat} {cur : Array Value} {xs : List PV} (h : Qh C ρ (Qav γ fr) hp tmps w) (hB : isB γ = true) (hγ : hp γ = some ⟨1, ty, [], false⟩) (hρ : ρ γ = some b)
  (h1 : w.heap[b]? = some (.cells cur ty (0, 0))) (h2 : cur.size = cap) (h3 : xs.length <= cap) (h4 : cap <= maxLen) (hr : xs.all Qbn = true)
  (h6 : ∀ (i β n : Nat), xs[i]? = some (.mso β 0 n) -> Qbu ρ hp w β 0 n (cur.getD i undef)) : Qh C ρ (FW.upd (Qav γ fr) γ (.nst γ 1 ty xs)) hp tmps w := by
 have hrow : ∀ (i : Nat) (x : PV), xs[i]? = some x -> ∃ β n, x = .mso β 0 n /\ 5000000 <= β := fun i x hx => Qfq (List.all_eq_true.1 hr _ (List.mem_of_getElem? hx));have := h.nestStore (w' := w) (γ := γ) (b := b) (e := 1) (ty := ty) (xs' := xs) (cur' := cur) (cap := cap) hB (by omega) hγ rfl rfl rfl rfl hρ (Ext.refl _ _) (fun _ _ h => h) h1 (by omega) h3 h4
  (fun i x hx => by obtain ⟨β, n, rfl, _⟩ := hrow i x hx; rfl)
  (fun i x hx j y hy => by
   obtain ⟨β, n, rfl, hβ⟩ := hrow i x hx;rw [show (PV.mso β 0 n).ncells = [.mso β 0 n] from rfl] at hy;have hj : j < 1 := by have := (List.getElem?_eq_some_iff.1 hy).1; simpa using this
   obtain rfl : j = 0 := by omega
   simp at hy;subst hy;rw [Nat.mul_one, Nat.add_zero];exact ⟨Qht (by omega), h6 i β n hx⟩)
 rwa [Qja] at this
theorem Qhu {γ k cap : Nat} {ρ' : Nat -> Option Nat} {hp' : HP} {b ty : Nat} {cur : Array Value} (hB : isB γ = true) (h1 : hp' γ = some ⟨1, ty, [], false⟩) (h2 : ρ' γ = some b) (h3 : w.heap[b]? = some (.cells cur ty (0, 0))) (h4 : cur.size = cap) (h5 : cap <= maxLen) (h6 : k <= cap) :
  Qb C ρ' hp' w (.nso γ 0 k) (.slice (some ⟨b, 0, none⟩) k cap) :=
 ⟨hB, ⟨1, ty, [], false⟩, b, cap, h1, h2, by simp, ⟨cur, ty, h3, by simp [h4]⟩, by omega, h6⟩
theorem Qoj {o : Oper} {t e : TypeId} {len n by_ : Nat} {z : PV} {parts : Array (Nat × Operand)} {ps : List Opd} {d : Nat} {Q : Exit -> Act -> World -> Prop} (ho : o.op = .buildSlice t len parts) (hd : o.dst = some d) (hlt : d < C.N) (hdef : a.defers = []) (h : Qh C ρ fr hp a.tmps w)
  (hu : C.P.underlying t = some (.slice e)) (hz : Qch C.P e = some (n, by_, z)) (hrange : parts.toList.map (·.1) = List.range len) (hzn : z.cells.length = n) (hps : (parts.toList.mapM fun p => opd p.2) = some ps)
  (hbig : Qd5 (ps.map (ev fr)) = true) (hv : bsN n e (ps.map (ev fr)) d fr hp K) : o.wp C.P a w (Qx C true w K) Q := by
 obtain ⟨rfl, hK⟩ := hv;obtain ⟨ti, zv, i1, i2, i3, i4, i5⟩ := Qcr hz;obtain ⟨m1, m2⟩ := Qbh hps;obtain ⟨u, rfl⟩ : ∃ u, ps = [u] := by
  match ps, hbig with
  | [], hb => simp [Qd5] at hb
  | [u], _ => exact ⟨u, rfl⟩
  | u :: v :: ps, hb => simp [Qd5] at hb
 have hrow : Qbn (ev fr u) = true := by simpa [Qd5] using hbig
 obtain ⟨β, m, hev, hβ⟩ := Qfq hrow;obtain ⟨⟨i, x⟩, hpx⟩ : ∃ p, parts.toList = [p] := by
  match hq : parts.toList with
  | [] => rw [hq] at m1; simp at m1
  | [p] => exact ⟨p, rfl⟩
  | p :: q :: r => rw [hq] at m1; simp at m1
 rw [hpx] at hrange m2;obtain rfl : len = 1 := by have := congrArg List.length hrange; simpa using this.symm
 obtain rfl : i = 0 := by simpa using hrange
 have hxu : opd x = some u := by obtain ⟨x', hx', ho'⟩ := m2 0 u rfl;simp at hx'; subst hx'; exact ho'
 have hx := Qq h hxu;rw [hev] at hx;have hro : Qbu ρ hp w β 0 m (a.eval x) := hx;obtain ⟨ad, m', c', hvx⟩ := hro.slice;have hN := C.hN;have hdN : nmN d < 5000000 := by unfold nmN; omega
 have hB : isB (nmN d) = true := Qht (by unfold nmN; omega);have hY : isY (nmN d) = false := Qir (by unfold nmN; omega);obtain ⟨hs, he⟩ := h.newBlockG (nmN d) hY Qc7 ⟨1, e, [], false⟩ #[a.eval x] 1 _ (.inl rfl) (by simp) (by simp) (by rw [Qar]; omega) (by simp) (by simp) (by simp);have hs2 := hs.nestNew (cur := #[a.eval x]) (cap := 1) (xs := [.mso β 0 m]) hB (by simp [Qf]) (Qaa _ _ _) (Q0 w _) (by simp) (by simp) (by rw [Qar]; omega) (by simp [Qbn, hβ]) (fun i β' n' hi => by
  match i, hi with
  | 0, hi =>simp at hi;obtain ⟨rfl, rfl⟩ := hi;exact Qdp h (Ext.alloc w _ _) (by omega) hro
  | i + 1, hi => simp at hi)
 rw [List.map_cons, List.map_nil, hev] at hK;refine Qaj (v :=.slice (some ⟨w.heap.size, 0, none⟩) 1 1) ?_ (Qx.ofBlock hd hlt hdef hs2 (fun _ => he) (Qhu hB (by simp [Qf]) (Qaa _ _ _) (Q0 w _) (by simp) (by rw [Qar]; omega) (by omega)) hK);unfold execOp;have hpe : (parts.map fun x => match x with | (i, x) => (i, a.eval x)).toList = [(0, a.eval x)] := by simp [hpx]
 simp only [ho, Instr.buildSlice, Sem.run_bind, Ql hu, Result.andThen_ok, Q8 (show tsz C.P e = some 1 by simp [tsz, i1, i3]), hpe];simp [Sem.run_pure, Sem.run_bind, Qbc i1 i2, Instr.fill, hvx, Value.cells, newRow, show Array.range 1 = #[0] from rfl]
theorem Qmt {o : Oper} {t : TypeId} {n : Nat} {x : Operand} {cs : List PV} {d : Nat} {Q : Exit -> Act -> World -> Prop} (ho : o.op = .box t x) (hd : o.dst = some d) (hlt : d < C.N) (hdef : a.defers = []) (h : Qh C ρ fr hp a.tmps w)
  (hx : Qb C ρ hp w (.rag cs) (a.eval x)) (hv : Qga n t cs d fr hp K) : o.wp C.P a w (Qx C true w K) Q := by
 obtain ⟨⟨hlen, hn, hU, hno⟩, hK⟩ := hv;obtain ⟨vs, ex, hsz, hcs⟩ := hx;have hN := C.hN;have hB : isB (nmN d) = true := Qht (by unfold nmN; omega);have hY : isY (nmN d) = false := Qir (by unfold nmN; omega);obtain ⟨hs, he⟩ := h.newBlockG (nmN d) hY Qc7 ⟨n, t, [], false⟩ vs 1 _ (.inl rfl) (by simp; omega) (by simp) (by rw [Qar]; omega) hn (by simp) (by simp);have hsl : ∀ (i : Nat) (y : PV), cs[i]? = some y -> Qax C (rb ρ (nmN d) (some w.heap.size)) (Qf hp (nmN d) ⟨n, t, [], false⟩) (w.alloc (.cells vs t)) y (vs.getD i undef) := fun i y hi => by
  have hm := List.mem_of_getElem? hi;have hny : ∀ β ∈ y.sref1, β ≠ nmN d := fun β hβ e => by have := List.all_eq_true.1 hno y hm;subst e;simp [hβ] at this
  refine (hcs i y hi).move ⟨fun b hb _ => Qdw w _ b hb, fun b hb hX =>?_, by rw [Qdx]; omega⟩ (fun β hβ => ⟨Qc0 (hny β hβ), fun hb hh => ⟨hb, by simp [Qf, hny β hβ, hh], rfl, Nat.le_refl _, fun b cap _ hc => Qah (Qdw w _ b (Qa3 hc)) hc⟩⟩);rintro (hx0 | ⟨γ, hg, h1, h2, h3⟩)
  ·exact hX (.inl hx0)
  ·by_cases hγ : γ = nmN d
   ·subst hγ;rw [Qaa] at h3;cases h3;omega
   ·refine hX (.inr ⟨γ, hg, ?_, h2, by rwa [Qc0 hγ] at h3⟩);simpa [Qf, hγ] using h1
 have := hs.nestStore (w' := w.alloc (.cells vs t)) (γ := nmN d) (b := w.heap.size) (e := n) (ty := t) (xs' := [.rag cs]) (cur' := vs) (cap := 1) hB hn (show Qf hp (nmN d) ⟨n, t, [], false⟩ (nmN d) = some ⟨n, t, [], false⟩ by simp [Qf]) rfl rfl rfl rfl (Qaa _ _ _) (Ext.refl _ _) (fun _ _ h => h) (Q0 w _) (by omega) (by simp) (by rw [Qar]; omega)
  (fun i x hx => by
   match i, hx with
   | 0, hx => simp at hx; subst hx; exact hlen
   | i + 1, hx => simp at hx)
  (fun i x hx j y hy => by
   match i, hx with
   | 0, hx => simp at hx; subst hx; rw [Nat.zero_mul, Nat.zero_add]; exact hsl j y hy
   | i + 1, hx => simp at hx)
 rw [Qja] at this;refine Qaj (v :=.pointer (some ⟨w.heap.size, 0, none⟩)) (w' := w.alloc (.cells vs t)) ?_ (Qx.ofBlock (p :=.np (nmN d) 0 0) hd hlt hdef this (fun _ => he) ⟨hB, w.heap.size, ⟨n, t, [], false⟩, Qaa _ _ _, by simp [Qf], by simp⟩ hK);unfold execOp;simp only [ho, Instr.box, newVar, newRow, ex, Value.cells];simp
theorem Qmu {o : Oper} {t : TypeId} {n : Nat} {x : Operand} {px : PV} {d : Nat} {Q : Exit -> Act -> World -> Prop} (ho : o.op = .box t x) (hd : o.dst = some d) (hlt : d < C.N) (hdef : a.defers = []) (h : Qh C ρ fr hp a.tmps w)
  (hx : Qb C ρ hp w px (a.eval x)) (hv : Qba n t px d fr hp K) : o.wp C.P a w (Qx C true w K) Q :=
 Qof ho hd hlt hdef h hx (fun _ e hb => Qmt ho hd hlt hdef h (e ▸ hx) hb) hv
theorem Qmv {o : Oper} {s x : Operand} {t e : TypeId} {n by_ : Nat} {z : PV} {ps px : PV} {d : Nat} {Q : Exit -> Act -> World -> Prop}
  (ho : o.op = .call { callee :=.builtin .append, args := #[s, x], argTypes := #[t, t] }) (hd : o.dst = some d) (hlt : d < C.N) (hdef : a.defers = []) (h : Qh C ρ fr hp a.tmps w)
  (hu : C.P.underlying t = some (.slice e)) (hz : Qch C.P e = some (n, by_, z)) (hzn : z.cells.length = n) (hs : Qb C ρ hp w ps (a.eval s)) (hx : Qb C ρ hp w px (a.eval x))
  (hv : Qik n by_ e ps px d fr hp K) : o.wp C.P a w (Qx C false w K) Q := by
 obtain ⟨ti, zv, i1, i2, i3, i4, i5⟩ := Qcr hz;have hN := C.hN;have hdN : nmN d < 5000000 := by unfold nmN; omega
 have hBd : isB (nmN d) = true := Qht (by unfold nmN; omega);have hYd : isY (nmN d) = false := Qir (by unfold nmN; omega);unfold Qik at hv;split at hv
 ·rename_i δ;split at hv
  ·rename_i δ' ty' y hfδ;obtain ⟨rfl, hyr, rfl, hv⟩ := hv;obtain ⟨β, m, rfl, hβ⟩ := Qfq hyr;obtain ⟨_, hbδ, b, cap, gδ, rδ, ex, _, _, _⟩ := hx;have hfact := h.slots δ';rw [hfδ] at hfact;obtain ⟨_, _, b2, hb2, cur, cap2, q1, q2, q3, q4, q5, q6, q7, q8, q9, _, q11⟩ := hfact;rw [gδ] at q2; cases q2;rw [rδ] at q1; cases q1;rw [Nat.zero_mul] at ex;have hrs := q11 0 _ rfl 0 (.mso β 0 m) rfl;simp only [Nat.zero_mul, Nat.zero_add] at hrs;have hro : Qbu ρ hp w β 0 m (cur.getD 0 undef) := hrs.2;obtain ⟨ad, m', c', hcv⟩ := hro.slice;have h0s : 0 < cur.size := by simp at q8; omega
   have hcell : w.cell? ⟨b, 0, none⟩ = some (cur.getD 0 undef) := Qak q6 h0s;obtain ⟨u, hu0⟩ : ∃ u, cur.getD 0 undef = u := ⟨_, rfl⟩
   rw [hu0] at hro hcv hcell;have hnews : ∀ (j : Nat) (v : Value), [u][j]? = some v -> w.cell? ((⟨b, 0, none⟩ : Addr).add j) = some v := fun j v hj => by
    have hj0 : j < 1 := by have := (List.getElem?_eq_some_iff.1 hj).1; simpa using this
    obtain rfl : j = 0 := by omega
    simp at hj; subst hj;rw [Addr.add_lit, Nat.add_zero]; exact hcell
   have hzs : zv.cells.size = 1 := by have := (Qbf (w := w) (X := Xof C ρ hp) i5).cells.1; omega
   split at hv
   ·obtain ⟨hb, hK⟩ := hv;have es := hs.nil_inv;have hrun := run_append_nil (P := C.P) w t o.type e ti zv hu i1 i2 ⟨b, 0, none⟩ 1 cap [u] (by simp [i3]) hnews (by omega) (by omega) (by rw [i4]; omega);have hge := grownCap_ge w 1 0 e;have hcm := grownCap_le_maxLen w 1 0 e (by rw [Qar]; omega);generalize grownCap w 1 0 e = G at hrun hge hcm;have hcs : ([u].toArray ++ Builtin.zeroCells zv.cells (G - 1)).size = G := by simp [size_zeroCells, hzs]; omega
    have hcs1 : ([u].toArray ++ Builtin.zeroCells zv.cells (G - 1)).size = G * 1 := by omega
    have hg0 : ([u].toArray ++ Builtin.zeroCells zv.cells (G - 1)).getD 0 undef = u := by rw [Qat, if_pos (by simp), Qbo]; rfl
    obtain ⟨hs1, _⟩ := h.newBlockG (nmN d) hYd Qc7 ⟨1, e, [], false⟩ ([u].toArray ++ Builtin.zeroCells zv.cells (G - 1)) G _ (.inr rfl) hcs1 (by simp) hcm (by simp) (by simp) (by simp);have hs2 := hs1.nestNew (cap := G) (xs := [.mso β 0 m]) hBd (by simp [Qf]) (Qaa _ _ _) (Q0 w.drew _) hcs (by simpa using hge) hcm (by simp [Qbn, hβ]) (fun i β' n' hi => by
     match i, hi with
     | 0, hi =>simp at hi;obtain ⟨rfl, rfl⟩ := hi;rw [hg0];exact Qdp h ((Ext.drew w _).trans (Ext.alloc w.drew _ _)) (by omega) hro
     | i + 1, hi => simp at hi)
    exact Qaj (Qa5 ho es ex hrun) (Qx.ofBlock hd hlt hdef hs2 (by simp) (Qhu hBd (by simp [Qf]) (Qaa _ _ _) (Q0 w.drew _) hcs hcm hge) hK)
   ·rename_i γ k;split at hv
    ·rename_i γ' ty2 xs hfγ;obtain ⟨⟨rfl, hγ5, hY, rfl, rfl, hxs, hby, hmax⟩, ⟨hb, hγ, hfz⟩, hK⟩ := hv;obtain ⟨hB, hbs, b1, cap1, g1, g2, es, g4, g5, g6⟩ := hs;rw [hγ] at g1; cases g1;have hfact := h.slots γ';rw [hfγ] at hfact;obtain ⟨_, _, b1', hb', cur1, cap1', p1, p2, p3, p4, p5, p6, p7, p8, p9, _, p11⟩ := hfact;rw [hγ] at p2; cases p2;rw [g2] at p1; cases p1;rw [Nat.zero_mul] at es;obtain ⟨cur1', ty1', d1, d2⟩ := g4;rw [p6] at d1; cases d1;rw [p4, Nat.mul_one, Nat.zero_add] at d2;rw [Nat.mul_one] at p7;obtain rfl : cap1' = cap1 := by omega
     have hro1 : ∀ (i β' n' : Nat), xs[i]? = some (.mso β' 0 n') -> Qbu ρ hp w β' 0 n' (cur1.getD i undef) := fun i β' n' hi => by have := p11 i _ hi 0 (.mso β' 0 n') rfl;simp only [Nat.mul_one, Nat.add_zero] at this;exact this.2
     have hrow1 : ∀ (i β' n' : Nat), xs[i]? = some (.mso β' 0 n') -> β' ≠ γ' := fun i β' n' hi => by have := List.all_eq_true.1 hxs _ (List.mem_of_getElem? hi);simp [Qbn] at this; omega
     have hall : (xs ++ [PV.mso β 0 m]).all Qbn = true := by rw [List.all_append, hxs]; simp [Qbn, hβ]
     have hown := (h.own γ' hb hγ).blk;rw [g2] at hown;obtain ⟨o1, o2, _⟩ := hown;replace o1 := Ctx.cls_N o1 hY;have hone : ∀ u' ∈ [u], u'.oneCell' = true := by intro u' hu';simp at hu'; subst hu';rw [hcv]; rfl
     by_cases hroom : xs.length + 1 <= cap1'
     ·have hrun := run_append_room (P := C.P) w t o.type ty2 ti hu i1 b1 xs.length cap1' cur1 p6 ⟨b, 0, none⟩ 1 cap [u] (by simp [i3]) hnews hone hroom (by simp [i3]; omega);rw [i3, Nat.mul_one] at hrun;have hfit : xs.length + [u].length <= cur1.size := by simp; omega
      have hss := Qcx (cur := cur1) (p := xs.length) (cs := [u]) hfit;have hsp := fun k hk => Qcw (cur := cur1) (p := xs.length) (cs := [u]) (k := k) hfit hk;generalize hW : (cur1.toList.take xs.length ++ [u] ++ cur1.toList.drop (xs.length + [u].length)).toArray = W at hrun hss hsp;have hE : Ext (fun c => ρ γ' = some c /\ ∃ hb, hp γ' = some hb /\ hb.fz = false) w (w.setRow b1 W) := (Qdg w b1 W).mono (fun i _ hi => ⟨hi ▸ g2, hb, hγ, hfz⟩);have hheap : (w.setRow b1 W).heap[b1]? = some (.cells W ty2 (0, 0)) := setRow_heap w b1 cur1 W ty2 _ p6;have hs1 := h.rebindG (w' := w.setRow b1 W) γ' (some b1) ⟨1, ty2, [], false⟩ hY Qc7 hE
       (fun c hc => by cases hc; exact ⟨o1, by simpa using o2, .inr ⟨g2, hb, hγ, hfz⟩⟩) (by simp) (by simp) (by simp)
       (fun c hc => by cases hc; exact ⟨W, cap1', hheap, by simp [hss]; omega, by simp, p9, by simp⟩)
      have hs2 := hs1.nestNew (cap := cap1') (xs := xs ++ [.mso β 0 m]) hB (by simp [Qf]) (Qaa _ _ _) hheap (by omega) (by simpa using hroom) p9 hall (fun i β' n' hi => by
       rw [List.getElem?_append] at hi;by_cases hil : i < xs.length
       ·rw [if_pos hil] at hi;rw [hsp i (by omega), if_neg (by omega)];exact Qdp h hE (hrow1 i β' n' hi) (hro1 i β' n' hi)
       ·rw [if_neg hil] at hi;have hi0 : i - xs.length < 1 := by have := (List.getElem?_eq_some_iff.1 hi).1; simpa using this
        obtain rfl : i = xs.length := by omega
        rw [Nat.sub_self] at hi;simp at hi;obtain ⟨rfl, rfl⟩ := hi;rw [hsp _ (by omega), if_pos (by simp), Nat.sub_self];exact Qdp h hE (by omega) hro)
      exact Qaj (Qa5 ho es ex hrun) (Qx.ofBlock hd hlt hdef hs2 (by simp) (Qhu hB (by simp [Qf]) (Qaa _ _ _) hheap (by omega) p9 hroom) hK)
     ·have hol : (cur1.toList.take xs.length).length = xs.length := by simp; omega
      have holds : ∀ (j : Nat) (v : Value), (cur1.toList.take xs.length)[j]? = some v -> w.cell? ((⟨b1, 0, none⟩ : Addr).add j) = some v := fun j v hj => by
       have hj' : j < xs.length := by have := (List.getElem?_eq_some_iff.1 hj).1; omega
       rw [List.getElem?_take_of_lt hj'] at hj;rw [Addr.add_lit, Nat.zero_add, Qak p6 (by omega), Qdv cur1 j v hj]
      have hrun := run_append_grow (P := C.P) w t o.type ty2 ti zv hu i1 i2 ⟨b1, 0, none⟩ xs.length cap1' (cur1.toList.take xs.length) (by rw [hol, i3, Nat.mul_one]) holds ⟨b, 0, none⟩ 1 cap [u] (by simp [i3]) hnews
       (by omega) (by omega) (growslice_fits (by omega) (by rw [i4]; exact hby))
      have hge := grownCap_ge w (xs.length + 1) cap1' ty2;have hcm := grownCap_le_maxLen w (xs.length + 1) cap1' ty2 (by rw [Qar]; exact hmax);generalize grownCap w (xs.length + 1) cap1' ty2 = G at hrun hge hcm;have hcs : ((cur1.toList.take xs.length).toArray ++ [u].toArray ++ Builtin.zeroCells zv.cells (G - (xs.length + 1))).size = G := by simp only [Array.size_append, List.size_toArray, hol, size_zeroCells, hzs, List.length_cons, List.length_nil]; omega
      have hgd : ∀ i, i < xs.length + 1 -> ((cur1.toList.take xs.length).toArray ++ [u].toArray ++ Builtin.zeroCells zv.cells (G - (xs.length + 1))).getD i undef = if i < xs.length then cur1.getD i undef else u := fun i hi => by
       rw [Qat, if_pos (by simp only [Array.size_append, List.size_toArray, hol, List.length_cons, List.length_nil]; omega), Qat, List.size_toArray, hol];by_cases hil : i < xs.length
       ·rw [if_pos hil, if_pos hil, Qbo, List.getD_eq_getElem?_getD, List.getElem?_take_of_lt hil];simp [Array.getD_eq_getD_getElem?]
       ·rw [if_neg hil, if_neg hil, Qbo, show i - xs.length = 0 by omega]; rfl
      generalize hW : (cur1.toList.take xs.length).toArray ++ [u].toArray ++ Builtin.zeroCells zv.cells (G - (xs.length + 1)) = W at hrun hcs hgd;obtain ⟨hs1, _⟩ := h.newBlockG γ' hY Qc7 ⟨1, ty2, [], false⟩ W G _ (.inr rfl) (by simp [hcs]) (by simp) hcm (by simp) (by simp) (by simp);have hE : Ext (fun c => ρ γ' = some c /\ ∃ hb, hp γ' = some hb /\ hb.fz = false) w (w.drew.alloc (.cells W ty2)) := (Ext.drew w _).trans (Ext.alloc w.drew _ _);have hs2 := hs1.nestNew (cap := G) (xs := xs ++ [.mso β 0 m]) hB (by simp [Qf]) (Qaa _ _ _) (Q0 w.drew _) hcs (by simpa using hge) hcm hall (fun i β' n' hi => by
       rw [List.getElem?_append] at hi;by_cases hil : i < xs.length
       ·rw [if_pos hil] at hi;rw [hgd i (by omega), if_pos hil];exact Qdp h hE (hrow1 i β' n' hi) (hro1 i β' n' hi)
       ·rw [if_neg hil] at hi;have hi0 : i - xs.length < 1 := by have := (List.getElem?_eq_some_iff.1 hi).1; simpa using this
        obtain rfl : i = xs.length := by omega
        rw [Nat.sub_self] at hi;simp at hi;obtain ⟨rfl, rfl⟩ := hi;rw [hgd _ (by omega), if_neg (by omega)];exact Qdp h hE (by omega) hro)
      exact Qaj (Qa5 ho es ex hrun) (Qx.ofBlock hd hlt hdef hs2 (by simp) (Qhu hB (by simp [Qf]) (Qaa _ _ _) (Q0 w.drew _) hcs hcm hge) hK)
    ·exact hv.elim
   ·exact hv.elim
  ·exact hv.elim
 ·exact hv.elim
theorem Qok {o : Oper} {t e : TypeId} {len n by_ : Nat} {z : PV} {parts : Array (Nat × Operand)} {ps : List Opd} {d : Nat} {Q : Exit -> Act -> World -> Prop} (ho : o.op = .buildSlice t len parts) (hd : o.dst = some d) (hlt : d < C.N) (hdef : a.defers = []) (h : Qh C ρ fr hp a.tmps w)
  (hu : C.P.underlying t = some (.slice e)) (hz : Qch C.P e = some (n, by_, z)) (hrange : parts.toList.map (·.1) = List.range len) (hsmall : len * n <= 16777216) (hzn : z.cells.length = n) (hps : (parts.toList.mapM fun p => opd p.2) = some ps)
  (hv : bsK n e (ps.map (ev fr)) d fr hp K) : o.wp C.P a w (Qx C true w K) Q := by
 unfold bsK at hv;split at hv
 ·rename_i hb; exact Qoj ho hd hlt hdef h hu hz hrange hzn hps hb hv
 ·exact Qqq ho hd hlt hdef h hu hz hrange hsmall hzn hps hv
theorem Qmw {o : Oper} {s x : Operand} {t e : TypeId} {n by_ : Nat} {z : PV} {ps px : PV} {d : Nat} {Q : Exit -> Act -> World -> Prop}
  (ho : o.op = .call { callee :=.builtin .append, args := #[s, x], argTypes := #[t, t] }) (hd : o.dst = some d) (hlt : d < C.N) (hdef : a.defers = []) (h : Qh C ρ fr hp a.tmps w)
  (hu : C.P.underlying t = some (.slice e)) (hz : Qch C.P e = some (n, by_, z)) (hzn : z.cells.length = n) (hs : Qb C ρ hp w ps (a.eval s)) (hx : Qb C ρ hp w px (a.eval x))
  (hv : Qct n by_ e ps px d fr hp K) : o.wp C.P a w (Qx C false w K) Q :=
 Qoh ho hd hlt hdef h hu hz hzn hs hx (fun _ hn => Qmv ho hd hlt hdef h hu hz hzn hs hx hn) hv
end Go.FW
namespace Go.FW
open Go
variable {C : Ctx} {ρ : Nat -> Option Nat} {fr : Fr} {hp : HP} {w : World} {a : Act} {K : Qa}
theorem Qkp {P : Program} {g : FuncId} (hg : (P.funcs[g]?).any (fun fn => fn.body.isSome && fn.name != "runtime.NumGoroutine") = true) (args : Array Value) (w : World) :
  (callFunc g args).run P w = .ok (.enter g args) w := by
 cases hf : P.funcs[g]? with
 | none => simp [hf] at hg
 | some fn =>
  simp only [hf, Option.any_some, Bool.and_eq_true, bne_iff_ne, ne_eq] at hg;obtain ⟨h1, h2⟩ := hg;have h3 : fn.body.isNone = false := by cases hb : fn.body <;> simp [hb] at h1 ⊢
  have h4 : (fn.name == "runtime.NumGoroutine") = false := by simpa using h2
  have hn : ¬ (fn.body = none) := fun he => by simp [he] at h1
  unfold callFunc;simp [hf, h2, hn]
theorem Qmx {o : Oper} {f : Operand} {args : Array Operand} {ts : Array TypeId} {pf : Opd} {pargs : List Opd} {pr : Bool} {Q : Exit -> Act -> World -> Prop}
  (ho : o.op = .call { callee :=.value f, args := args, argTypes := ts }) (hlt : ∀ d, o.dst = some d -> d < C.N) (hdef : a.defers = []) (h : Qh C ρ fr hp a.tmps w)
  (hf : opd f = some pf) (hargs : args.toList.mapM opd = some pargs) (hv : Qcz C pr (ev fr pf) (pargs.map (ev fr)) o.dst fr hp K) : o.wp C.P a w (Qx C pr w K) Q := by
 have hfr := Qq h hf;unfold Qcz at hv;split at hv
 ·rename_i g first cap hev
  rw [hev] at hfr;obtain ⟨hg, hcall⟩ := hv;obtain ⟨fv, cv, ef, h1, h2, h3, h4⟩ := hfr;obtain ⟨m1, m2⟩ := Qg7 h hargs;have hmap : (args.toList.map a.eval).toArray = args.map a.eval := Array.ext' (by simp);rw [hmap] at m2;have hc := hcall ρ a.tmps w fv cv (args.map a.eval) hlt h h1 h2 (by simpa using m1.symm) h3 h4 m2;have hex : (execOp a.eval o).run C.P w = .ok (.enter g (fv ++ args.map a.eval ++ cv)) w := by unfold execOp;simp only [ho, resolve, Sem.run_bind, Sem.run_pure, Result.andThen_ok, ef, Deferred.ofValue, invoke];rw [Qkp hg]
  unfold Oper.wp;rw [hex];refine hc.mono fun e w' hp' =>?_;obtain ⟨v, fr', hp', rfl, hs, hx, hK⟩ := hp';refine ⟨by rw [Qb1]; exact hdef, ⟨fr', hp', ?_, hK⟩, hx⟩;cases hd : o.dst with
  | some d => rw [hd] at hs; exact hs
  | none => rw [hd] at hs; exact hs
 ·exact hv.elim
theorem Qb9 {α : Type} {xs : Array α} {l : List α} (h : xs.toList = l) : xs = l.toArray := by subst h; simp
theorem Qen {P : Program} {t e : TypeId} (h : Qd8 P t = some e) : P.underlying t = some (.slice e) := by
 unfold Qd8 at h; split at h
 ·rename_i hq; cases h; exact hq
 ·cases h
theorem Qhv {dr : Bool} {o : Oper} (hcls : (Qv C.P dr o).cls = 0) (hlt : ∀ d, o.dst = some d -> d < C.N) (h : Qh C ρ fr hp a.tmps w) (hv : opV C (Qv C.P dr o) fr hp K) : Qg C ρ o a w K := by
 unfold Qv at hcls hv;cases hco : Qan C.P dr o with
 | none => rw [hco] at hv; exact hv.elim
 | some so =>
  rw [hco] at hcls hv;simp only [Option.getD_some] at hcls hv;unfold Qan at hco;split at hco
  case h_1 x d hop hd => simp only [Option.map_eq_some_iff] at hco; obtain ⟨y, hy, rfl⟩ := hco; exact Qkf (.inl hop) hd (hlt d hd) h (Qq h hy) hv
  case h_2 x d hop hd => simp only [Option.map_eq_some_iff] at hco; obtain ⟨y, hy, rfl⟩ := hco; exact Qkf (.inr hop) hd (hlt d hd) h (Qq h hy) hv
  case h_3 c x y d hop hd =>
   simp only [Option.bind_eq_some_iff, Option.map_eq_some_iff] at hco;obtain ⟨pc, hc, px, hx, py, hy, rfl⟩ := hco;exact Qmo hop hd (hlt d hd) h (Qq h hc) (Qq h hx) (Qq h hy) hv
  case h_4 op t x y t2 d hop hd =>
   simp only [Option.bind_eq_some_iff, Option.map_eq_some_iff] at hco;obtain ⟨px, hx, py, hy, rfl⟩ := hco;unfold Qj7 at hv;split at hv
   ·rename_i ng hng;split at hng
    ·rename_i hs2;exact Qn9 hop hng hs2 hd (hlt d hd) h (Qq h hx) (Qq h hy) hv
    ·cases hng
   split at hv
   ·rename_i ng hng;split at hng
    ·rename_i hs2;exact Qn7 hop hng hs2 hd (hlt d hd) h (Qq h hx) (Qq h hy) hv
    ·cases hng
   refine Qn3 hop hd (hlt d hd) h (Qq h hx) (Qq h hy) (fun hb =>?_) hv;split at hb
   ·assumption
   ·cases hb
  case h_5 op t x d hop hd => simp only [Option.map_eq_some_iff] at hco; obtain ⟨y, hy, rfl⟩ := hco; exact Qqi hop hd (hlt d hd) h (Qq h hy) hv
  case h_6 s t x d hop hd =>
   split at hco
   ·rename_i ds k hS hT;simp only [Option.map_eq_some_iff] at hco;obtain ⟨y, hy, rfl⟩ := hco;exact Qmn hop hd (hlt d hd) h hS hT (Qq h hy) hv
   ·cases hco
  case h_7 t x i d hop hd =>
   simp only [Option.bind_eq_some_iff] at hco;obtain ⟨px, hx, pi, hi, hco⟩ := hco;split at hco
   ·rename_i e hu;simp only [Option.map_eq_some_iff] at hco;obtain ⟨n, hn, rfl⟩ := hco;exact Qoa hop hd (hlt d hd) h hu hn (Qq h hx) (Qq h hi) hv
   ·rename_i len e hu;simp only [Option.map_eq_some_iff] at hco;obtain ⟨n, hn, rfl⟩ := hco;exact Qmp hop hd (hlt d hd) h hu hn (Qq h hx) (Qq h hi) hv
   ·cases hco
  case h_8 t x i d hop hd =>
   simp only [Option.bind_eq_some_iff] at hco;obtain ⟨px, hx, pi, hi, hco⟩ := hco;split at hco
   ·rename_i len e hu;simp only [Option.bind_eq_some_iff, Option.map_eq_some_iff] at hco;obtain ⟨n, hn, ag, hag, rfl⟩ := hco;exact Qod hop hd (hlt d hd) h hu hn hag (Qq h hx) (Qq h hi) hv
   ·rename_i hu;cases hco;exact Qoc hop hd (hlt d hd) h hu (Qq h hx) (Qq h hi) hv
   ·cases hco
  case h_9 t x j d hop hd =>
   simp only [Option.bind_eq_some_iff] at hco;obtain ⟨px, hx, hco⟩ := hco;split at hco
   ·rename_i fs hu;simp only [Option.bind_eq_some_iff] at hco;obtain ⟨f, hf, n, hn, hco⟩ := hco;split at hco
    ·cases hco
    ·rename_i hn0;simp only [Option.some.injEq] at hco; subst hco;exact Qob hop hd (hlt d hd) h hu hf hn hn0 (Qq h hx) hv
   ·cases hco
  case h_10 t x j d hop hd =>
   simp only [Option.bind_eq_some_iff] at hco;obtain ⟨px, hx, hco⟩ := hco;split at hco
   ·rename_i fs hu;simp only [Option.bind_eq_some_iff, Option.map_eq_some_iff] at hco;obtain ⟨f, hf, n, hn, ag, hag, rfl⟩ := hco;exact Qmq hop hd (hlt d hd) h hu hf hn hag (Qq h hx) hv
   ·cases hco
  case h_17 t parts d hop hd =>
   simp only [Option.bind_eq_some_iff, Option.map_eq_some_iff] at hco;obtain ⟨⟨n, by_, z⟩, hz, ps, hps, rfl⟩ := hco;simp only [opV, Qck] at hv;split at hv
   ·exact Qms hop hd (hlt d hd) h hz hps hv
   ·exact Qoe hop hd (hlt d hd) h hz hps hv
  case h_18 t x lo hi m d hop hd =>
   simp only [Option.bind_eq_some_iff, Option.map_eq_some_iff] at hco;obtain ⟨px, hx, plo, hlo, phi, hhi, pm, hm, e, he, n, hn, rfl⟩ := hco;have hu : C.P.underlying t = some (.slice e) := by
    unfold Qd8 at he; split at he
    ·rename_i hq; cases he; exact hq
    ·cases he
   exact Qqm hop hd (hlt d hd) h hu hn (Qq h hx) hlo hhi hm hv
  case h_19 x i d hop hd => simp only [Option.map_eq_some_iff] at hco; obtain ⟨y, hy, rfl⟩ := hco; exact Qn8 hop hd (hlt d hd) h (Qq h hy) hv
  case h_20 f first cap d hop hd =>
   simp only [Option.bind_eq_some_iff, Option.map_eq_some_iff] at hco;obtain ⟨pf, h1, pc, h2, rfl⟩ := hco;exact Qqn hop hd (hlt d hd) h h1 h2 hv
  case h_11 => simp only [Option.bind_eq_some_iff, Option.map_eq_some_iff] at hco; obtain ⟨_, _, _, _, _, _, rfl⟩ := hco; cases hcls
  case h_12 => simp only [Option.bind_eq_some_iff, Option.map_eq_some_iff] at hco; obtain ⟨_, _, _, _, _, _, rfl⟩ := hco; cases hcls
  case h_13 => simp only [Option.bind_eq_some_iff, Option.map_eq_some_iff] at hco; obtain ⟨_, _, _, _, rfl⟩ := hco; cases hcls
  case h_14 => simp only [Option.map_eq_some_iff] at hco; obtain ⟨_, _, rfl⟩ := hco; cases hcls
  case h_15 => simp only [Option.bind_eq_some_iff, Option.map_eq_some_iff] at hco; obtain ⟨_, _, _, _, _, _, _, _, rfl⟩ := hco; cases hcls
  case h_16 =>
   simp only [Option.bind_eq_some_iff] at hco;obtain ⟨_, _, _, _, hco⟩ := hco;split at hco
   ·simp only [Option.map_eq_some_iff] at hco; obtain ⟨_, _, rfl⟩ := hco; cases hcls
   ·cases hco
  case h_21 hop => simp only [Option.map_eq_some_iff] at hco; obtain ⟨y, hy, rfl⟩ := hco; exact Qmr hop hlt h (Qq h hy) hv
  case h_22 c hop =>
   obtain ⟨callee, args, ts⟩ := c;split at hco
   ·simp only [Option.bind_eq_some_iff, Option.map_eq_some_iff] at hco; obtain ⟨_, _, _, _, rfl⟩ := hco; cases hcls
   ·rename_i x t d hcal hargs hts hd;obtain rfl : args = #[x] := Qb9 hargs;obtain rfl : ts = #[t] := Qb9 hts;cases hcal;split at hco
    ·rename_i hs;simp only [Option.map_eq_some_iff] at hco;obtain ⟨y, hy, rfl⟩ := hco;exact Qn6 hop hd (hlt d hd) h (Qq h hy) hs hv
    simp only [Option.bind_eq_some_iff, Option.map_eq_some_iff] at hco;obtain ⟨e, he, y, hy, rfl⟩ := hco;exact Qn5 hop hd (hlt d hd) h (Qq h hy) (Qen he) hv
   ·rename_i x y d hcal hargs hd;simp only [Option.bind_eq_some_iff, Option.map_eq_some_iff] at hco;obtain ⟨px, hx, py, hy, rfl⟩ := hco;obtain rfl : args = #[x, y] := Qb9 hargs;cases hcal;exact Qqg hop hd (hlt d hd) h (Qq h hx) (Qq h hy) hv
   ·rename_i x y d hcal hargs hd;simp only [Option.bind_eq_some_iff, Option.map_eq_some_iff] at hco;obtain ⟨px, hx, py, hy, rfl⟩ := hco;obtain rfl : args = #[x, y] := Qb9 hargs;cases hcal;exact Qqh hop hd (hlt d hd) h (Qq h hx) (Qq h hy) hv
   ·simp only [Option.bind_eq_some_iff] at hco;obtain ⟨_, _, _, _, _, _, hco⟩ := hco;split at hco
    ·simp only [Option.bind_eq_some_iff] at hco;obtain ⟨_, _, hco⟩ := hco;split at hco
     ·cases hco; cases hcls
     ·cases hco
    ·cases hco
   ·simp only [Option.bind_eq_some_iff] at hco;obtain ⟨_, _, _, _, _, _, hco⟩ := hco;split at hco
    ·simp only [Option.map_eq_some_iff] at hco; obtain ⟨_, _, rfl⟩ := hco; cases hcls
    ·cases hco
   ·cases hco
  case h_23 => cases hco
theorem Qhw {dr : Bool} {o : Oper} (hcls : (Qv C.P dr o).cls = 1) (hlt : ∀ d, o.dst = some d -> d < C.N) (h : Qh C ρ fr hp a.tmps w) (hv : opV C (Qv C.P dr o) fr hp K) : Qgd C ρ o a w K := by
 unfold Qv at hcls hv;cases hco : Qan C.P dr o with
 | none => rw [hco] at hv; exact hv.elim
 | some so =>
  rw [hco] at hcls hv;simp only [Option.getD_some] at hcls hv;unfold Qan at hco;split at hco
  case h_11 t x d hop hd =>
   simp only [Option.bind_eq_some_iff, Option.map_eq_some_iff] at hco;obtain ⟨px, hx, n, hn, ag, hag, rfl⟩ := hco;exact Qql hop hd (hlt d hd) h hn hag (Qq h hx) hv
  case h_1 => simp only [Option.map_eq_some_iff] at hco; obtain ⟨_, _, rfl⟩ := hco; cases hcls
  case h_2 => simp only [Option.map_eq_some_iff] at hco; obtain ⟨_, _, rfl⟩ := hco; cases hcls
  case h_3 => simp only [Option.bind_eq_some_iff, Option.map_eq_some_iff] at hco; obtain ⟨_, _, _, _, _, _, rfl⟩ := hco; cases hcls
  case h_4 => simp only [Option.bind_eq_some_iff, Option.map_eq_some_iff] at hco; obtain ⟨_, _, _, _, rfl⟩ := hco; unfold Qj7 at hcls; split at hcls <;> first | (cases hcls; done) | (split at hcls <;> cases hcls)
  case h_5 => simp only [Option.map_eq_some_iff] at hco; obtain ⟨_, _, rfl⟩ := hco; cases hcls
  case h_6 => split at hco <;> first | cases hco | (simp only [Option.map_eq_some_iff] at hco; obtain ⟨_, _, rfl⟩ := hco; cases hcls)
  case h_7 =>
   simp only [Option.bind_eq_some_iff] at hco;obtain ⟨_, _, _, _, hco⟩ := hco;split at hco <;> first | cases hco | (simp only [Option.map_eq_some_iff] at hco; obtain ⟨_, _, rfl⟩ := hco; cases hcls)
  case h_8 =>
   simp only [Option.bind_eq_some_iff] at hco;obtain ⟨_, _, _, _, hco⟩ := hco;split at hco <;> first | (simp only [Option.bind_eq_some_iff, Option.map_eq_some_iff] at hco; obtain ⟨_, _, _, _, rfl⟩ := hco; cases hcls) | (cases hco; done) | (cases hco; cases hcls)
  case h_9 =>
   simp only [Option.bind_eq_some_iff] at hco;obtain ⟨_, _, hco⟩ := hco;split at hco
   ·simp only [Option.bind_eq_some_iff] at hco;obtain ⟨_, _, _, _, hco⟩ := hco;split at hco <;> first | (cases hco; done) | (simp only [Option.some.injEq] at hco; subst hco; cases hcls)
   ·cases hco
  case h_10 =>
   simp only [Option.bind_eq_some_iff] at hco;obtain ⟨_, _, hco⟩ := hco;split at hco <;> first | (cases hco; done) | (simp only [Option.bind_eq_some_iff, Option.map_eq_some_iff] at hco; obtain ⟨_, _, _, _, _, _, rfl⟩ := hco; cases hcls)
  case h_12 => simp only [Option.bind_eq_some_iff, Option.map_eq_some_iff] at hco; obtain ⟨_, _, _, _, _, _, rfl⟩ := hco; cases hcls
  case h_13 => simp only [Option.bind_eq_some_iff, Option.map_eq_some_iff] at hco; obtain ⟨_, _, _, _, rfl⟩ := hco; cases hcls
  case h_14 => simp only [Option.map_eq_some_iff] at hco; obtain ⟨_, _, rfl⟩ := hco; cases hcls
  case h_15 => simp only [Option.bind_eq_some_iff, Option.map_eq_some_iff] at hco; obtain ⟨_, _, _, _, _, _, _, _, rfl⟩ := hco; cases hcls
  case h_16 =>
   simp only [Option.bind_eq_some_iff] at hco;obtain ⟨_, _, _, _, hco⟩ := hco;split at hco
   ·simp only [Option.map_eq_some_iff] at hco; obtain ⟨_, _, rfl⟩ := hco; cases hcls
   ·cases hco
  case h_17 => simp only [Option.bind_eq_some_iff, Option.map_eq_some_iff] at hco; obtain ⟨_, _, _, _, rfl⟩ := hco; cases hcls
  case h_18 => simp only [Option.bind_eq_some_iff, Option.map_eq_some_iff] at hco; obtain ⟨_, _, _, _, _, _, _, _, _, _, _, _, rfl⟩ := hco; cases hcls
  case h_19 => simp only [Option.map_eq_some_iff] at hco; obtain ⟨_, _, rfl⟩ := hco; cases hcls
  case h_20 => simp only [Option.bind_eq_some_iff, Option.map_eq_some_iff] at hco; obtain ⟨_, _, _, _, rfl⟩ := hco; cases hcls
  case h_21 => simp only [Option.map_eq_some_iff] at hco; obtain ⟨_, _, rfl⟩ := hco; cases hcls
  case h_22 =>
   split at hco
   ·simp only [Option.bind_eq_some_iff, Option.map_eq_some_iff] at hco; obtain ⟨_, _, _, _, rfl⟩ := hco; cases hcls
   ·split at hco
    ·simp only [Option.map_eq_some_iff] at hco; obtain ⟨_, _, rfl⟩ := hco; cases hcls
    ·simp only [Option.bind_eq_some_iff, Option.map_eq_some_iff] at hco; obtain ⟨_, _, _, _, rfl⟩ := hco; cases hcls
   ·simp only [Option.bind_eq_some_iff, Option.map_eq_some_iff] at hco; obtain ⟨_, _, _, _, rfl⟩ := hco; cases hcls
   ·simp only [Option.bind_eq_some_iff, Option.map_eq_some_iff] at hco; obtain ⟨_, _, _, _, rfl⟩ := hco; cases hcls
   ·simp only [Option.bind_eq_some_iff] at hco;obtain ⟨_, _, _, _, _, _, hco⟩ := hco;split at hco
    ·simp only [Option.bind_eq_some_iff] at hco;obtain ⟨_, _, hco⟩ := hco;split at hco
     ·cases hco; cases hcls
     ·cases hco
    ·cases hco
   ·simp only [Option.bind_eq_some_iff] at hco;obtain ⟨_, _, _, _, _, _, hco⟩ := hco;split at hco
    ·simp only [Option.map_eq_some_iff] at hco; obtain ⟨_, _, rfl⟩ := hco; cases hcls
    ·cases hco
   ·cases hco
  case h_23 => cases hco
theorem Qg.wp {o : Oper} {two : Bool} {Q : Exit -> Act -> World -> Prop} (hdef : a.defers = []) (h : Qg C ρ o a w K) : o.wp C.P a w (Qx C two w K) Q := by obtain ⟨v, hr, fr', hp', hs, hK⟩ := h;exact Qaj (hr w) ⟨by rw [Qb1]; exact hdef, ⟨fr', hp', ⟨ρ, hs⟩, hK⟩, fun _ => Ext.refl _ _⟩
theorem Qgd.wp {o : Oper} {two : Bool} {Q : Exit -> Act -> World -> Prop} (hdef : a.defers = []) (h : Qgd C ρ o a w K) : o.wp C.P a w (Qx C two w K) Q := by obtain ⟨v, b, _, hr, fr', hp', hs, hK⟩ := h;exact Qaj (hr w rfl) ⟨by rw [Qb1]; exact hdef, ⟨fr', hp', ⟨ρ, hs⟩, hK⟩, fun _ => Ext.refl _ _⟩
theorem Qx.mono {two two' : Bool} {a' : Act} {w' : World} (h2 : two' = true -> two = true) (h : Qx C two w K a' w') : Qx C two' w K a' w' := ⟨h.1, h.2.1, fun hh => h.2.2 (h2 hh)⟩
theorem Qqt {dr : Bool} {o : Oper} {Q : Exit -> Act -> World -> Prop} (hlt : ∀ d, o.dst = some d -> d < C.N) (hdef : a.defers = []) (h : Qh C ρ fr hp a.tmps w) (hv : opV C (Qv C.P dr o) fr hp K) :
  o.wp C.P a w (Qx C (!(Qv C.P dr o).brk) w K) Q := by
 by_cases h0 : (Qv C.P dr o).cls = 0
 ·exact (Qhv h0 hlt h hv).wp hdef
 by_cases h1 : (Qv C.P dr o).cls = 1
 ·exact (Qhw h1 hlt h hv).wp hdef
 unfold Qv at h0 h1 hv ⊢;cases hco : Qan C.P dr o with
 | none => rw [hco] at hv; exact hv.elim
 | some so =>
  rw [hco] at h0 h1 hv;simp only [Option.getD_some] at h0 h1 hv ⊢;have fin : ∀ {two : Bool}, (so.brk = false -> two = true) -> o.wp C.P a w (Qx C two w K) Q -> o.wp C.P a w (Qx C (!so.brk) w K) Q := fun h2 hw =>
   Oper.wp_mono (fun a' w' hA => hA.mono (fun hh => h2 (by simpa using hh))) hw
  unfold Qan at hco;split at hco
  case h_12 t x y hop hd =>
   simp only [Option.bind_eq_some_iff, Option.map_eq_some_iff] at hco;obtain ⟨px, hx, py, hy, n, hn, rfl⟩ := hco;exact fin (by simp [SOp.brk]) (Qqs hop hd hdef h hn (Qq h hx) (Qq h hy) hv)
  case h_13 t x d hop hd =>
   simp only [Option.bind_eq_some_iff, Option.map_eq_some_iff] at hco;obtain ⟨px, hx, n, hn, rfl⟩ := hco;exact fin (fun _ => rfl) (Qmu hop hd (hlt d hd) hdef h (Qq h hx) hv)
  case h_14 t d hop hd =>
   simp only [Option.map_eq_some_iff] at hco;obtain ⟨⟨n, by_, z⟩, hz, rfl⟩ := hco;obtain ⟨ti, zv, i1, i2, _, _, i5⟩ := Qcr hz;exact fin (fun _ => rfl) (Qll hop hd (hlt d hd) hdef h i1 i2 i5 hv)
  case h_15 t l c d hop hd =>
   simp only [Option.bind_eq_some_iff, Option.map_eq_some_iff] at hco;obtain ⟨pl, hl, pc, hc, e, he, ⟨n, by_, z⟩, hz, rfl⟩ := hco;exact fin (fun _ => rfl) (Qqp hop hd (hlt d hd) hdef h (Qen he) hz (Qq h hl) (Qq h hc) hv)
  case h_16 t len parts d hop hd =>
   simp only [Option.bind_eq_some_iff] at hco;obtain ⟨e, he, ⟨n, by_, z⟩, hz, hco⟩ := hco;split at hco
   ·rename_i hcond;simp only [Option.map_eq_some_iff] at hco;obtain ⟨ps, hps, rfl⟩ := hco;exact fin (fun _ => rfl) (Qok hop hd (hlt d hd) hdef h (Qen he) hz hcond.1 hcond.2.1 hcond.2.2 hps hv)
   ·cases hco
  case h_22 c hop =>
   obtain ⟨callee, args, ts⟩ := c;split at hco
   ·rename_i f hcal;simp only [Option.bind_eq_some_iff, Option.map_eq_some_iff] at hco;obtain ⟨pf, hf, pargs, hargs, rfl⟩ := hco;cases hcal;exact fin (two := dr && !Qn2 C.P pf) (fun hh => by simpa [SOp.brk] using hh) (Qmx hop hlt hdef h hf hargs hv)
   ·split at hco
    ·simp only [Option.map_eq_some_iff] at hco; obtain ⟨_, _, rfl⟩ := hco; exact absurd rfl h0
    ·simp only [Option.bind_eq_some_iff, Option.map_eq_some_iff] at hco; obtain ⟨_, _, _, _, rfl⟩ := hco; exact absurd rfl h0
   ·simp only [Option.bind_eq_some_iff, Option.map_eq_some_iff] at hco; obtain ⟨_, _, _, _, rfl⟩ := hco; exact absurd rfl h0
   ·simp only [Option.bind_eq_some_iff, Option.map_eq_some_iff] at hco; obtain ⟨_, _, _, _, rfl⟩ := hco; exact absurd rfl h0
   ·rename_i s x t u d hcal hargs hts hd;simp only [Option.bind_eq_some_iff] at hco;obtain ⟨ps, hs, px, hx, e, he, hco⟩ := hco;split at hco
    ·rename_i htu;subst htu;simp only [Option.bind_eq_some_iff] at hco;obtain ⟨⟨n, by_, z⟩, hz, hco⟩ := hco;split at hco
     ·rename_i hzn;simp only [Option.some.injEq] at hco;subst hco;obtain rfl : args = #[s, x] := Qb9 hargs;obtain rfl : ts = #[t, t] := Qb9 hts;cases hcal;exact fin (by simp [SOp.brk]) (Qmw hop hd (hlt d hd) hdef h (Qen he) hz hzn (Qq h hs) (Qq h hx) hv)
     ·cases hco
    ·cases hco
   ·rename_i s x t u d hcal hargs hts hd;simp only [Option.bind_eq_some_iff] at hco;obtain ⟨ps, hs, px, hx, e, he, hco⟩ := hco;split at hco
    ·rename_i htu;subst htu;simp only [Option.map_eq_some_iff] at hco;obtain ⟨n, hn, rfl⟩ := hco;obtain rfl : args = #[s, x] := Qb9 hargs;obtain rfl : ts = #[t, t] := Qb9 hts;cases hcal;exact fin (by simp [SOp.brk]) (Qoi hop hd (hlt d hd) hdef h (Qen he) hn (Qq h hs) (Qq h hx) hv)
    ·cases hco
   ·cases hco
  all_goals exfalso
  case h_1 => simp only [Option.map_eq_some_iff] at hco; obtain ⟨_, _, rfl⟩ := hco; exact h0 rfl
  case h_2 => simp only [Option.map_eq_some_iff] at hco; obtain ⟨_, _, rfl⟩ := hco; exact h0 rfl
  case h_3 => simp only [Option.bind_eq_some_iff, Option.map_eq_some_iff] at hco; obtain ⟨_, _, _, _, _, _, rfl⟩ := hco; exact h0 rfl
  case h_4 => simp only [Option.bind_eq_some_iff, Option.map_eq_some_iff] at hco; obtain ⟨_, _, _, _, rfl⟩ := hco; exact h0 (by unfold Qj7; split <;> first | rfl | (split <;> rfl))
  case h_5 => simp only [Option.map_eq_some_iff] at hco; obtain ⟨_, _, rfl⟩ := hco; exact h0 rfl
  case h_6 => split at hco <;> first | (cases hco; done) | (simp only [Option.map_eq_some_iff] at hco; obtain ⟨_, _, rfl⟩ := hco; exact h0 rfl)
  case h_7 =>
   simp only [Option.bind_eq_some_iff] at hco;obtain ⟨_, _, _, _, hco⟩ := hco;split at hco <;> first | (cases hco; done) | (simp only [Option.map_eq_some_iff] at hco; obtain ⟨_, _, rfl⟩ := hco; exact h0 rfl)
  case h_8 =>
   simp only [Option.bind_eq_some_iff] at hco;obtain ⟨_, _, _, _, hco⟩ := hco;split at hco <;> first | (cases hco; done) | (simp only [Option.bind_eq_some_iff, Option.map_eq_some_iff] at hco; obtain ⟨_, _, _, _, rfl⟩ := hco; exact h0 rfl) | (cases hco; exact h0 rfl)
  case h_9 =>
   simp only [Option.bind_eq_some_iff] at hco;obtain ⟨_, _, hco⟩ := hco;split at hco
   ·simp only [Option.bind_eq_some_iff] at hco;obtain ⟨_, _, _, _, hco⟩ := hco;split at hco <;> first | (cases hco; done) | (simp only [Option.some.injEq] at hco; subst hco; exact h0 rfl)
   ·cases hco
  case h_10 =>
   simp only [Option.bind_eq_some_iff] at hco;obtain ⟨_, _, hco⟩ := hco;split at hco <;> first | (cases hco; done) | (simp only [Option.bind_eq_some_iff, Option.map_eq_some_iff] at hco; obtain ⟨_, _, _, _, _, _, rfl⟩ := hco; exact h0 rfl)
  case h_11 => simp only [Option.bind_eq_some_iff, Option.map_eq_some_iff] at hco; obtain ⟨_, _, _, _, _, _, rfl⟩ := hco; exact h1 rfl
  case h_17 => simp only [Option.bind_eq_some_iff, Option.map_eq_some_iff] at hco; obtain ⟨_, _, _, _, rfl⟩ := hco; exact h0 rfl
  case h_18 => simp only [Option.bind_eq_some_iff, Option.map_eq_some_iff] at hco; obtain ⟨_, _, _, _, _, _, _, _, _, _, _, _, rfl⟩ := hco; exact h0 rfl
  case h_19 => simp only [Option.map_eq_some_iff] at hco; obtain ⟨_, _, rfl⟩ := hco; exact h0 rfl
  case h_20 => simp only [Option.bind_eq_some_iff, Option.map_eq_some_iff] at hco; obtain ⟨_, _, _, _, rfl⟩ := hco; exact h0 rfl
  case h_21 => simp only [Option.map_eq_some_iff] at hco; obtain ⟨_, _, rfl⟩ := hco; exact h0 rfl
  case h_23 => cases hco
end Go.FW
namespace Go.FW
open Go
variable {C : Ctx} {ρ : Nat -> Option Nat} {fr : Fr} {hp : HP} {w : World} {a : Act} {K : Qa}
theorem Qqu (h : Qh C ρ fr hp a.tmps w) {s : Nat} (hs : s < C.N) : a.tmps[s]? = some (a.tmps.getD s undef) := by
 have : s < a.tmps.size := by rw [h.sz]; exact hs
 simp [Array.getD, this]
theorem Qgz {dr : Bool} {ops : Array Oper} {o : Oper} {g : GOp} (h : Qh C ρ fr hp a.tmps w) (hc : Qcb C.P C.N dr ops o = some g) (hv : Qfo C g.g g.o fr hp K) :
  (∀ d, o.dst = some d -> d < C.N) /\ g.o = Qv C.P dr o /\
  ((Region.wanted o (yielded ops a.tmps) = true /\ opV C g.o fr hp K) ∨ (Region.wanted o (yielded ops a.tmps) = false /\ Qb2 g.o fr hp K)) := by
 unfold Qcb at hc;split at hc
 ·rename_i hall;have hlt : ∀ d, o.dst = some d -> d < C.N := fun d hd => by rw [hd] at hall; simpa using hall
  cases hg : o.guard with
  | none =>rw [hg] at hc; cases hc;exact ⟨hlt, rfl, .inl ⟨by simp [Region.wanted, hg], hv⟩⟩
  | some jw =>
   obtain ⟨j, want⟩ := jw;rw [hg] at hc;simp only at hc;split at hc
   ·rename_i s hs;split at hc
    ·rename_i hsN;cases hc;refine ⟨hlt, rfl, ?_⟩;have ht := Qqu h hsN;have hr := h.slots s;simp only [Qfo] at hv;split at hv
     ·rename_i t hfs;rw [hfs] at hr;have hb := hr.bool_inv;have hy : yielded ops a.tmps j = some t := by simp only [yielded, hs, Option.bind_some, ht, hb]
      have hsame : ∀ b, t = b -> upd fr s (.bool b) = fr := fun b hb' => by
       funext i; unfold upd; split
       ·rename_i hi; subst hi; subst hb'; exact hfs.symm
       ·rfl
      by_cases hw : t = want
      ·refine .inl ⟨by simp [Region.wanted, hg, hy, hw], ?_⟩;have := hv.1 hw
       rwa [hsame want hw] at this
      ·have hw' : t = !want := by cases t <;> cases want <;> simp_all
       refine .inr ⟨by simp [Region.wanted, hg, hy, hw], ?_⟩;have := hv.2 hw'
       rwa [hsame _ hw'] at this
     ·rename_i hfs;rw [hfs] at hr;obtain ⟨vs, ev, hsz, _⟩ := hr;have hv0 : vs = #[] := Array.eq_empty_of_size_eq_zero (by simpa using hsz);have hy : yielded ops a.tmps j = none := by simp only [yielded, hs, Option.bind_some, ht, ev]
      exact .inr ⟨by simp [Region.wanted, hg, hy], hv⟩
     ·exact hv.elim
    ·cases hc
   ·cases hc
 ·cases hc
theorem Qol {dr : Bool} {o : Oper} : (Qv C.P dr o).dst = o.dst := by
 unfold Qv;cases hco : Qan C.P dr o with
 | none => rfl
 | some so =>
  simp only [Option.getD_some];unfold Qan at hco;split at hco
  case h_1 hd => simp only [Option.map_eq_some_iff] at hco; obtain ⟨_, _, rfl⟩ := hco; exact hd.symm
  case h_2 hd => simp only [Option.map_eq_some_iff] at hco; obtain ⟨_, _, rfl⟩ := hco; exact hd.symm
  case h_3 hd => simp only [Option.bind_eq_some_iff, Option.map_eq_some_iff] at hco; obtain ⟨_, _, _, _, _, _, rfl⟩ := hco; exact hd.symm
  case h_4 hd => simp only [Option.bind_eq_some_iff, Option.map_eq_some_iff] at hco; obtain ⟨_, _, _, _, rfl⟩ := hco; unfold Qj7; split <;> first | exact hd.symm | (split <;> exact hd.symm)
  case h_5 hd => simp only [Option.map_eq_some_iff] at hco; obtain ⟨_, _, rfl⟩ := hco; exact hd.symm
  case h_6 hd => split at hco <;> first | (cases hco; done) | (simp only [Option.map_eq_some_iff] at hco; obtain ⟨_, _, rfl⟩ := hco; exact hd.symm)
  case h_7 hd =>
   simp only [Option.bind_eq_some_iff] at hco;obtain ⟨_, _, _, _, hco⟩ := hco;split at hco <;> first | (cases hco; done) | (simp only [Option.map_eq_some_iff] at hco; obtain ⟨_, _, rfl⟩ := hco; exact hd.symm)
  case h_8 hd =>
   simp only [Option.bind_eq_some_iff] at hco;obtain ⟨_, _, _, _, hco⟩ := hco;split at hco <;> first | (cases hco; done) | (simp only [Option.bind_eq_some_iff, Option.map_eq_some_iff] at hco; obtain ⟨_, _, _, _, rfl⟩ := hco; exact hd.symm) | (cases hco; exact hd.symm)
  case h_9 hd =>
   simp only [Option.bind_eq_some_iff] at hco;obtain ⟨_, _, hco⟩ := hco;split at hco
   ·simp only [Option.bind_eq_some_iff] at hco;obtain ⟨_, _, _, _, hco⟩ := hco;split at hco <;> first | (cases hco; done) | (simp only [Option.some.injEq] at hco; subst hco; exact hd.symm)
   ·cases hco
  case h_10 hd =>
   simp only [Option.bind_eq_some_iff] at hco;obtain ⟨_, _, hco⟩ := hco;split at hco <;> first | (cases hco; done) | (simp only [Option.bind_eq_some_iff, Option.map_eq_some_iff] at hco; obtain ⟨_, _, _, _, _, _, rfl⟩ := hco; exact hd.symm)
  case h_11 hd => simp only [Option.bind_eq_some_iff, Option.map_eq_some_iff] at hco; obtain ⟨_, _, _, _, _, _, rfl⟩ := hco; exact hd.symm
  case h_12 hd => simp only [Option.bind_eq_some_iff, Option.map_eq_some_iff] at hco; obtain ⟨_, _, _, _, _, _, rfl⟩ := hco; exact hd.symm
  case h_13 hd => simp only [Option.bind_eq_some_iff, Option.map_eq_some_iff] at hco; obtain ⟨_, _, _, _, rfl⟩ := hco; exact hd.symm
  case h_14 hd => simp only [Option.map_eq_some_iff] at hco; obtain ⟨_, _, rfl⟩ := hco; exact hd.symm
  case h_15 hd => simp only [Option.bind_eq_some_iff, Option.map_eq_some_iff] at hco; obtain ⟨_, _, _, _, _, _, _, _, rfl⟩ := hco; exact hd.symm
  case h_16 hd =>
   simp only [Option.bind_eq_some_iff] at hco;obtain ⟨_, _, _, _, hco⟩ := hco;split at hco
   ·simp only [Option.map_eq_some_iff] at hco; obtain ⟨_, _, rfl⟩ := hco; exact hd.symm
   ·cases hco
  case h_17 hd => simp only [Option.bind_eq_some_iff, Option.map_eq_some_iff] at hco; obtain ⟨_, _, _, _, rfl⟩ := hco; exact hd.symm
  case h_18 hd => simp only [Option.bind_eq_some_iff, Option.map_eq_some_iff] at hco; obtain ⟨_, _, _, _, _, _, _, _, _, _, _, _, rfl⟩ := hco; exact hd.symm
  case h_19 hd => simp only [Option.map_eq_some_iff] at hco; obtain ⟨_, _, rfl⟩ := hco; exact hd.symm
  case h_20 hd => simp only [Option.bind_eq_some_iff, Option.map_eq_some_iff] at hco; obtain ⟨_, _, _, _, rfl⟩ := hco; exact hd.symm
  case h_21 => simp only [Option.map_eq_some_iff] at hco; obtain ⟨_, _, rfl⟩ := hco; rfl
  case h_22 =>
   split at hco
   ·simp only [Option.bind_eq_some_iff, Option.map_eq_some_iff] at hco; obtain ⟨_, _, _, _, rfl⟩ := hco; rfl
   ·rename_i hd;split at hco
    ·simp only [Option.map_eq_some_iff] at hco; obtain ⟨_, _, rfl⟩ := hco; exact hd.symm
    ·simp only [Option.bind_eq_some_iff, Option.map_eq_some_iff] at hco; obtain ⟨_, _, _, _, rfl⟩ := hco; exact hd.symm
   ·rename_i hd; simp only [Option.bind_eq_some_iff, Option.map_eq_some_iff] at hco; obtain ⟨_, _, _, _, rfl⟩ := hco; exact hd.symm
   ·rename_i hd; simp only [Option.bind_eq_some_iff, Option.map_eq_some_iff] at hco; obtain ⟨_, _, _, _, rfl⟩ := hco; exact hd.symm
   ·rename_i hd;simp only [Option.bind_eq_some_iff] at hco;obtain ⟨_, _, _, _, _, _, hco⟩ := hco;split at hco
    ·simp only [Option.bind_eq_some_iff] at hco;obtain ⟨_, _, hco⟩ := hco;split at hco
     ·cases hco; exact hd.symm
     ·cases hco
    ·cases hco
   ·rename_i hd;simp only [Option.bind_eq_some_iff] at hco;obtain ⟨_, _, _, _, _, _, hco⟩ := hco;split at hco
    ·simp only [Option.map_eq_some_iff] at hco; obtain ⟨_, _, rfl⟩ := hco; exact hd.symm
    ·cases hco
   ·cases hco
  case h_23 => cases hco
theorem Qmy {dr two : Bool} {o : Oper} (hlt : ∀ d, o.dst = some d -> d < C.N) (hdef : a.defers = []) (h : Qh C ρ fr hp a.tmps w) (hv : Qb2 (Qv C.P dr o) fr hp K) : Qx C two w K (a.put o.dst undef) w := by
 unfold Qb2 at hv;rw [Qol] at hv;cases hd : o.dst with
 | some d =>rw [hd] at hv;exact ⟨hdef, ⟨_, hp, ⟨ρ, h.upd Qb.tup0 (hlt d hd)⟩, hv⟩, fun _ => Ext.refl _ _⟩
 | none =>rw [hd] at hv;exact ⟨hdef, ⟨fr, hp, ⟨ρ, h⟩, hv⟩, fun _ => Ext.refl _ _⟩
theorem Qhx {dr : Bool} {ops : Array Oper} {i : Nat} {o : Oper} {g : GOp} {Q : Exit -> Act -> World -> Prop} (hi : ops[i]? = some o) (hdef : a.defers = []) (h : Qh C ρ fr hp a.tmps w) (hc : Qcb C.P C.N dr ops o = some g) (hv : Qfo C g.g g.o fr hp K) :
  wpOp C.P ops Q i (Qx C (!(Qv C.P dr o).brk) w K) a w := by
 obtain ⟨hlt, hgo, hcase⟩ := Qgz h hc hv;rw [hgo] at hcase;unfold wpOp;simp only [hi];rcases hcase with ⟨hw, hv⟩ | ⟨hw, hv⟩
 ·rw [if_pos hw]; exact .inl (Qqt hlt hdef h hv)
 ·rw [hw]; simp only [Bool.false_eq_true, if_false]; exact Qmy hlt hdef h hv
def Qmz (C : Ctx) (K : Qa) (Q : Exit -> Act -> World -> Prop) : Prop := ∀ fr hp (a : Act) w, a.defers = [] -> Sim C fr hp a.tmps w -> K fr hp -> Q .normal a w
theorem Qhy {C : Ctx} {R : Qa} {sk : List It} {fr : Fr} {hp : HP} : vc C R (.o .nil :: sk) fr hp = vc C R sk fr hp := by rw [vc]
theorem Qhz {C : Ctx} {R : Qa} {sk : List It} {g : Option (Nat × Bool)} {o : SOp} {r : RT} {fr : Fr} {hp : HP} : vc C R (.o (.o g o r) :: sk) fr hp = Qfo C g o fr hp (vc C R (.o r :: sk)) := by rw [vc]
theorem Qs2 {C : Ctx} {R : Qa} {sk : List It} {x y : RT} {fr : Fr} {hp : HP} : vc C R (.o (.br x y) :: sk) fr hp = (vc C R (.o x :: sk) fr hp /\ vc C R (.o y :: sk) fr hp) := by rw [vc]
theorem Qom {C : Ctx} {R : Qa} {sk : List It} {r : RT} {fr : Fr} {hp : HP} : vc C R (.o (.wk r) :: sk) fr hp = ∃ fr0 hp0, Wk fr hp fr0 hp0 /\ vc C R (.o r :: sk) fr0 hp0 := by rw [vc]
theorem Qee {C : Ctx} {R : Qa} {sk : List It} {tmps : Array Value} {w : World} : ∀ (r : RT) (fr : Fr) (hp : HP), Sim C fr hp tmps w -> vc C R (.o r :: sk) fr hp ->
  ∃ r' fr' hp', r'.strip = r.strip /\ (∀ x, r' ≠ .wk x) /\ Sim C fr' hp' tmps w /\ vc C R (.o r' :: sk) fr' hp' := by
 intro r;induction r with
 | wk r ih =>intro fr hp hs hv;rw [Qom] at hv;obtain ⟨fr0, hp0, hw, hv⟩ := hv;exact ih fr0 hp0 (hw _ _ _ hs) hv
 | nil => exact fun fr hp hs hv => ⟨_, fr, hp, rfl, (fun x h => by cases h), hs, hv⟩
 | o => exact fun fr hp hs hv => ⟨_, fr, hp, rfl, (fun x h => by cases h), hs, hv⟩
 | br => exact fun fr hp hs hv => ⟨_, fr, hp, rfl, (fun x h => by cases h), hs, hv⟩
theorem Qjb {r : RT} (h : r.strip = .nil) (hn : ∀ x, r ≠ .wk x) : r = .nil := by
 cases r with
 | nil => rfl
 | wk x => exact absurd rfl (hn x)
 | _ => simp [RT.strip] at h
theorem Qis {r s : RT} {g : Option (Nat × Bool)} {o : SOp} (h : r.strip = .o g o s) (hn : ∀ x, r ≠ .wk x) : ∃ r', r = .o g o r' /\ r'.strip = s := by
 cases r with
 | o g' o' r' => simp only [RT.strip, RT.o.injEq] at h; obtain ⟨rfl, rfl, h⟩ := h; exact ⟨r', rfl, h⟩
 | wk x => exact absurd rfl (hn x)
 | _ => simp [RT.strip] at h
theorem Qqv {r a b : RT} (h : r.strip = .br a b) (hn : ∀ x, r ≠ .wk x) : ∃ a' b', r = .br a' b' /\ a'.strip = a /\ b'.strip = b := by
 cases r with
 | br a' b' => simp only [RT.strip, RT.br.injEq] at h; exact ⟨a', b', rfl, h.1, h.2⟩
 | wk x => exact absurd rfl (hn x)
 | _ => simp [RT.strip] at h
theorem Qh0 {R : Qa} {sk : List It} {ops : Array Oper} {Q : Exit -> Act -> World -> Prop} (hQ : Qmz C (vc C R sk) Q) : ∀ (gs : List GOp) (is : List Nat) (r : RT) (fr : Fr) (hp : HP) (a : Act) (w : World),
  is.length = gs.length -> (∀ (k i : Nat) (g : GOp), is[k]? = some i -> gs[k]? = some g -> ∃ o, ops[i]? = some o /\ Qcb C.P C.N false ops o = some g) ->
  a.defers = [] -> Sim C fr hp a.tmps w -> r.strip = Qih gs -> vc C R (.o r :: sk) fr hp -> wpOps C.P ops Q is a w
 | [], [], r, fr, hp, a, w, _, _, hdef, hs, hr, hv => by obtain ⟨r', fr', hp', h1, h2, hs, hv⟩ := Qee r fr hp hs hv;obtain rfl := Qjb (h1.trans hr) h2;rw [Qhy] at hv;exact hQ fr' hp' a w hdef hs hv
 | [], i :: is, _, _, _, _, _, hl, _, _, _, _, _ => by simp at hl
 | g :: gs, [], _, _, _, _, _, hl, _, _, _, _, _ => by simp at hl
 | g :: gs, i :: is, r, fr, hp, a, w, hl, hc, hdef, hs, hr, hv => by obtain ⟨o, ho, hco⟩ := hc 0 i g rfl rfl;obtain ⟨r', fr', hp', h1, h2, ⟨ρ, hs⟩, hv⟩ := Qee r fr hp hs hv;obtain ⟨r2, rfl, hr2⟩ := Qis (h1.trans hr) h2;rw [Qhz] at hv;rw [wpOps_cons];refine wpOp_mono (fun a' w' hA =>?_) (Qhx ho hdef hs hco hv);obtain ⟨hd', ⟨fr', hp', hs', hv'⟩, _⟩ := hA;exact Qh0 hQ gs is r2 fr' hp' a' w' (by simpa using hl) (fun k j g' h1 h2 => hc (k + 1) j g' (by simpa using h1) (by simpa using h2)) hd' hs' hr2 hv'
end Go.FW
namespace Go.FW
open Go
section
variable {P : Program} {ops : Array Oper} {Q : Exit -> Act -> World -> Prop}
def Qeo (P : Program) (ops : Array Oper) (Q : Exit -> Act -> World -> Prop) (brk : Nat -> Bool) : Nat -> Array Bool -> Act -> World -> Prop
 | 0, listed, a, w => Region.ready .any ops listed = [] /\ Q .normal a w
 | fuel + 1, listed, a, w =>
  (Region.ready .any ops listed = [] -> Q .normal a w) /\
  ∀ i ∈ Region.ready .any ops listed, wpOp P ops Q i (fun a' w' => (brk i = false -> Ext Qi w w') /\ Qeo P ops Q brk fuel (listed.setIfInBounds i true) a' w') a w
theorem Qfr (brk : Nat -> Bool) : ∀ (fuel : Nat) (listed : Array Bool) (a : Act) (w : World), Qeo P ops Q brk fuel listed a w -> wpAny P .any ops Q fuel listed a w
 | 0, _, _, _, h => h
 | fuel + 1, _, _, _, h => ⟨h.1, fun i hi => wpOp_mono (fun a' w' h' => Qfr brk fuel _ a' w' h'.2) (h.2 i hi)⟩
def YF (P : Program) (ops : Array Oper) (all : Bool) (o : Oper) (v : Value) (a : Act) (w : World) : Prop :=
 (Region.wanted o (yielded ops a.tmps) = true /\ ∀ w', (all = true ∨ Ext Qi w w') -> (execOp a.eval o).run P w' = .ok (.value v) w') ∨
 (Region.wanted o (yielded ops a.tmps) = false /\ v = undef)
theorem YF.step {all : Bool} {o : Oper} {v : Value} {a a' : Act} {w w' : World} (hy : YF P ops all o v a w) (he : execOp a'.eval o = execOp a.eval o)
  (hw : Region.wanted o (yielded ops a'.tmps) = Region.wanted o (yielded ops a.tmps)) (hx : all = true ∨ Ext Qi w w') : YF P ops all o v a' w' := by
 unfold YF at *
 rw [he, hw];rcases hy with ⟨h1, h2⟩ | h
 ·refine .inl ⟨h1, fun w2 h3 => h2 w2 ?_⟩;rcases hx with hx | hx
  ·exact .inl hx
  ·rcases h3 with h3 | h3
   ·exact .inl h3
   ·exact .inr (hx.trans h3)
 ·exact .inr h
theorem YF.wpOp {all : Bool} {i : Nat} {o : Oper} {v : Value} {a : Act} {w : World} (hi : ops[i]? = some o) (hy : YF P ops all o v a w)
  {K : Act -> World -> Prop} (h : K (a.put o.dst v) w) : Go.wpOp P ops Q i K a w := by
 unfold Go.wpOp;simp only [hi];rcases hy with ⟨hw, hv⟩ | ⟨hw, rfl⟩
 ·simp only [hw, if_true, Oper.wp, hv w (.inr (Ext.refl _ _)), Oper.upon]; exact .inl h
 ·simp only [hw, Bool.false_eq_true, if_false]; exact h
theorem Qon {j : Nat} {oi oj : Oper} {v : Value} (hj : ops[j]? = some oj) (hap : oi.apart ops oj = true)
  (hsi : ∀ cs b, oi.op ≠ .select cs b) (hsj : ∀ cs b, oj.op ≠ .select cs b)
  (hQ : ∀ c a w, Q (.panic c) (a.put oi.dst v) w -> Q (.panic c) a w) {K : Act -> World -> Prop} {a : Act} {w : World}
  (h : Go.wpOp P ops Q j K (a.put oi.dst v) w) :
  Go.wpOp P ops Q j (fun a' w' => (execOp a'.eval oi = execOp a.eval oi /\ Region.wanted oi (yielded ops a'.tmps) = Region.wanted oi (yielded ops a.tmps)) /\ K (a'.put oi.dst v) w') a w := by
 obtain ⟨h1, h2, h3⟩ := Oper.apart_spec hap;have keep : ∀ u, execOp (a.put oj.dst u).eval oi = execOp a.eval oi /\ Region.wanted oi (yielded ops (a.put oj.dst u).tmps) = Region.wanted oi (yielded ops a.tmps) := fun u =>
  ⟨execOp_put oi hsi a oj.dst u h3, wanted_put oi a oj.dst u h3⟩
 have keepD : ∀ d u, execOp (({ a with defers := d :: a.defers } : Act).put oj.dst u).eval oi = execOp a.eval oi /\ Region.wanted oi (yielded ops (({ a with defers := d :: a.defers } : Act).put oj.dst u).tmps) = Region.wanted oi (yielded ops a.tmps) := fun d u =>
  ⟨(execOp_put oi hsi ({ a with defers := d :: a.defers } : Act) oj.dst u h3).trans rfl, (wanted_put oi ({ a with defers := d :: a.defers } : Act) oj.dst u h3).trans rfl⟩
 unfold Go.wpOp at *
 simp only [hj] at *
 rw [wanted_put oj a oi.dst v h1] at h;split
 ·rename_i hw;simp only [hw, if_true] at h;rcases h with h | ⟨hasks, hlets⟩
  case inr => exact .inr ⟨by unfold Oper.asks at *; rw [execOp_put oj hsj a oi.dst v h1] at hasks; exact hasks, hlets⟩
  refine .inl ?_;unfold Oper.wp at *
  rw [execOp_put oj hsj a oi.dst v h1] at h;generalize (execOp a.eval oj).run P w = r at *
  cases r with
  | ok n w' =>
   cases n <;> simp only [Oper.upon] at h ⊢
   case value u => exact ⟨keep u, by rw [<- Act.put_comm a v u h2]; exact h⟩
   case skip => exact ⟨keep _, by rw [<- Act.put_comm a v undef h2]; exact h⟩
   case defer d =>
    refine ⟨keepD d _, ?_⟩;rw [<- Act.put_comm _ v undef h2, <- Act.put_defers];exact h
   case enter f args =>
    refine Calls.mono h fun e w'' he =>?_;cases e with
    | returned u => exact ⟨keep u, by rw [<- Act.put_comm a v u h2]; exact he⟩
    | panicked c => exact hQ _ _ _ he
    | outgrown => exact he
   case row row args => exact Rows.mono h fun u w'' he => ⟨keep u, by rw [<- Act.put_comm a v u h2]; exact he⟩
  | halt x w' =>
   cases x <;> simp only [Oper.upon] at h ⊢
   case panic u => exact hQ _ _ _ h
 ·rename_i hw;simp only [hw] at h;exact ⟨keep _, by rw [<- Act.put_comm a v undef h2]; exact h⟩
def Qep (ops : Array Oper) (listed : Array Bool) : Prop := ∀ (j : Nat) (o : Oper), ops[j]? = some o -> listed.getD j false = true -> ∀ e ∈ o.after, Region.binds .any e = true -> listed.getD e.on false = true
theorem Qep.step {listed : Array Bool} {i : Nat} (h : Qep ops listed) (hi : i ∈ Region.ready .any ops listed) : Qep ops (listed.setIfInBounds i true) := by
 intro j o hj hl e he hb;obtain ⟨h0, oi, hoi, hall⟩ := mem_ready.1 hi;by_cases hij : i = j
 ·subst hij;rw [hj] at hoi; cases hoi;exact getD_set_true (hall e he hb)
 ·rw [getD_set_ne false hij] at hl;exact getD_set_true (h j o hj hl e he hb)
theorem Qe0 {listed : Array Bool} {i : Nat} (hd : Qep ops listed) : ∀ (n k : Nat), listed.getD k false = true -> Qb0 ops n i k = true -> listed.getD i false = true
 | 0, _, _, h => by simp [Qb0] at h
 | n + 1, k, hk, h => by
  unfold Qb0 at h;cases ho : ops[k]? with
  | none => simp [ho] at h
  | some o =>
   simp only [ho, List.any_eq_true, Bool.and_eq_true, Bool.or_eq_true, beq_iff_eq] at h;obtain ⟨e, he, hb, h⟩ := h;have hl := hd k o ho hk e (by simpa using he) hb;rcases h with h | h
   ·rw [<- h]; exact hl
   ·exact Qe0 hd n e.on hl h
theorem Qit {listed : Array Bool} {i j n : Nat} (hd : Qep ops listed) (hj : j ∈ Region.ready .any ops listed) (h : Qb0 ops n i j = true) : listed.getD i false = true := by
 obtain ⟨_, o, ho, hall⟩ := mem_ready.1 hj;cases n with
 | zero => simp [Qb0] at h
 | succ n =>
  unfold Qb0 at h;simp only [ho, List.any_eq_true, Bool.and_eq_true, Bool.or_eq_true, beq_iff_eq] at h;obtain ⟨e, he, hb, h⟩ := h;have hl := hall e (by simpa using he) hb;rcases h with h | h
  ·rw [<- h]; exact hl
  ·exact Qe0 hd n e.on hl h
theorem Qoo {listed : Array Bool} {i : Nat} (h0 : listed.getD i true = false) : ¬ listed.getD i false = true := by
 intro h1;rcases Nat.lt_or_ge i listed.size with h' | h'
 ·simp [h'] at h0 h1; rw [h0] at h1; cases h1
 ·simp [Array.getElem?_eq_none h'] at h1
theorem Qkq {brk : Nat -> Bool} {all : Bool} {i : Nat} {oi : Oper} {v : Value} (hi : ops[i]? = some oi) (hsel : ∀ (j : Nat) (o : Oper) cs b, ops[j]? = some o -> o.op ≠ .select cs b)
  (hQ : ∀ c a w, Q (.panic c) (a.put oi.dst v) w -> Q (.panic c) a w)
  (hpre : all = true ∨ ∀ j, brk j = true -> j < ops.size -> Qb0 ops ops.size i j = true ∨ j = i) :
  ∀ (fuel : Nat) (listed : Array Bool) (a : Act) (w : World), Qep ops listed ->
   (∀ j oj, ops[j]? = some oj -> j ≠ i -> listed.getD j true = false -> (∀ e ∈ oj.after, Region.binds .any e = true -> e.on ≠ i) -> oi.apart ops oj = true) ->
   i ∈ Region.ready .any ops listed -> YF P ops all oi v a w ->
   Qeo P ops Q brk fuel (listed.setIfInBounds i true) (a.put oi.dst v) w -> Qeo P ops Q brk (fuel + 1) listed a w := by
 intro fuel;induction fuel with
 | zero =>
  intro listed a w _ _ hr hy H;refine ⟨fun h => (by rw [h] at hr; cases hr), fun j hj =>?_⟩;by_cases hji : j = i
  ·subst hji; exact hy.wpOp hi ⟨fun _ => Ext.refl _ _, H⟩
  ·have := ready_mono hj hji;rw [H.1] at this;cases this
 | succ fuel ih =>
  intro listed a w hdown hfree hr hy H;refine ⟨fun h => (by rw [h] at hr; cases hr), fun j hj =>?_⟩;by_cases hji : j = i
  ·subst hji; exact hy.wpOp hi ⟨fun _ => Ext.refl _ _, H⟩
  ·have h1 := H.2 j (ready_mono hj hji);obtain ⟨hjun, oj, hoj, hall⟩ := mem_ready.1 hj;have hiun : ¬ listed.getD i false = true := Qoo (mem_ready.1 hr).1;have hnot : ∀ e ∈ oj.after, Region.binds .any e = true -> e.on ≠ i := fun e he hb heq => hiun (heq ▸ hall e he hb);have h2 := Qon hoj (hfree j oj hoj hji hjun hnot) (fun cs b => hsel i oi cs b hi) (fun cs b => hsel j oj cs b hoj) hQ h1;have hbrk : all = true ∨ brk j = false := by
    rcases hpre with h | h
    ·exact .inl h
    ·cases hb : brk j with
     | false => exact .inr rfl
     | true =>
      have hjlt : j < ops.size := (Array.getElem?_eq_some_iff.1 hoj).1;rcases h j hb hjlt with h | h
      ·exact absurd (Qit hdown hj h) hiun
      ·exact absurd h hji
   have hfree' : ∀ k ok, ops[k]? = some ok -> k ≠ i -> (listed.setIfInBounds j true).getD k true = false ->
     (∀ e ∈ ok.after, Region.binds .any e = true -> e.on ≠ i) -> oi.apart ops ok = true := fun k ok hk hki hun hno => by
    refine hfree k ok hk hki ?_ hno;by_cases hjk : j = k
    ·subst hjk; exact hjun
    ·rw [getD_set_ne true hjk] at hun; exact hun
   refine wpOp_mono (fun a' w' h3 =>?_) h2;obtain ⟨⟨he, hw⟩, hx, hrest⟩ := h3;refine ⟨hx, ih (listed.setIfInBounds j true) a' w' (hdown.step hj) hfree' (ready_mono hr (Ne.symm hji)) (hy.step he hw ?_) ?_⟩
   ·rcases hbrk with h | h
    ·exact .inl h
    ·exact .inr (hx h)
   ·rw [Array.setIfInBounds_comm _ _ hji];exact hrest
end
section
variable {C : Ctx} {ρ : Nat -> Option Nat} {fr : Fr} {hp : HP} {w : World} {a : Act} {K : Qa}
theorem Qgf {dr : Bool} {o : Oper} (hlt : ∀ d, o.dst = some d -> d < C.N) (h : Qh C ρ fr hp a.tmps w) (hv : Qb2 (Qv C.P dr o) fr hp K) : ∃ fr' hp', Qh C ρ fr' hp' (a.put o.dst undef).tmps w /\ K fr' hp' := by
 unfold Qb2 at hv;rw [Qol] at hv;cases hd : o.dst with
 | some d => rw [hd] at hv; exact ⟨_, hp, h.upd Qb.tup0 (hlt d hd), hv⟩
 | none => rw [hd] at hv; exact ⟨fr, hp, h, hv⟩
theorem Qvd {P : Program} {dr : Bool} {o : Oper} : (Qv P dr o).cls = (Qv P true o).cls := by
 cases dr with
 | true => rfl
 | false =>
  have h0 : (Qan P false o).map SOp.cls = (Qan P true o).map SOp.cls := by
   unfold Qan;split <;> first | rfl | skip
   split <;> first | rfl | skip
   rename_i f _;cases h1 : opd f with
   | none => simp
   | some pf =>simp only [Option.bind_some, Option.map_map];congr 1
  unfold Qv;cases h1 : Qan P false o <;> cases h2 : Qan P true o <;> simp_all [SOp.cls]
theorem Qgg {dr : Bool} {R : Qa} {sk : List It} {ops : Array Oper} {Q : Exit -> Act -> World -> Prop} (hns : Region.noSelect ops = true) (hQ : Qmz C (vc C R sk) Q) : ∀ (n : Nat) (listed : Array Bool) (r : RT) (fr : Fr) (hp : HP) (a : Act) (w : World),
  Qcj C.P C.N dr ops n listed = some r.strip -> Qep ops listed -> a.defers = [] -> Sim C fr hp a.tmps w -> vc C R (.o r :: sk) fr hp ->
  Qeo C.P ops (NoPanic Q) (Qgn C.P dr ops) n listed a w := by
 intro n;have done : ∀ (n : Nat) (listed : Array Bool) (r : RT) (fr : Fr) (hp : HP) (a : Act) (w : World), Region.ready .any ops listed = [] -> a.defers = [] -> Sim C fr hp a.tmps w -> r.strip = .nil -> vc C R (.o r :: sk) fr hp -> Qeo C.P ops (NoPanic Q) (Qgn C.P dr ops) n listed a w := by
  intro n listed r fr hp a w hr hdef hs hr0 hv;obtain ⟨r', fr, hp, h1, h2, hs, hv⟩ := Qee r fr hp hs hv;obtain rfl := Qjb (h1.trans hr0) h2;rw [Qhy] at hv;have hq : NoPanic Q .normal a w := hQ fr hp a w hdef hs hv;cases n with
  | zero => exact ⟨hr, hq⟩
  | succ n => exact ⟨fun _ => hq, by rw [hr]; simp⟩
 induction n with
 | zero =>
  intro listed r fr hp a w ho hd hdef hs hv;unfold Qcj at ho;split at ho
  ·rename_i hr;exact done 0 listed r fr hp a w (by simpa using hr) hdef hs (Option.some.inj ho).symm hv
  ·cases ho
 | succ n ih =>
  intro listed r fr hp a w ho hd hdef hs hv;unfold Qcj at ho;split at ho
  ·rename_i hr;exact done (n + 1) listed r fr hp a w (by simpa using hr) hdef hs (Option.some.inj ho).symm hv
  ·rename_i hr;obtain ⟨r', fr, hp, e1, e2, hs, hv⟩ := Qee r fr hp hs hv;rw [<- e1] at ho;split at ho
   ·rename_i i hfind;have hstep := List.find?_some hfind;simp only [Option.bind_eq_some_iff, Option.map_eq_some_iff] at ho;obtain ⟨g, ⟨o, hoi, hcg⟩, r0, hr', he0⟩ := ho;obtain ⟨r', rfl, rfl⟩ := Qis he0.symm e2;unfold Qj8 at hstep;simp only [Bool.and_eq_true, List.contains_iff_mem] at hstep;obtain ⟨⟨hready, hfree⟩, hcls⟩ := hstep;have hca : Qev C.P ops i = (Qv C.P dr o).cls := by rw [Qvd]; simp [Qev, hoi]
    rw [Qhz] at hv;obtain ⟨ρ, hsr⟩ := hs;obtain ⟨hlt, hgo, hcase⟩ := Qgz hsr hcg hv;rw [hgo] at hcase;have hpre : ∀ all : Bool, (all = false -> Qev C.P ops i = 1) -> all = true ∨ ∀ j, Qgn C.P dr ops j = true -> j < ops.size -> Qb0 ops ops.size i j = true ∨ j = i := by
     intro all hall;cases all with
     | true => exact .inl rfl
     | false =>
      refine .inr fun j hj hjl =>?_;rw [hall rfl] at hcls;have := List.all_eq_true.1 hcls j (by simpa using hjl);simp only [Bool.or_eq_true, Bool.not_eq_true'] at this;rcases this with h | h
      ·rw [hj] at h; cases h
      ·exact .inl h
    have fin : ∀ (all : Bool) (v : Value), (all = false -> Qev C.P ops i = 1) -> YF C.P ops all o v a w -> (∃ fr' hp', Qh C ρ fr' hp' (a.put o.dst v).tmps w /\ vc C R (.o r' :: sk) fr' hp') -> Qeo C.P ops (NoPanic Q) (Qgn C.P dr ops) (n + 1) listed a w := by
     intro all v hall hy ⟨fr', hp', hs', hv'⟩;exact Qkq hoi (Region.noSelect_spec hns) (fun _ _ _ h => h) (hpre all hall) n listed a w hd (Region.free_spec hoi hfree) hready hy
      (ih _ r' fr' hp' _ w hr' (hd.step hready) (by rw [Qb1]; exact hdef) ⟨ρ, hs'⟩ hv')
    rcases hcase with ⟨hw, hv⟩ | ⟨hw, hv⟩
    ·by_cases h0 : Qev C.P ops i = 0
     ·obtain ⟨v, hrun, hrest⟩ := Qhv (by rw [<- hca]; exact h0) hlt hsr hv;exact fin true v (by simp) (.inl ⟨hw, fun w' _ => hrun w'⟩) hrest
     ·by_cases h1 : Qev C.P ops i = 1
      ·obtain ⟨v, b, hb, hrun, hrest⟩ := Qhw (by rw [<- hca]; exact h1) hlt hsr hv;exact fin false v (fun _ => h1) (.inl ⟨hw, fun w' hw' => hrun w' (hw'.elim (fun h => by cases h) (fun h => h.block b hb (fun h => h)))⟩) hrest
      ·split at hcls
       ·rename_i h; exact absurd h h0
       ·rename_i h; exact absurd h h1
       ·cases hcls
    ·by_cases h1 : Qev C.P ops i = 1
     ·exact fin false undef (fun _ => h1) (.inr ⟨hw, rfl⟩) (Qgf hlt hsr hv)
     ·exact fin true undef (by simp) (.inr ⟨hw, rfl⟩) (Qgf hlt hsr hv)
   ·
    simp only [Option.map_eq_some_iff] at ho;obtain ⟨rs, hrs, he0⟩ := ho;obtain ⟨m1, m2⟩ := Qbh hrs;have hbr : ∀ (rs : List RT) (r' : RT) (fr : Fr) (hp : HP), r'.strip = brs rs -> Sim C fr hp a.tmps w -> vc C R (.o r' :: sk) fr hp -> ∀ r ∈ rs, ∃ r2 fr2 hp2, r2.strip = r /\ (∀ x, r2 ≠ .wk x) /\ Sim C fr2 hp2 a.tmps w /\ vc C R (.o r2 :: sk) fr2 hp2 := by
     intro rs;induction rs with
     | nil => intro _ _ _ _ _ _ r hr; cases hr
     | cons x xs ihx =>
      intro r' fr hp hr' hs hv r hr;obtain ⟨r2, fr2, hp2, f1, f2, hs, hv⟩ := Qee r' fr hp hs hv;cases xs with
      | nil => simp at hr; subst hr; exact ⟨r2, fr2, hp2, f1.trans hr', f2, hs, hv⟩
      | cons y ys =>
       rw [brs] at hr'
       ·obtain ⟨a', b', rfl, g1, g2⟩ := Qqv (f1.trans hr') f2;rw [Qs2] at hv;rcases List.mem_cons.1 hr with rfl | hr
        ·obtain ⟨r3, fr3, hp3, k1, k2, k3, k4⟩ := Qee a' fr2 hp2 hs hv.1;exact ⟨r3, fr3, hp3, k1.trans g1, k2, k3, k4⟩
        ·exact ihx b' fr2 hp2 g2 hs hv.2 r hr
       ·simp
    refine ⟨fun h0 => absurd (by rw [h0]; rfl) hr, fun i hi =>?_⟩;obtain ⟨k, hk⟩ := List.getElem?_of_mem hi;have hkl : k < rs.length := by rw [m1]; exact (List.getElem?_eq_some_iff.1 hk).1
    obtain ⟨i', hi', hf⟩ := m2 k _ (List.getElem?_eq_getElem hkl);rw [hk] at hi'; cases hi';simp only [Option.bind_eq_some_iff, Option.map_eq_some_iff] at hf;obtain ⟨g, ⟨o, hoi, hcg⟩, r0, hr', he⟩ := hf;obtain ⟨r2, fr2, hp2, f1, f2, hs, hv'⟩ := hbr rs r' fr hp he0.symm hs hv _ (List.getElem_mem hkl);obtain ⟨r', rfl, rfl⟩ := Qis (f1.trans he.symm) f2;rw [Qhz] at hv';obtain ⟨ρ, hsr⟩ := hs;refine wpOp_mono (fun a' w' hA =>?_) (Qhx hoi hdef hsr hcg hv');obtain ⟨hd', ⟨fr', hp', hs', hv2⟩, hx⟩ := hA;refine ⟨fun hb => hx ?_, ih _ r' fr' hp' a' w' hr' (hd.step hi) hd' hs' hv2⟩;simpa [Qgn, hoi] using hb
theorem Sim.drew {tmps : Array Value} (h : Sim C fr hp tmps w) : Sim C fr hp tmps { w with drawn := w.drawn + 1 } := by obtain ⟨ρ, hs⟩ := h;exact ⟨ρ, hs.grow (Ext.drew w _)⟩
theorem Qep.start (ops : Array Oper) : Qep ops (Array.replicate ops.size false) := by intro j o _ hl;exfalso;simp [Array.getD] at hl
theorem Qg9 {s : SC} {r : RT} (h : s.strip = .rg r) : ∃ r', s = .rg r' /\ r'.strip = r := by
 cases s with
 | rg r' => simp only [SC.strip, SC.rg.injEq] at h; exact ⟨r', rfl, h⟩
 | _ => simp [SC.strip] at h
theorem Qkr {R : Qa} {sk : List It} {ops : Array Oper} {draw : Bool} {id : Nat} {s : SC} {Q : Exit -> Act -> World -> Prop} (hm : C.P.follows .mixedOrders = true) (hQ : Qmz C (vc C R sk) Q)
  (hc : Qek C.P C.N ops draw = some s.strip) (hdef : a.defers = []) (hs : Sim C fr hp a.tmps w) (hv : vc C R (.c s :: sk) fr hp) : (Code.region id ops draw).wp C.P Q a w := by
 unfold Qek at hc;split at hc
 ·rename_i hd;subst hd;split at hc
  ·rename_i hns;have key : ∀ (dr : Bool) (most : Nat) (s : SC), Qej C.P C.N ops dr most = some s.strip -> vc C R (.c s :: sk) fr hp -> (Code.region id ops true).wp C.P Q a w := by
    intro dr most s hc hv;unfold Qej at hc;split at hc
    ·cases hc
    split at hc
    ·rename_i r0 hr;split at hc
     ·obtain ⟨r, rfl, rfl⟩ := Qg9 (Option.some.inj hc).symm;rw [vc] at hv;exact wp_region_noPanic (wp_region_any hm (Qfr _ _ _ _ _ (Qgg hns hQ _ _ r fr hp a _ hr (Qep.start ops) hdef hs.drew hv)))
     ·cases hc
    ·cases hc
   split at hc
   ·rename_i s' hs';cases hc;split at hs'
    ·simp only [Option.map_eq_some_iff] at hs';obtain ⟨r0, hr, he⟩ := hs';obtain ⟨r, rfl, rfl⟩ := Qg9 he.symm;rw [vc] at hv;exact wp_region_noPanic (wp_region_any hm (Qfr _ _ _ _ _ (Qgg hns hQ _ _ r fr hp a _ (Qcp _ _ _ hr) (Qep.start ops) hdef hs.drew hv)))
    ·cases hs'
   ·exact key _ _ _ hc hv
  ·cases hc
 ·rename_i hd;have hdf : draw = false := by simpa using hd
  subst hdf;simp only [Option.map_eq_some_iff] at hc;obtain ⟨gs, hgs, he⟩ := hc;obtain ⟨r, rfl, hr⟩ := Qg9 he.symm;rw [vc] at hv;obtain ⟨m1, m2⟩ := Qbh hgs;refine wp_region (Qh0 hQ gs (List.range ops.size) r fr hp a w (by simp [m1]) (fun k i g hk hg =>?_) hdef hs hr hv);obtain ⟨o, ho, hco⟩ := m2 k g hg;have hkl : k < ops.size := by have := (List.getElem?_eq_some_iff.1 hk).1; simpa using this
  rw [List.getElem?_range hkl] at hk;cases hk;exact ⟨o, by simpa using ho, hco⟩
end
end Go.FW
namespace Go.FW
open Go
variable {C : Ctx} {ρ : Nat -> Option Nat} {fr : Fr} {hp : HP} {w : World} {a : Act} {K R : Qa}
structure Qve (C : Ctx) (R : Qa) (sk : List It) (Q : Exit -> Act -> World -> Prop) : Prop where
 nrm : Qmz C (vc C R sk) Q
 ext : ∀ id sk', FW.Qt id sk = some sk' -> ∀ fr hp (a : Act) w, a.defers = [] -> Sim C fr hp a.tmps w -> vc C R sk' fr hp -> Q (.exit id) a w
 ret : ∀ fr hp (a : Act) w, a.defers = [] -> Sim C fr hp a.tmps w -> R fr hp -> Q .ret a w
theorem Qks {sk : List It} {x y : SC} : vc C R (.c (.seq x y) :: sk) fr hp = vc C R (.c x :: .c y :: sk) fr hp := by rw [vc]
theorem Qha {sk : List It} {id : Nat} {x : SC} : vc C R (.c (.block id x) :: sk) fr hp = vc C R (.c x :: .eb id :: sk) fr hp := by rw [vc]
theorem Qiu {sk : List It} : vc C R (.c .skip :: sk) fr hp = vc C R sk fr hp := by rw [vc]
theorem Qs3 {sk : List It} {r : RT} : vc C R (.c (.rg r) :: sk) fr hp = vc C R (.o r :: sk) fr hp := by rw [vc]
theorem Qm0 {sk : List It} {id : Nat} : vc C R (.eb id :: sk) fr hp = vc C R sk fr hp := by rw [vc]
theorem Qjw {sk : List It} {J : Qa} : vc C R (.el J :: sk) fr hp = J fr hp := by rw [vc]
theorem Qkt {sk : List It} : vc C R (.c .ret :: sk) fr hp = R fr hp := by rw [vc]
theorem Qgh : vc C R [] fr hp = R fr hp := by rw [vc]
def Qgo (c : PV) (A B : Prop) : Prop := match c with
 |.bool t => (t = true -> A) /\ (t = false -> B)
 | _ => False
theorem Qiv {sk : List It} {c : Opd} {x y : SC} : vc C R (.c (.cond c x y) :: sk) fr hp = Qgo (ev fr c) (vc C R (.c x :: sk) fr hp) (vc C R (.c y :: sk) fr hp) := by rw [vc]; rfl
def Qgp (C : Ctx) (R : Qa) (sk : Option (List It)) (fr : Fr) (hp : HP) : Prop := match sk with
 | some sk => vc C R sk fr hp
 | none => False
theorem Qiw {sk : List It} {id : Nat} : vc C R (.c (.exit id) :: sk) fr hp = Qgp C R (FW.Qt id sk) fr hp := by
 rw [vc];unfold Qgp;split
 ·rename_i h; rw [h]
 ·rename_i h; rw [h]
theorem Qec {sk : List It} {x : SC} : vc C R (.c (.loop x) :: sk) fr hp = ∃ (I : Qa) (μ : Fr -> HP -> Nat), (∃ fr0 hp0, Wk fr hp fr0 hp0 /\ I fr0 hp0) /\ ∀ fr hp, I fr hp -> vc C R (.c x :: .el (fun fr' hp' => ∃ fr0 hp0, Wk fr' hp' fr0 hp0 /\ I fr0 hp0 /\ μ fr0 hp0 < μ fr hp) :: sk) fr hp := by rw [vc]
theorem Wk.trans {fr1 fr2 fr3 : Fr} {hp1 hp2 hp3 : HP} (h : Wk fr1 hp1 fr2 hp2) (k : Wk fr2 hp2 fr3 hp3) : Wk fr1 hp1 fr3 hp3 := fun C t w hs => k C t w (h C t w hs)
def Qgq (I : Qa) (μ : Fr -> HP -> Nat) (n : Nat) : Qa := fun fr' hp' => ∃ fr0 hp0, Wk fr' hp' fr0 hp0 /\ I fr0 hp0 /\ μ fr0 hp0 < n
theorem Qqw {sk : List It} {x : SC} (I : Qa) (μ : Fr -> HP -> Nat) {fr0 : Fr} {hp0 : HP} (hw : Wk fr hp fr0 hp0) (h0 : I fr0 hp0) (h : ∀ fr hp, I fr hp -> vc C R (.c x :: .el (Qgq I μ (μ fr hp)) :: sk) fr hp) : vc C R (.c (.loop x) :: sk) fr hp := by rw [Qec]; exact ⟨I, μ, ⟨fr0, hp0, hw, h0⟩, h⟩
theorem Qm1 {s : SC} (h : s.strip = .skip) : s = .skip := by cases s <;> simp [SC.strip] at h ⊢
theorem Qop {s : SC} (h : s.strip = .ret) : s = .ret := by cases s <;> simp [SC.strip] at h ⊢
theorem Qm2 {s : SC} {id : Nat} (h : s.strip = .exit id) : s = .exit id := by cases s <;> simp [SC.strip] at h ⊢; exact h
theorem Qoq {s : SC} {id : Nat} {ops : Array Oper} (h : s.strip = .raw id ops) : s = .raw id ops := by cases s <;> simp [SC.strip] at h ⊢; exact h
theorem Qor {s a b : SC} (h : s.strip = .seq a b) : ∃ a' b', s = .seq a' b' /\ a'.strip = a /\ b'.strip = b := by cases s <;> simp [SC.strip] at h; exact ⟨_, _, rfl, h.1, h.2⟩
theorem Qm3 {s a b : SC} {c : Opd} (h : s.strip = .cond c a b) : ∃ a' b', s = .cond c a' b' /\ a'.strip = a /\ b'.strip = b := by
 cases s with
 | cond c' a' b' => simp only [SC.strip, SC.cond.injEq] at h; obtain ⟨rfl, h1, h2⟩ := h; exact ⟨a', b', rfl, h1, h2⟩
 | _ => simp [SC.strip] at h
theorem Qlm {s a : SC} {id : Nat} (h : s.strip = .block id a) : ∃ a', s = .block id a' /\ a'.strip = a := by
 cases s with
 | block c' a' => simp only [SC.strip, SC.block.injEq] at h; obtain ⟨rfl, h1⟩ := h; exact ⟨a', rfl, h1⟩
 | _ => simp [SC.strip] at h
theorem Qm4 {s a : SC} (h : s.strip = .loop a) : ∃ a', s = .loop a' /\ a'.strip = a := by
 cases s with
 | loop a' => simp only [SC.strip, SC.loop.injEq] at h; exact ⟨a', rfl, h⟩
 | _ => simp [SC.strip] at h
theorem Qln (hm : C.P.follows .mixedOrders = true) : ∀ (c : Code) (s : SC) (sk : List It) (Q : Exit -> Act -> World -> Prop) (fr : Fr) (hp : HP) (a : Act) (w : World),
  Q5 C.P C.N c = some s.strip -> Qve C R sk Q -> a.defers = [] -> Sim C fr hp a.tmps w -> vc C R (.c s :: sk) fr hp -> c.wp C.P Q a w := by
 intro c;induction c with
 | skip =>intro s sk Q fr hp a w hc hL hd hs hv;simp only [Q5, Option.some.injEq] at hc; obtain rfl := Qm1 hc.symm;rw [Qiu] at hv;exact wp_skip (hL.nrm fr hp a w hd hs hv)
 | region id ops draw =>
  intro s sk Q fr hp a w hc hL hd hs hv;simp only [Q5] at hc;split at hc
  ·rename_i s' hs';rw [hc] at hs';exact Qkr hm hL.nrm hs' hd hs hv
  ·split at hc
   ·rename_i hdr;obtain rfl := Qoq (Option.some.inj hc).symm;have hdr' : draw = true := hdr;subst hdr';rw [vc] at hv;obtain ⟨tmps, defers⟩ := a;simp only at hd hs;subst hd;exact hv tmps w Q hs (fun fr' hp' tmps' w' hs' hv' => hL.nrm fr' hp' _ w' rfl hs' hv')
   ·cases hc
 | seq x y ihx ihy =>
  intro s sk Q fr hp a w hc hL hd hs hv;simp only [Q5, Option.bind_eq_some_iff, Option.map_eq_some_iff] at hc;obtain ⟨sx, hx, sy, hy, he⟩ := hc;obtain ⟨sx, sy, rfl, rfl, rfl⟩ := Qor he.symm;rw [Qks] at hv;refine wp_seq (ihx sx (.c sy :: sk) _ fr hp a w hx ⟨fun fr hp a w hd hs hv =>?_, fun id sk' he fr hp a w hd hs hv =>?_, fun fr hp a w hd hs hv =>?_⟩ hd hs hv)
  ·exact ihy sy sk Q fr hp a w hy hL hd hs hv
  ·exact hL.ext id sk' (by simpa [FW.Qt] using he) fr hp a w hd hs hv
  ·exact hL.ret fr hp a w hd hs hv
 | cond c x y ihx ihy =>
  intro s sk Q fr hp a w hc hL hd hs hv;simp only [Q5, Option.bind_eq_some_iff, Option.map_eq_some_iff] at hc;obtain ⟨pc, hpc, sx, hx, sy, hy, he⟩ := hc;obtain ⟨sx, sy, rfl, rfl, rfl⟩ := Qm3 he.symm;rw [Qiv] at hv;obtain ⟨ρ, hsr⟩ := hs;have hr := Qq hsr hpc;unfold Qgo at hv;split at hv
  ·rename_i t ht;rw [ht] at hr;exact wp_cond_split hr.bool_inv (fun h => ihx sx sk Q fr hp a w hx hL hd ⟨ρ, hsr⟩ (hv.1 h)) (fun h => ihy sy sk Q fr hp a w hy hL hd ⟨ρ, hsr⟩ (hv.2 h))
  ·exact hv.elim
 | block id x ihx =>
  intro s sk Q fr hp a w hc hL hd hs hv;simp only [Q5, Option.map_eq_some_iff] at hc;obtain ⟨sx, hx, he⟩ := hc;obtain ⟨sx, rfl, rfl⟩ := Qlm he.symm;rw [Qha] at hv;refine wp_block (ihx sx (.eb id :: sk) _ fr hp a w hx ⟨fun fr hp a w hd hs hv =>?_, fun id' sk' he fr hp a w hd hs hv =>?_, fun fr hp a w hd hs hv =>?_⟩ hd hs hv)
  ·rw [Qm0] at hv; exact hL.nrm fr hp a w hd hs hv
  ·simp only [FW.Qt] at he;simp only [Exit.inBlock];by_cases hi : id = id'
   ·subst hi; simp only [if_true] at he ⊢; cases he; exact hL.nrm fr hp a w hd hs hv
   ·rw [if_neg hi] at he; rw [if_neg (fun e => hi e.symm)]; exact hL.ext id' sk' he fr hp a w hd hs hv
  ·exact hL.ret fr hp a w hd hs hv
 | loop x ihx =>
  intro s sk Q fr hp a w hc hL hd hs hv;simp only [Q5, Option.map_eq_some_iff] at hc;obtain ⟨sx, hx, he⟩ := hc;obtain ⟨sx, rfl, rfl⟩ := Qm4 he.symm;rw [Qec] at hv;obtain ⟨I, μ, ⟨fr0, hp0, hwk, h0⟩, hround⟩ := hv;have key : ∀ (n : Nat) (fr : Fr) (hp : HP) (a : Act) (w : World), μ fr hp < n -> I fr hp -> a.defers = [] -> Sim C fr hp a.tmps w -> Code.rounds C.P x Q n a w := by
   intro n;induction n with
   | zero => intro _ _ _ _ h; omega
   | succ n ih =>
    intro fr hp a w hlt hI hd hs;rw [rounds_succ];refine ihx sx _ _ fr hp a w hx ⟨fun fr' hp' a' w' hd' hs' hv' =>?_, fun id sk' he fr hp a w hd hs hv =>?_, fun fr hp a w hd hs hv =>?_⟩ hd hs (hround fr hp hI)
    ·rw [Qjw] at hv';obtain ⟨fr2, hp2, hw2, hI2, hlt2⟩ := hv';exact ih fr2 hp2 a' w' (by omega) hI2 hd' (hw2 _ _ _ hs')
    ·exact hL.ext id sk' (by simpa [FW.Qt] using he) fr hp a w hd hs hv
    ·exact hL.ret fr hp a w hd hs hv
  exact wp_loop_rounds (μ fr0 hp0 + 1) (key _ fr0 hp0 a w (Nat.lt_succ_self _) h0 hd (hwk _ _ _ hs))
 | exit id =>
  intro s sk Q fr hp a w hc hL hd hs hv;simp only [Q5, Option.some.injEq] at hc; obtain rfl := Qm2 hc.symm;rw [Qiw] at hv;unfold Qgp at hv;split at hv
  ·rename_i sk' he;exact wp_exit (hL.ext id sk' he fr hp a w hd hs hv)
  ·exact hv.elim
 | ret =>intro s sk Q fr hp a w hc hL hd hs hv;simp only [Q5, Option.some.injEq] at hc; obtain rfl := Qop hc.symm;rw [Qkt] at hv;exact wp_ret (hL.ret fr hp a w hd hs hv)
 | _ => intro s sk Q fr hp a w hc; simp [Q5] at hc
theorem Qh1 (hm : C.P.follows .mixedOrders = true) (c : Code) (s : SC) (sk : List It) (Q : Exit -> Act -> World -> Prop) (fr : Fr) (hp : HP) (a : Act) (w : World)
  (hc : Q5 C.P C.N c = some s) (hL : Qve C R sk Q) (hd : a.defers = []) (hs : Sim C fr hp a.tmps w) (hv : vc C R (.c s :: sk) fr hp) : c.wp C.P Q a w :=
 Qln hm c s sk Q fr hp a w (by rw [Qjo _ _ hc]; exact hc) hL hd hs hv
def PV.le1 : PV -> PV -> Prop
 |.nilS, .sl _ [] => True
 | p, q => p = q
def PV.leL : List PV -> List PV -> Prop
 | [], [] => True
 | p :: ps, q :: qs => PV.le1 p q /\ PV.leL ps qs
 | _, _ => False
def PV.le : PV -> PV -> Prop
 |.agg ps, .agg qs => PV.leL ps qs
 | p, q => PV.le1 p q
def PV.leT : List PV -> List PV -> Prop
 | [], [] => True
 | p :: ps, q :: qs => PV.le p q /\ PV.leT ps qs
 | _, _ => False
def PV.leR : PV -> PV -> Prop
 |.tup ps, .tup qs => PV.leT ps qs
 | p, q => PV.le p q
theorem Qbq (p : PV) : PV.le1 p p := by cases p <;> first | rfl | (unfold PV.le1; split <;> trivial)
theorem Qku : ∀ (l : List PV), PV.leL l l
 | [] => trivial
 | p :: ps => ⟨Qbq p, Qku ps⟩
theorem Qdq (p : PV) : PV.le p p := by cases p <;> first | exact Qku _ | (simp only [PV.le]; exact Qbq _)
theorem Qd.le {X : Nat -> Prop} {p q : PV} {v : Value} (h : Qd w X p v) (hl : PV.le1 p q) : Qd w X q v := by
 unfold PV.le1 at hl;split at hl
 ·cases h; exact .slE _ _ _ (Nat.zero_le _)
 ·subst hl; exact h
theorem Ql5 : ∀ (ps qs : List PV), PV.leL ps qs -> qs.length = ps.length /\ ∀ (i : Nat) (q : PV), qs[i]? = some q -> ∃ p, ps[i]? = some p /\ PV.le1 p q
 | [], [], _ => ⟨rfl, by simp⟩
 | [], _ :: _, h => h.elim
 | _ :: _, [], h => h.elim
 | p :: ps, q :: qs, h => by
  obtain ⟨h1, h2⟩ := Ql5 ps qs h.2;refine ⟨by simp [h1], fun i x hx =>?_⟩;cases i with
  | zero => simp at hx; subst hx; exact ⟨p, rfl, h.1⟩
  | succ i => simp at hx; simpa using h2 i x hx
theorem Qix : ∀ (ps qs : List PV), PV.leT ps qs -> qs.length = ps.length /\ ∀ (i : Nat) (q : PV), qs[i]? = some q -> ∃ p, ps[i]? = some p /\ PV.le p q
 | [], [], _ => ⟨rfl, by simp⟩
 | [], _ :: _, h => h.elim
 | _ :: _, [], h => h.elim
 | p :: ps, q :: qs, h => by
  obtain ⟨h1, h2⟩ := Qix ps qs h.2;refine ⟨by simp [h1], fun i x hx =>?_⟩;cases i with
  | zero => simp at hx; subst hx; exact ⟨p, rfl, h.1⟩
  | succ i => simp at hx; simpa using h2 i x hx
theorem Qn.le {X : Nat -> Prop} {p q : PV} {v : Value} (h : Qn w X p v) (hl : PV.le p q) : Qn w X q v := by
 by_cases hp : ∃ ps, p = .agg ps
 ·obtain ⟨ps, rfl⟩ := hp;by_cases hq : ∃ qs, q = .agg qs
  ·obtain ⟨qs, rfl⟩ := hq;obtain ⟨h1, h2⟩ := Ql5 ps qs hl;obtain ⟨vs, rfl, g1, g2⟩ := h;refine ⟨vs, rfl, by omega, fun i x hx =>?_⟩;obtain ⟨p, hp, hle⟩ := h2 i x hx;exact (g2 i p hp).le hle
  ·have : PV.le1 (.agg ps) q := by cases q <;> first | exact hl | exact absurd ⟨_, rfl⟩ hq
   have : q = .agg ps := by
    unfold PV.le1 at this;split at this
    ·rename_i h1; cases h1
    ·exact this.symm
   exact absurd ⟨_, this⟩ hq
 ·have h1 : Qd w X p v := by cases p <;> first | exact h | exact absurd ⟨_, rfl⟩ hp
  have h2 : PV.le1 p q := by cases p <;> first | exact hl | exact absurd ⟨_, rfl⟩ hp
  exact Qn.of_c (h1.le h2)
theorem Qa6.le {X : Nat -> Prop} {p q : PV} {v : Value} (h : Qa6 w X p v) (hl : PV.leR p q) : Qa6 w X q v := by
 by_cases hp : ∃ ps, p = .tup ps
 ·obtain ⟨ps, rfl⟩ := hp;by_cases hq : ∃ qs, q = .tup qs
  ·obtain ⟨qs, rfl⟩ := hq;obtain ⟨h1, h2⟩ := Qix ps qs hl;obtain ⟨vs, rfl, g1, g2⟩ := h;refine ⟨vs, rfl, by omega, fun i x hx =>?_⟩;obtain ⟨p, hp, hle⟩ := h2 i x hx;exact (g2 i p hp).le hle
  ·have : PV.le (.tup ps) q := by cases q <;> first | exact hl | exact absurd ⟨_, rfl⟩ hq
   have : PV.le1 (.tup ps) q := this;have : q = .tup ps := by
    unfold PV.le1 at this;split at this
    ·rename_i h1; cases h1
    ·exact this.symm
   exact absurd ⟨_, this⟩ hq
 ·have h1 : Qn w X p v := by cases p <;> first | exact h | exact absurd ⟨_, rfl⟩ hp
  have h2 : PV.le p q := by cases p <;> first | exact hl | exact absurd ⟨_, rfl⟩ hp
  exact Qa6.of1 (h1.le h2)
def Qdi (P : Program) (f : FuncId) : Prop := (P.funcs[f]?).any (fun fn => fn.body.isSome && fn.name != "runtime.NumGoroutine") = true
def Qm (P : Program) (f : FuncId) (args : List PV) (R : PV -> Prop) : Prop :=
 Qdi P f /\ ∀ (w : World) (X : Nat -> Prop) (vals : Array Value), (∀ b, X b -> b < w.heap.size) -> vals.size = args.length -> (∀ (i : Nat) (x : PV), args[i]? = some x -> Qn w X x (vals.getD i undef)) ->
  Calls P f vals w fun e w' => ∃ v r, e = .returned v /\ Ext Qi w w' /\ Qa6 w' X r v /\ R r
theorem Qm.le {P : Program} {f : FuncId} {args args' : List PV} {R : PV -> Prop} (h : Qm P f args R) (hl : PV.leT args' args) : Qm P f args' R := by obtain ⟨h1, h2⟩ := Qix _ _ hl;refine ⟨h.1, fun w X vals g1 g2 g3 => h.2 w X vals g1 (by omega) (fun i x hx =>?_)⟩;obtain ⟨p, hp, hle⟩ := h2 i x hx;exact (g3 i p hp).le hle
def Qfs (args : List PV) : Fr := fun i => (args[i]?).getD .undef
def okR (fr : Fr) (hp : HP) : RV -> Prop
 |.t s => (Qj hp (fr s)).isData = true
 |.cell s n ag => match fr s with
  |.mp β i o => match hp β with
   | some hb => i < hb.xs.length /\ o + n <= hb.e /\ (ag = false -> n = 1)
   | none => False
  | _ => False
def rvP (fr : Fr) (hp : HP) : RV -> PV
 |.t s => Qj hp (fr s)
 |.cell s n ag => match fr s with
  |.mp β i o => match hp β with
   | some hb => ldV ag n o ((hb.xs[i]?).getD .undef)
   | none =>.undef
  | _ =>.undef
def Qb5 (rs : List RV) (R : PV -> Prop) : Qa := fun fr hp => match rs with
 | [r] => okR fr hp r /\ ∃ p, PV.le (rvP fr hp r) p /\ R p
 | rs => (∀ r ∈ rs, okR fr hp r) /\ ∃ p, PV.leR (.tup (rs.map (rvP fr hp))) p /\ R p
def Qhb (tmps : Array Value) : ResultVar -> Sem Value
 |.tmp t => pure (tmps.getD t undef)
 |.cell x t => do loadVar t (<- asAddr (tmps.getD x undef))
def lr (fr : Fr) : RV -> List Nat
 |.t s => (fr s).refs
 |.cell _ _ _ => []
theorem Qkv {l l' : List Nat} (h : ∀ β ∈ l, β ∈ l') {b : Nat} (hx : Xof C ρ (Qr hp l') b) : Xof C ρ (Qr hp l) b := by
 rcases hx with hx | ⟨γ, hg, h1, h2, h3⟩
 ·exact .inl hx
 ·obtain ⟨hg0, g1, _, _, _, g5, g6⟩ := Qdu h1;refine .inr ⟨γ, hg0, ?_, by rw [<- g5 h2]; exact h2, h3⟩;have hn : γ ∉ l := fun hl => g6 h2 (h γ hl);unfold Qr;rw [if_neg (by simpa using hn)];exact g1
theorem Qm5 : Qr hp [] = hp := by funext β; simp [Qr]
theorem Qm6 {p : PV} (h : (Qj hp p).isData = true) : ∀ β ∈ p.refs, isY β = false := by
 have h1 : ∀ q : PV, (Qw hp q).notU = true -> ∀ β ∈ q.ref1, isY β = false := by
  intro q hq β hβ;cases q with
  | mp γ i o => simp only [PV.ref1, List.mem_singleton] at hβ; subst hβ; cases hy : isY β with
   | false => rfl
   | true => simp [Qw, hy, PV.notU] at hq
  | mso γ o n => simp only [PV.ref1, List.mem_singleton] at hβ; subst hβ; cases hy : isY β with
   | false => rfl
   | true => simp [Qw, hy, PV.notU] at hq
  | rb => simp [Qw, PV.notU] at hq
  | _ => cases hβ
 intro β hβ;cases p with
 | mp γ i o => exact h1 (.mp γ i o) (by cases hq : Qw hp (.mp γ i o) <;> simp_all [Qj, PV.isData, PV.notU]) β hβ
 | mso γ o n => exact h1 (.mso γ o n) (by cases hq : Qw hp (.mso γ o n) <;> simp_all [Qj, PV.isData, PV.notU]) β hβ
 | rb => simp [Qj, Qw, PV.isData] at h
 | fn f first cap =>
  simp only [Qj, PV.isData, Bool.and_eq_true, List.all_map, List.all_eq_true] at h;rcases List.mem_append.1 hβ with hβ | hβ
  ·obtain ⟨x, hx, hβ⟩ := List.mem_flatMap.1 hβ; exact h1 x (h.1 x hx) β hβ
  ·obtain ⟨x, hx, hβ⟩ := List.mem_flatMap.1 hβ; exact h1 x (h.2 x hx) β hβ
 | _ => cases hβ
theorem Qx9 {rv : RV} (h : okR fr hp rv) : ∀ β ∈ lr fr rv, isY β = false := by
 cases rv with
 | t s => exact Qm6 h
 | cell => intro β hβ; cases hβ
theorem Qqx {P : Program} (hP : C.P = P) {r : ResultVar} {rv : RV} (hc : Qa1 P r = some rv) (h : Qh C ρ fr hp a.tmps w) (ho : okR fr hp rv) :
  ∃ v, (Qhb a.tmps r).run P w = .ok v w /\ Qn w (Xof C ρ (Qr hp (lr fr rv))) (rvP fr hp rv) v := by
 subst hP;cases r with
 | tmp t =>simp [Qa1] at hc; subst hc;exact ⟨_, rfl, Qcd h (h.slots t) (fun β hβ => hβ) ho⟩
 | cell x t =>
  simp only [Qa1, Option.bind_eq_some_iff, Option.map_eq_some_iff] at hc;obtain ⟨n, hn, ag, hag, rfl⟩ := hc;have hx := h.slots x;simp only [okR] at ho;split at ho
  ·rename_i β i o hfx;rw [hfx] at hx;split at ho
   ·rename_i hb hβ;obtain ⟨h1, h2, h3⟩ := ho;obtain ⟨b, hb2, g1, g2, g3⟩ := hx.mp_inv;rw [hβ] at g2; cases g2;have hown := h.own β hb hβ;have hblk := hown.blk;rw [g1] at hblk;obtain ⟨_, hlt', cur, cap, c1, c2, c3, c4, c5⟩ := hblk;have hxi := List.getElem?_eq_getElem h1;have hcl := (hown.len i _ hxi).1;have hcap : i < cap := by omega
    have hin : ∀ j, j < n -> i * hb.e + o + j < cur.size := fun j hj => by rw [c2]; exact Qcv hcap h2 hj
    have hrun := Qdd (P := C.P) (t := t) (b := b) (off := i * hb.e + o) (vs := Array.ofFn (n := n) fun j => cur.getD (i * hb.e + o + j.val) undef) hn hag h3 (by simp) w
     (fun j hj => by rw [Qb7 (f := fun j => cur.getD (i * hb.e + o + j) undef) hj]; exact Qak c1 (hin j hj))
    obtain ⟨V, hV⟩ : ∃ V : Value, V = (if ag then .agg (Array.ofFn (n := n) fun j => cur.getD (i * hb.e + o + j.val) undef) else (Array.ofFn (n := n) fun j => cur.getD (i * hb.e + o + j.val) undef).getD 0 undef) := ⟨_, rfl⟩
    rw [<- hV] at hrun;refine ⟨V, ?_, ?_⟩
    ·simp only [Qhb, g3, asAddr, Sem.run_bind, Sem.run_pure, Result.andThen_ok];exact hrun
    ·have : Qn w (Xof C ρ hp) (ldV ag n o (hb.xs[i]'h1)) (if ag then .agg (Array.ofFn (n := n) fun j => cur.getD (i * hb.e + o + j.val) undef) else (Array.ofFn (n := n) fun j => cur.getD (i * hb.e + o + j.val) undef).getD 0 undef) :=
      Qfg (by simp) (by rw [hcl]; exact h2) h3 (fun j y hj hy => by rw [Qb7 (f := fun j => cur.getD (i * hb.e + o + j) undef) hj, Nat.add_assoc];exact c5 i _ hxi (o + j) y hy)
     simp only [rvP, hfx, hβ, hxi, Option.getD_some];rw [hV];simp only [lr, Qm5]; exact this
   ·exact ho.elim
  ·exact ho.elim
theorem Qjc {P : Program} (hP : C.P = P) (h : Qh C ρ fr hp a.tmps w) : ∀ (rl : List ResultVar) (rs : List RV), rl.mapM (Qa1 P) = some rs -> (∀ r ∈ rs, okR fr hp r) ->
  ∃ vs : List Value, vs.length = rs.length /\ (rl.mapM (Qhb a.tmps)).run P w = .ok vs w /\ ∀ (i : Nat) (r : RV), rs[i]? = some r -> ∃ v, vs[i]? = some v /\ Qn w (Xof C ρ (Qr hp (rs.flatMap (lr fr)))) (rvP fr hp r) v
 | [], rs, hc, _ => by simp at hc; subst hc; exact ⟨[], rfl, by simp, by simp⟩
 | x :: rl, rs, hc, ho => by
  rw [List.mapM_cons] at hc;simp only [Option.bind_eq_bind, Option.pure_def, Option.bind_eq_some_iff, Option.some.injEq] at hc;obtain ⟨r, hr, rs', hrs, rfl⟩ := hc;obtain ⟨v, h1, h2⟩ := Qqx hP hr h (ho r (by simp));obtain ⟨vs, g1, g2, g3⟩ := Qjc hP h rl rs' hrs (fun q hq => ho q (by simp [hq]));refine ⟨v :: vs, by simp [g1], by simp [List.mapM_cons, Sem.run_bind, h1, g2], fun i q hq =>?_⟩;cases i with
  | zero =>simp at hq; subst hq;exact ⟨v, rfl, h2.mono (fun _ _ _ => rfl) (fun _ _ hn hx => hn (Qkv (fun β hβ => by rw [List.flatMap_cons]; exact List.mem_append_left _ hβ) hx)) (Nat.le_refl _)⟩
  | succ i =>simp at hq;obtain ⟨v', k1, k2⟩ := g3 i q hq;exact ⟨v', by simpa using k1, k2.mono (fun _ _ _ => rfl) (fun _ _ hn hx => hn (Qkv (fun β hβ => by rw [List.flatMap_cons]; exact List.mem_append_right _ hβ) hx)) (Nat.le_refl _)⟩
theorem Qh2 {P : Program} (hP : C.P = P) {fn : Func} {rs : List RV} {Rr : PV -> Prop} (hc : fn.results.toList.mapM (Qa1 P) = some rs) (h : Qh C ρ fr hp a.tmps w) (hr : Qb5 rs Rr fr hp) :
  ∃ v r, (results fn a.tmps).run P w = .ok v w /\ Qa6 w (Xof C ρ (Qr hp (rs.flatMap (lr fr)))) r v /\ (∀ β ∈ rs.flatMap (lr fr), isY β = false) /\ Rr r := by
 have hall : (∀ r ∈ rs, okR fr hp r) := by
  intro r hr'
  match rs, hr, hr' with
  | [r0], hr, hr' => simp at hr'; subst hr'; exact hr.1
  | [], hr, hr' => cases hr'
  | r0 :: r1 :: rest, hr, hr' => exact hr.1 r hr'
 have hN : ∀ β ∈ rs.flatMap (lr fr), isY β = false := fun β hβ => by obtain ⟨r, hr, hβ⟩ := List.mem_flatMap.1 hβ;exact Qx9 (hall r hr) β hβ
 obtain ⟨vs, hlen, hrun, hspec⟩ := Qjc hP h _ rs hc hall;have hres : (results fn a.tmps).run P w = .ok (if h : vs.toArray.size = 1 then vs.toArray[0] else .tuple vs.toArray) w := by
  have e : results fn a.tmps = (do let vs <- fn.results.mapM (Qhb a.tmps); pure (if h : vs.size = 1 then vs[0] else .tuple vs)) := rfl;rw [e, Array.mapM_eq_mapM_toList];simp only [Sem.run_bind];have h2 : (List.toArray <$> fn.results.toList.mapM (Qhb a.tmps) : Sem (Array Value)).run P w = .ok vs.toArray w := by simp [hrun]
  rw [h2];rfl
 match rs, hr, hlen, hspec, hN with
 | [r0], hr, hlen, hspec, hN =>
  have h1 : vs.toArray.size = 1 := by simpa using hlen
  rw [dif_pos h1] at hres;obtain ⟨v, h2, h3⟩ := hspec 0 r0 rfl;have e : vs.toArray[0] = v := by
   have : vs[0]? = some (vs.toArray[0]) := by simp [hlen]
   rw [h2] at this; exact (Option.some.inj this).symm
  rw [e] at hres;obtain ⟨_, p, hle, hRp⟩ := hr;exact ⟨_, _, hres, Qa6.of1 (h3.le hle), hN, hRp⟩
 | [], hr, hlen, hspec, hN =>
  have h1 : ¬ vs.toArray.size = 1 := by simp [hlen]
  rw [dif_neg h1] at hres;obtain ⟨_, p, hle, hRp⟩ := hr;exact ⟨_, _, hres, Qa6.le (p :=.tup []) ⟨vs.toArray, rfl, by simp [hlen], by simp⟩ hle, hN, hRp⟩
 | r0 :: r1 :: rest, hr, hlen, hspec, hN =>
  have h1 : ¬ vs.toArray.size = 1 := by simp [hlen]
  rw [dif_neg h1] at hres;obtain ⟨_, p, hle, hRp⟩ := hr;refine ⟨_, _, hres, Qa6.le (p :=.tup ((r0 :: r1 :: rest).map (rvP fr hp))) ⟨vs.toArray, rfl, by simp [hlen], fun i x hx =>?_⟩ hle, hN, hRp⟩;simp only [List.getElem?_map, Option.map_eq_some_iff] at hx;obtain ⟨rv, hrv, rfl⟩ := hx;obtain ⟨v, h2, h3⟩ := hspec i rv hrv;rw [Qbo, List.getD_eq_getElem?_getD, h2];exact h3
theorem Qos {P : Program} (hP : C.P = P) {fn : Func} {rs : List RV} {Rr : PV -> Prop} (hc : fn.results.toList.mapM (Qa1 P) = some rs) (h : Qh C ρ fr hp a.tmps w) (hr : Qb5 rs Rr fr hp) :
  ∃ v r, (results fn a.tmps).run P w = .ok v w /\ Qa6 w C.X0 r v /\ Rr r := by
 obtain ⟨v, r, h1, h2, _, h3⟩ := Qh2 hP hc h hr;exact ⟨v, r, h1, h2.mono (fun _ _ _ => rfl) (fun _ _ hn hx => hn (.inl hx)) (Nat.le_refl _), h3⟩
theorem Qm7 {P : Program} (hP : C.P = P) {fn : Func} {rs : List RV} {Rr : PV -> Prop} (hc : fn.results.toList.mapM (Qa1 P) = some rs) (h : Qh C ρ fr hp a.tmps w) (hr : Qb5 rs Rr fr hp)
  {X : Nat -> Prop} (hX : ∀ c, X c -> C.X0 c ∨ ∃ β hb, isY β = true /\ hp β = some hb /\ hb.fz = false /\ ρ β = some c) :
  ∃ v r, (results fn a.tmps).run P w = .ok v w /\ Qa6 w X r v /\ Rr r := by
 obtain ⟨v, r, h1, h2, h3, h4⟩ := Qh2 hP hc h hr;refine ⟨v, r, h1, h2.mono (fun _ _ _ => rfl) (fun c _ hn hx => hn ?_) (Nat.le_refl _), h4⟩;rcases hX c hx with hx | ⟨β, hb, k1, k2, k3, k4⟩
 ·exact .inl hx
 ·refine .inr ⟨β, hb, ?_, k3, k4⟩;have hn : β ∉ rs.flatMap (lr fr) := fun hl => by rw [h3 β hl] at k1; cases k1
  unfold Qr;rw [if_neg (by simpa using hn)];exact k2
theorem Qo {P : Program} {f : FuncId} {fn : Func} {sf : SFn} {args : List PV} {Rr : PV -> Prop} (hm : P.follows .mixedOrders = true) (hf : P.funcs[f]? = some fn) (hname : (fn.name != "runtime.NumGoroutine") = true) (hc : Qp P fn = some sf) (hn : args.length <= sf.n /\ sf.n <= 1000000)
  (hv : ∀ C : Ctx, C.P = P -> vc C (Qb5 sf.rs Rr) [.c sf.body] (Qfs args) hp0) : Qm P f args Rr := by
 simp only [Qp, Option.bind_eq_some_iff, Option.map_eq_some_iff] at hc;obtain ⟨c, hb, sb, hcb, rs, hrs, rfl⟩ := hc;refine ⟨by simp [Qdi, hf, hb]; simpa using hname, fun w X vals hX hsz hrep =>?_⟩
 let C : Ctx := Ctx.plain P fn.ntmps w X hX hn.2
 refine calls_of_wp hf hb ?_;have hsz' : (vals ++ Array.replicate (fn.ntmps - vals.size) undef).size = fn.ntmps := by simp at hn ⊢; omega
 have hsim : Sim C (Qfs args) hp0 (vals ++ Array.replicate (fn.ntmps - vals.size) undef) w := by
  refine ⟨fun _ => none, hsz', Ext.refl _ _, (fun _ _ h => by cases h), by simp [hp0], by simp [hp0], fun i =>?_⟩;unfold Qfs;cases hi : args[i]? with
  | none => trivial
  | some p =>
   simp only [Option.getD_some];have hil : i < vals.size := by rw [hsz]; exact (List.getElem?_eq_some_iff.1 hi).1
   have hr := hrep i p hi;have e : (vals ++ Array.replicate (fn.ntmps - vals.size) undef).getD i undef = vals.getD i undef := by rw [Qat, if_pos hil]
   rw [e];refine Qb.ofData (hr.mono (fun _ _ _ => rfl) (fun b _ hn hx =>?_) (Nat.le_refl _));rcases hx with hx | ⟨_, _, h1, _⟩
   ·exact hn hx
   ·simp [hp0] at h1
 have fin : ∀ (fr : Fr) (hp : HP) (a : Act) (w' : World), a.defers = [] -> Sim C fr hp a.tmps w' -> Qb5 rs Rr fr hp ->
   a.defers = [] /\ ∃ v, (results fn a.tmps).run P w' = .ok v w' /\ ∃ v' r, Ending.returned v = .returned v' /\ Ext Qi w w' /\ Qa6 w' X r v' /\ Rr r := by
  intro fr hp a w' hd ⟨ρ, hs⟩ hr;obtain ⟨v, r, h1, h2, h3⟩ := Qos (C := C) rfl hrs hs hr;exact ⟨hd, v, h1, v, r, rfl, Ctx.plain_ext hs.ext, h2, h3⟩
 exact Qh1 (C := C) (R := Qb5 rs Rr) hm c sb [] _ (Qfs args) hp0 _ w hcb ⟨fun fr hp a w' hd hs hv => (by rw [Qgh] at hv; exact fin fr hp a w' hd hs hv), fun id sk' he => (by simp [FW.Qt] at he), fin⟩ rfl hsim (hv C rfl)
end Go.FW
namespace Go.FW
open Go
variable {C : Ctx} {ρ : Nat -> Option Nat} {fr : Fr} {hp : HP} {w : World} {a : Act} {K R : Qa}
def Qft (fr : Fr) (d : Option Nat) (r : PV) : Fr := match d with | some d => upd fr d r | none => fr
theorem Qb.ofV {p : PV} {v : Value} (h : Qa6 w (Xof C ρ hp) p v) : Qb C ρ hp w p v := by
 cases p with
 | tup ps => exact h
 | _ => exact Qb.ofData h
theorem Qkw {tmps : Array Value} (h : Qh C ρ fr hp tmps w) : ∀ b, Xof C ρ hp b -> b < w.heap.size := by
 rintro b (hx | ⟨β, hb, h1, _, h3⟩)
 ·exact Nat.lt_of_lt_of_le (C.hX0 b hx) h.ext.size
 ·have := (h.own β hb h1).blk;rw [h3] at this;exact this.2.1
theorem Qh.updO {tmps : Array Value} {d : Option Nat} (h : Qh C ρ fr hp tmps w) {p : PV} {v : Value} (hv : Qb C ρ hp w p v) (hd : ∀ x, d = some x -> x < C.N) : Qh C ρ (Qft fr d p) hp (Qva tmps d v) w := by
 cases d with
 | some d => exact h.upd hv (hd d rfl)
 | none => exact h
theorem Qkx {tmps : Array Value} {first cap args : List PV} {fv cv av : Array Value} (hs : Qh C ρ fr hp tmps w) (h1 : fv.size = first.length) (_h2 : cv.size = cap.length) (h3 : av.size = args.length)
  (hr1 : ∀ (i : Nat) (x : PV), first[i]? = some x -> Qbg C ρ hp w x (fv.getD i undef)) (hr2 : ∀ (i : Nat) (x : PV), cap[i]? = some x -> Qbg C ρ hp w x (cv.getD i undef)) (hr3 : ∀ (i : Nat) (x : PV), args[i]? = some x -> Qb C ρ hp w x (av.getD i undef))
  (hdat : ((first ++ args ++ cap).map (Qj hp)).all PV.isData = true) :
  ∀ (i : Nat) (x : PV), ((first ++ args ++ cap).map (Qj hp))[i]? = some x -> Qn w (Xof C ρ (Qr hp ((first ++ args ++ cap).flatMap PV.refs))) x ((fv ++ av ++ cv).getD i undef) := by
 intro i x hx;rw [List.all_eq_true] at hdat;have hxd := hdat x (List.mem_of_getElem? hx);simp only [List.getElem?_map, Option.map_eq_some_iff] at hx;obtain ⟨p, hp', rfl⟩ := hx;have hmem := List.mem_of_getElem? hp';have hl : ∀ β ∈ p.refs, β ∈ (first ++ args ++ cap).flatMap PV.refs := fun β hβ => List.mem_flatMap.2 ⟨p, hmem, hβ⟩;have toF : ∀ {p : PV} {v : Value}, Qbg C ρ hp w p v -> (Qj hp p).isData = true -> Qb C ρ hp w p v := by
  intro p v hr hd;cases p with
  | undef => trivial
  | mp => exact hr
  | mso => exact hr
  | rb => exact hr
  | np => exact hr
  | nso => exact hr
  | _ => exact Qb.ofData (Qn.of_c hr)
 rw [Qat];rw [List.getElem?_append] at hp';by_cases c1 : i < (first ++ args).length
 ·rw [if_pos c1] at hp';rw [if_pos (by simp only [Array.size_append, h1, h3]; simpa using c1), Qat];rw [List.getElem?_append] at hp';by_cases c2 : i < first.length
  ·rw [if_pos c2] at hp';rw [if_pos (by omega)];exact Qcd hs (toF (hr1 i p hp') hxd) hl hxd
  ·rw [if_neg c2] at hp';rw [if_neg (by omega), h1];exact Qcd hs (hr3 _ p hp') hl hxd
 ·rw [if_neg c1] at hp';have hsz : (fv ++ av).size = (first ++ args).length := by simp [h1, h3]
  rw [if_neg (by omega), hsz];exact Qcd hs (toF (hr2 _ p hp') hxd) hl hxd
theorem Qjd {P : Program} (hP : C.P = P) {g : FuncId} {first cap args pargs : List PV} {pr : Bool} {d : Option Nat} {Rr : PV -> Prop} (h : Qm P g pargs Rr) (hargs : (first ++ args ++ cap).map (Qj hp) = pargs) (hdat : pargs.all PV.isData = true)
  (hK : ∀ r, Rr r -> K (Qft fr d r) (Qr hp ((first ++ args ++ cap).flatMap PV.refs))) : Qcz C pr (.fn g first cap) args d fr hp K := by
 subst hP;refine ⟨h.1, fun ρ tmps w fv cv av hdN hs h1 h2 h3 hr1 hr2 hr3 =>?_⟩;have hf := hs.freeze ((first ++ args ++ cap).flatMap PV.refs);refine (h.2 w _ (fv ++ av ++ cv) (Qkw hf) (by rw [<- hargs]; simp [h1, h2, h3]) (by rw [<- hargs]; exact Qkx hs h1 h2 h3 hr1 hr2 hr3 (by rw [hargs]; exact hdat))).mono ?_;rintro e w' ⟨v, r, rfl, hx, hr, hRr⟩;exact ⟨v, _, _, rfl, ⟨ρ, (hf.grow hx).updO (Qb.ofV hr) hdN⟩, fun _ => hx, hK r hRr⟩
theorem Qiy {P : Program} (hP : C.P = P) {g : FuncId} {first cap args pargs : List PV} {pr : Bool} {d : Option Nat} {r : PV} (h : Qm P g pargs (· = r)) (hargs : (first ++ args ++ cap).map (Qj hp) = pargs) (hdat : pargs.all PV.isData = true)
  (hK : K (Qft fr d r) (Qr hp ((first ++ args ++ cap).flatMap PV.refs))) : Qcz C pr (.fn g first cap) args d fr hp K :=
 Qjd hP h hargs hdat (fun _ hr => hr ▸ hK)
def Qfu (C : Ctx) (R : Qa) (c : PV) (x y : SC) (sk : List It) (fr : Fr) (hp : HP) : Prop := Qgo c (vc C R (.c x :: sk) fr hp) (vc C R (.c y :: sk) fr hp)
def brV (C : Ctx) (R : Qa) (x y : RT) (sk : List It) (fr : Fr) (hp : HP) : Prop := vc C R (.o x :: sk) fr hp /\ vc C R (.o y :: sk) fr hp
def Qcl (C : Ctx) (p : PV) (s : Nat) (want : Bool) (o : SOp) (fr : Fr) (hp : HP) (K : Qa) : Prop := match p with
  |.bool t => (t = want -> opV C o (upd fr s (.bool want)) hp K) /\ (t = (!want) -> Qb2 o (upd fr s (.bool !want)) hp K)
  |.tup [] => Qb2 o fr hp K
  | _ => False
theorem Q3 {p : Prop} [Decidable p] {x y : SC} {sk : List It} (h1 : p -> vc C R (.c x :: sk) fr hp) (h2 : ¬ p -> vc C R (.c y :: sk) fr hp) : Qfu C R (.bool (decide p)) x y sk fr hp :=
 ⟨fun h => h1 (of_decide_eq_true h), fun h => h2 (of_decide_eq_false h)⟩
theorem Qlo {p : Prop} [Decidable p] {s : Nat} {o : SOp} (h1 : p -> Qcl C (.bool true) s true o (upd fr s (.bool true)) hp K) (h2 : ¬ p -> Qcl C (.bool false) s true o (upd fr s (.bool false)) hp K) : Qcl C (.bool (decide p)) s true o fr hp K := by
 have hu : ∀ (b : Bool), upd (upd fr s (.bool b)) s (.bool b) = upd fr s (.bool b) := fun b => by funext i; unfold upd; split <;> rfl
 refine ⟨fun h =>?_, fun h =>?_⟩
 ·have := (h1 (of_decide_eq_true h)).1 rfl
  rwa [hu] at this
 ·have := (h2 (of_decide_eq_false h)).2 rfl
  rwa [show (!true) = false from rfl, hu] at this
theorem Qqy {sk : List It} {c : Opd} {x y : SC} : vc C R (.c (.cond c x y) :: sk) fr hp = Qfu C R (ev fr c) x y sk fr hp := Qiv
theorem Qvf {sk : List It} {x y : RT} : vc C R (.o (.br x y) :: sk) fr hp = brV C R x y sk fr hp := Qs2
theorem Qvg {sk : List It} {o : SOp} {r : RT} : vc C R (.o (.o none o r) :: sk) fr hp = opV C o fr hp (vc C R (.o r :: sk)) := Qhz
theorem Qvh {sk : List It} {s : Nat} {b : Bool} {o : SOp} {r : RT} : vc C R (.o (.o (some (s, b)) o r) :: sk) fr hp = Qcl C (fr s) s b o fr hp (vc C R (.o r :: sk)) := Qhz
theorem vcs :
  (∀ (C : Ctx) (R : Qa) (sk : List It) (x y : SC) (fr : Fr) (hp : HP), vc C R (.c (.seq x y) :: sk) fr hp = vc C R (.c x :: .c y :: sk) fr hp) /\
  (∀ (C : Ctx) (R : Qa) (sk : List It) (id : Nat) (x : SC) (fr : Fr) (hp : HP), vc C R (.c (.block id x) :: sk) fr hp = vc C R (.c x :: .eb id :: sk) fr hp) /\
  (∀ (C : Ctx) (R : Qa) (sk : List It) (fr : Fr) (hp : HP), vc C R (.c .skip :: sk) fr hp = vc C R sk fr hp) /\
  (∀ (C : Ctx) (R : Qa) (sk : List It) (r : RT) (fr : Fr) (hp : HP), vc C R (.c (.rg r) :: sk) fr hp = vc C R (.o r :: sk) fr hp) /\
  (∀ (C : Ctx) (R : Qa) (sk : List It) (id : Nat) (fr : Fr) (hp : HP), vc C R (.eb id :: sk) fr hp = vc C R sk fr hp) /\
  (∀ (C : Ctx) (R : Qa) (sk : List It) (J : Qa) (fr : Fr) (hp : HP), vc C R (.el J :: sk) fr hp = J fr hp) /\
  (∀ (C : Ctx) (R : Qa) (sk : List It) (fr : Fr) (hp : HP), vc C R (.c .ret :: sk) fr hp = R fr hp) /\
  (∀ (C : Ctx) (R : Qa) (fr : Fr) (hp : HP), vc C R [] fr hp = R fr hp) /\
  (∀ (C : Ctx) (R : Qa) (sk : List It) (c : Opd) (x y : SC) (fr : Fr) (hp : HP), vc C R (.c (.cond c x y) :: sk) fr hp = Qfu C R (ev fr c) x y sk fr hp) /\
  (∀ (C : Ctx) (R : Qa) (sk : List It) (id : Nat) (fr : Fr) (hp : HP), vc C R (.c (.exit id) :: sk) fr hp = Qgp C R (FW.Qt id sk) fr hp) /\
  (∀ (C : Ctx) (R : Qa) (sk : List It) (fr : Fr) (hp : HP), vc C R (.o .nil :: sk) fr hp = vc C R sk fr hp) /\
  (∀ (C : Ctx) (R : Qa) (sk : List It) (o : SOp) (r : RT) (fr : Fr) (hp : HP), vc C R (.o (.o none o r) :: sk) fr hp = opV C o fr hp (vc C R (.o r :: sk))) /\
  (∀ (C : Ctx) (R : Qa) (sk : List It) (s : Nat) (b : Bool) (o : SOp) (r : RT) (fr : Fr) (hp : HP), vc C R (.o (.o (some (s, b)) o r) :: sk) fr hp = Qcl C (fr s) s b o fr hp (vc C R (.o r :: sk))) /\
  (∀ (C : Ctx) (R : Qa) (sk : List It) (x y : RT) (fr : Fr) (hp : HP), vc C R (.o (.br x y) :: sk) fr hp = brV C R x y sk fr hp) /\
  (∀ (C : Ctx) (R : Qa) (x y : SC) (sk : List It) (fr : Fr) (hp : HP), Qfu C R (.bool true) x y sk fr hp = vc C R (.c x :: sk) fr hp) /\
  (∀ (C : Ctx) (R : Qa) (x y : SC) (sk : List It) (fr : Fr) (hp : HP), Qfu C R (.bool false) x y sk fr hp = vc C R (.c y :: sk) fr hp) /\
  (∀ (C : Ctx) (R : Qa) (sk : List It) (fr : Fr) (hp : HP), Qgp C R (some sk) fr hp = vc C R sk fr hp) /\
  (∀ (id : Nat) (s : SC) (sk : List It), FW.Qt id (.c s :: sk) = FW.Qt id sk) /\
  (∀ (id : Nat) (r : RT) (sk : List It), FW.Qt id (.o r :: sk) = FW.Qt id sk) /\
  (∀ (id : Nat) (J : Qa) (sk : List It), FW.Qt id (.el J :: sk) = FW.Qt id sk) /\
  (∀ (id i : Nat) (sk : List It), FW.Qt id (.eb i :: sk) = if i = id then some sk else FW.Qt id sk) /\
  (∀ (C : Ctx) (s : Nat) (o : SOp) (fr : Fr) (hp : HP) (K : Qa), Qcl C (.bool true) s true o fr hp K = opV C o (upd fr s (.bool true)) hp K) /\
  (∀ (C : Ctx) (s : Nat) (o : SOp) (fr : Fr) (hp : HP) (K : Qa), Qcl C (.bool false) s true o fr hp K = Qb2 o (upd fr s (.bool false)) hp K) /\
  (∀ (C : Ctx) (s : Nat) (o : SOp) (fr : Fr) (hp : HP) (K : Qa), Qcl C (.bool true) s false o fr hp K = Qb2 o (upd fr s (.bool true)) hp K) /\
  (∀ (C : Ctx) (s : Nat) (o : SOp) (fr : Fr) (hp : HP) (K : Qa), Qcl C (.bool false) s false o fr hp K = opV C o (upd fr s (.bool false)) hp K) /\
  (∀ (C : Ctx) (s : Nat) (b : Bool) (o : SOp) (fr : Fr) (hp : HP) (K : Qa), Qcl C (.tup []) s b o fr hp K = Qb2 o fr hp K) := by
 refine ⟨fun _ _ _ _ _ _ _ => Qks, fun _ _ _ _ _ _ _ => Qha, fun _ _ _ _ _ => Qiu, fun _ _ _ _ _ _ => Qs3, fun _ _ _ _ _ _ => Qm0, fun _ _ _ _ _ _ => Qjw, fun _ _ _ _ _ => Qkt, fun _ _ _ _ => Qgh, fun _ _ _ _ _ _ _ _ => Qqy,
  fun _ _ _ _ _ _ => Qiw, fun _ _ _ _ _ => Qhy, fun _ _ _ _ _ _ _ => Qvg, fun _ _ _ _ _ _ _ _ _ => Qvh, fun _ _ _ _ _ _ _ => Qvf, fun _ _ _ _ _ _ _ =>?_, fun _ _ _ _ _ _ _ =>?_, fun _ _ _ _ _ => rfl, fun _ _ _ => rfl, fun _ _ _ => rfl, fun _ _ _ => rfl, fun _ _ _ => rfl, ?_, ?_, ?_, ?_, fun _ _ _ _ _ _ _ => rfl⟩
 ·simp [Qfu, Qgo]
 ·simp [Qfu, Qgo]
 all_goals intros; simp [Qcl]
end Go.FW
namespace Go.FW
open Go
variable {C : Ctx} {fr : Fr} {hp : HP} {K R : Qa}
theorem Qky {n : Int} (h1 : -9223372036854775808 <= n) (h2 : n <= 9223372036854775807) : IntKind.i64.wrap n = n := by rw [IntKind.wrap_i64]; omega
theorem Qqz {n : Int} (h1 : -2147483648 <= n) (h2 : n <= 2147483647) : IntKind.i32.wrap n = n := by rw [IntKind.wrap_i32]; omega
theorem Qkz {n : Int} (h1 : 0 <= n) (h2 : n <= 18446744073709551615) : IntKind.u64.wrap n = n := by rw [IntKind.wrap_u64]; omega
theorem Qq0 {n : Int} (h1 : 0 <= n) (h2 : n <= 4294967295) : IntKind.u32.wrap n = n := by rw [IntKind.wrap_u32]; omega
theorem Qti {n : Int} (h1 : 0 <= n) (h2 : n <= 255) : IntKind.u8.wrap n = n := by rw [IntKind.wrap_u8]; omega
theorem Qtj {x y : Int} (h : 0 <= x) : x.tdiv y = x / y := Int.tdiv_eq_ediv_of_nonneg h
theorem Qtk {x y : Int} (h : 0 <= x) : x.tmod y = x % y := Int.tmod_eq_emod_of_nonneg h
def ldM (hb : Option HB) (n : Nat) (ag : Bool) (i o : Nat) (d : Nat) (fr : Fr) (hp : HP) (K : Qa) : Prop := match hb with
 | some hb => ∃ h : i < hb.xs.length, o + n <= hb.e /\ (ag = false -> n = 1) /\ K (upd fr d (ldV ag n o (hb.xs[i]'h))) hp
 | none => False
def stM (hb : Option HB) (β : Nat) (n : Nat) (i o : Nat) (v : PV) (fr : Fr) (hp : HP) (K : Qa) : Prop := match hb with
  | some hb => hb.fz = false /\ v.isData = true /\ v.cells.length = n /\ ∃ h : i < hb.xs.length, o + n <= hb.e /\
        K fr (Qf hp β { hb with xs := hb.xs.set i (if n = hb.e then v else stV (hb.xs[i]'h) o v) })
  | none => False
def Qm8 (R : PV -> Prop) (p : PV) : Prop := p.isData = true /\ ∃ q, PV.le p q /\ R q
theorem Qk {p r : PV} (h : p = r) (hd : r.isData = true) : Qm8 (· = r) p := by subst h; exact ⟨hd, _, Qdq _, rfl⟩
theorem Ql6 {p r : PV} (h : PV.le p r) (hd : p.isData = true) : Qm8 (· = r) p := ⟨hd, _, h, rfl⟩
theorem Ql7 {e ty n : Nat} {ag fz : Bool} {o d : Nat} {x : PV} (h : o + n <= e) (ha : ag = false -> n = 1) : ldM (some ⟨e, ty, [x], fz⟩) n ag 0 o d fr hp K = K (upd fr d (ldV ag n o x)) hp := by simp [ldM, h]; intro _; exact ha
theorem Qfi {e ty n i : Nat} {ag fz : Bool} {o d : Nat} {xs : List PV} (h : i < xs.length) (h1 : o + n <= e) (ha : ag = false -> n = 1) : ldM (some ⟨e, ty, xs, fz⟩) n ag i o d fr hp K = K (upd fr d (ldV ag n o (xs[i]'h))) hp := by simp [ldM, h, h1]; intro _; exact ha
theorem Qvi {e ty n β i : Nat} {o : Nat} {xs : List PV} {v : PV} (h : i < xs.length) (hv : v.isData = true) (hl : v.cells.length = n) (h1 : o + n <= e) : stM (some ⟨e, ty, xs, false⟩) β n i o v fr hp K = K fr (Qf hp β ⟨e, ty, xs.set i (if n = e then v else stV (xs[i]'h) o v), false⟩) := by simp [stM, h, h1, hv, hl]
theorem Qot {ty n β i : Nat} {xs : List PV} {v : PV} (h : i < xs.length) (hv : v.isData = true) (hl : v.cells.length = n) : stM (some ⟨n, ty, xs, false⟩) β n i 0 v fr hp K = K fr (Qf hp β ⟨n, ty, xs.set i v, false⟩) := by rw [Qvi h hv hl (by omega)]; simp
theorem Qh3 {e d : Nat} {k : IntKind} {m : Int} {xs : List PV} (h0 : 0 <= m) (h : m < xs.length) : Qbl e (.sl e xs) (.int k m) d fr hp K = K (upd fr d (.pt (xs[m.toNat]'(by omega)).cells)) hp := by
 have : m.toNat < xs.length := by omega
 simp [Qbl, h0, this]
theorem Qgr {α : Type} {f : α -> PV} {e d : Nat} {k : IntKind} {m : Int} {xs : List α} (h0 : 0 <= m) (h : m < xs.length) : Qbl e (.sl e (xs.map f)) (.int k m) d fr hp K = K (upd fr d (.pt (f (xs[m.toNat]'(by omega))).cells)) hp := by rw [Qh3 h0 (by simpa using h)]; simp
theorem Qvj {e d β o n : Nat} {k : IntKind} {m : Int} (h0 : 0 <= m) (h : m < n) (he : (hp β).map (·.e) = some e) : Qbl e (.mso β o n) (.int k m) d fr hp K = K (upd fr d (.mp β (o + m.toNat) 0)) hp := by
 have : m.toNat < n := by omega
 simp [Qbl, h0, this, he]
theorem Qjx {e by_ ty d : Nat} {z : PV} {k k' : IntKind} {L Cc : Int} (h0 : 0 < e) (hz : z.cells.length = e) (h1 : 0 <= L) (h2 : L <= Cc) (h3 : by_ * Cc <= 281474976710656) (h4 : Cc <= 9223372036854775807) :
  mkK e by_ ty z (.int k L) (.int k' Cc) d fr hp K = K (upd (Qz d fr) d (.ms d L.toNat)) (Qf hp d ⟨e, ty, List.replicate L.toNat z, false⟩) := by
 simp [mkK, h0, hz, h1, h2, h3, h4]
theorem Qvk {n ty d β o m : Nat} (hB : isY β = true) : Qba n ty (.mso β o m) d fr hp K = K (upd fr d (.rb β o m)) hp := by simp [Qba, hB]
theorem Qya {d β o m : Nat} : ldK 1 false (.rb β o m) d fr hp K = K (upd fr d (.mso β o m)) hp := by simp [ldK]
theorem Qm9 {e by_ ty d : Nat} {x : PV} {ys : List PV} (hs : Qcc hp x = some (e, ys)) (h0 : 0 < e) (h1 : ys.length * by_ <= 140737488355328) (h2 : ys.length <= 9223372036854775807) :
  Qct e by_ ty .nilS x d fr hp K = K (upd (Qz d fr) d (.ms d ys.length)) (Qf hp d ⟨e, ty, ys, false⟩) := by
 simp [Qct, hs, h0, h1, h2]
theorem Qna {e by_ ty d β n : Nat} {x : PV} {ys xs : List PV} (hs : Qcc hp x = some (e, ys)) (hb : hp β = some ⟨e, ty, xs, false⟩) (h0 : 0 < e) (hn : n <= xs.length) (h1 : (n + ys.length) * by_ <= 140737488355328) (h2 : n + ys.length <= 9223372036854775807) (hB : isB β = false := by decide) :
  Qct e by_ ty (.ms β n) x d fr hp K = K (upd (Qz β fr) d (.ms β (n + ys.length))) (Qf hp β ⟨e, ty, xs.take n ++ ys, false⟩) := by
 simp [Qct, hs, hb, h0, hn, h1, h2, hB]
theorem Qnb {e d : Nat} {xs : List PV} {lo hi : Option PV} {L H : Int} (h1 : Qai 0 lo = some L) (h2 : Qai xs.length hi = some H) (h3 : 0 <= L) (h4 : L <= H) (h5 : H <= xs.length) :
  slK e (.sl e xs) lo hi none d fr hp K = K (upd fr d (.sl e ((xs.take H.toNat).drop L.toNat))) hp := by
 have hM : Qai (xs.length) none = some (xs.length : Int) := rfl;simp only [slK, h1, h2, hM];simp [h3, h4, h5]
theorem Qyb {e d : Nat} {xs : List PV} {k : IntKind} {H : Int} (h4 : 0 <= H) (h5 : H <= xs.length) :
  slK e (.sl e xs) none (some (.int k H)) none d fr hp K = K (upd fr d (.sl e (xs.take H.toNat))) hp := by
 rw [Qnb (L := 0) (H := H) rfl rfl (by omega) h4 h5]; simp
theorem Qyc {e d : Nat} {xs : List PV} {k : IntKind} {L : Int} (h4 : 0 <= L) (h5 : L <= xs.length) :
  slK e (.sl e xs) (some (.int k L)) none none d fr hp K = K (upd fr d (.sl e (xs.drop L.toNat))) hp := by
 rw [Qnb (L := L) (H := xs.length) rfl rfl h4 h5 (by omega)]; simp
theorem Qzk :
  (∀ (C : Ctx) (d : Nat) (x : Opd) (fr : Fr) (hp : HP) (K : Qa), opV C (.mv d x) fr hp K = K (upd fr d (ev fr x)) hp) /\
  (∀ (C : Ctx) (d : Nat) (c a b : Opd) (fr : Fr) (hp : HP) (K : Qa), opV C (.pick d c a b) fr hp K = Qd9 (ev fr c) (ev fr a) (ev fr b) d fr hp K) /\
  (∀ (C : Ctx) (d : Nat) (op : BinOp) (bt : Bool) (a b : Opd) (fr : Fr) (hp : HP) (K : Qa), opV C (.bin d op bt a b) fr hp K = Qap op bt (ev fr a) (ev fr b) d fr hp K) /\
  (∀ (C : Ctx) (d : Nat) (op : UnOp) (a : Opd) (fr : Fr) (hp : HP) (K : Qa), opV C (.un d op a) fr hp K = unK op (ev fr a) d fr hp K) /\
  (∀ (C : Ctx) (d : Nat) (k : IntKind) (a : Opd) (fr : Fr) (hp : HP) (K : Qa), opV C (.conv d k a) fr hp K = Qfn k (ev fr a) d fr hp K) /\
  (∀ (C : Ctx) (d : Nat) (a : Opd) (fr : Fr) (hp : HP) (K : Qa), opV C (.len d a) fr hp K = Qd4 (ev fr a) d fr hp K) /\
  (∀ (C : Ctx) (d : Nat) (a b : Opd) (fr : Fr) (hp : HP) (K : Qa), opV C (.mx d a b) fr hp K = mxK (ev fr a) (ev fr b) d fr hp K) /\
  (∀ (C : Ctx) (d : Nat) (a b : Opd) (fr : Fr) (hp : HP) (K : Qa), opV C (.mn d a b) fr hp K = mnK (ev fr a) (ev fr b) d fr hp K) /\
  (∀ (C : Ctx) (d e : Nat) (a b : Opd) (fr : Fr) (hp : HP) (K : Qa), opV C (.idx d e a b) fr hp K = Qbl e (ev fr a) (ev fr b) d fr hp K) /\
  (∀ (C : Ctx) (d n e : Nat) (a b : Opd) (fr : Fr) (hp : HP) (K : Qa), opV C (.idxA d n e a b) fr hp K = Qdr n e (ev fr a) (ev fr b) d fr hp K) /\
  (∀ (C : Ctx) (d n e : Nat) (ag : Bool) (a b : Opd) (fr : Fr) (hp : HP) (K : Qa), opV C (.ixv d n e ag a b) fr hp K = Qe6 n e ag (ev fr a) (ev fr b) d fr hp K) /\
  (∀ (C : Ctx) (d off : Nat) (a : Opd) (fr : Fr) (hp : HP) (K : Qa), opV C (.fld d off a) fr hp K = Qe7 off (ev fr a) d fr hp K) /\
  (∀ (C : Ctx) (d off n : Nat) (ag : Bool) (a : Opd) (fr : Fr) (hp : HP) (K : Qa), opV C (.fldv d off n ag a) fr hp K = Qds off n ag (ev fr a) d fr hp K) /\
  (∀ (C : Ctx) (d n : Nat) (ag : Bool) (a : Opd) (fr : Fr) (hp : HP) (K : Qa), opV C (.ld d n ag a) fr hp K = ldK n ag (ev fr a) d fr hp K) /\
  (∀ (C : Ctx) (n : Nat) (a b : Opd) (fr : Fr) (hp : HP) (K : Qa), opV C (.st n a b) fr hp K = stK n (ev fr a) (ev fr b) fr hp K) /\
  (∀ (C : Ctx) (d n ty : Nat) (a : Opd) (fr : Fr) (hp : HP) (K : Qa), opV C (.box d n ty a) fr hp K = Qba n ty (ev fr a) d fr hp K) /\
  (∀ (C : Ctx) (d n ty : Nat) (z : PV) (fr : Fr) (hp : HP) (K : Qa), opV C (.alloc d n ty z) fr hp K = Qba n ty z d fr hp K) /\
  (∀ (C : Ctx) (d e by_ ty : Nat) (z : PV) (l c : Opd) (fr : Fr) (hp : HP) (K : Qa), opV C (.mk d e by_ ty z l c) fr hp K = mkK e by_ ty z (ev fr l) (ev fr c) d fr hp K) /\
  (∀ (C : Ctx) (d e ty : Nat) (ps : List Opd) (fr : Fr) (hp : HP) (K : Qa), opV C (.bs d e ty ps) fr hp K = bsK e ty (ps.map (ev fr)) d fr hp K) /\
  (∀ (C : Ctx) (d e by_ ty : Nat) (a b : Opd) (fr : Fr) (hp : HP) (K : Qa), opV C (.app d e by_ ty a b) fr hp K = Qct e by_ ty (ev fr a) (ev fr b) d fr hp K) /\
  (∀ (C : Ctx) (d e : Nat) (a b : Opd) (fr : Fr) (hp : HP) (K : Qa), opV C (.cpy d e a b) fr hp K = Qil e (ev fr a) (ev fr b) d fr hp K) /\
  (∀ (C : Ctx) (d e : Nat) (a : Opd) (l h m : Option Opd) (fr : Fr) (hp : HP) (K : Qa), opV C (.sl d e a l h m) fr hp K = slK e (ev fr a) (l.map (ev fr)) (h.map (ev fr)) (m.map (ev fr)) d fr hp K) /\
  (∀ (C : Ctx) (d : Nat) (a : Opd) (i : Nat) (fr : Fr) (hp : HP) (K : Qa), opV C (.ext d a i) fr hp K = Qc2 (ev fr a) i d fr hp K) /\
  (∀ (C : Ctx) (d : Nat) (z : List PV) (ps : List (Nat × Nat × Opd)) (fr : Fr) (hp : HP) (K : Qa), opV C (.bld d z ps) fr hp K = Qck z (ps.map fun p => (p.1, p.2.1, ev fr p.2.2)) d fr hp K) /\
  (∀ (C : Ctx) (d f : Nat) (x y : List Opd) (fr : Fr) (hp : HP) (K : Qa), opV C (.fn d f x y) fr hp K = ((x.map (ev fr) ++ y.map (ev fr)).all PV.isCap = true /\ K (upd fr d (.fn f (x.map (ev fr)) (y.map (ev fr)))) hp)) /\
  (∀ (C : Ctx) (d : Option Nat) (pr : Bool) (f : Opd) (ars : List Opd) (fr : Fr) (hp : HP) (K : Qa), opV C (.call d pr f ars) fr hp K = Qcz C pr (ev fr f) (ars.map (ev fr)) d fr hp K) /\
  (∀ (C : Ctx) (d : Option Nat) (x : Opd) (fr : Fr) (hp : HP) (K : Qa), opV C (.nilc d x) fr hp K = Qho (ev fr x) d fr hp K) /\
  (∀ (fr : Fr) (n : Nat), ev fr (.t n) = fr n) /\ (∀ (fr : Fr) (p : PV), ev fr (.c p) = p) := by
 refine ⟨?_, ?_, ?_, ?_, ?_, ?_, ?_, ?_, ?_, ?_, ?_, ?_, ?_, ?_, ?_, ?_, ?_, ?_, ?_, ?_, ?_, ?_, ?_, ?_, ?_, ?_, ?_, ?_, ?_⟩ <;> intros <;> rfl
theorem Qzl :
  (∀ (bt : Bool) (k : IntKind) (x y : Int) (d : Nat) (fr : Fr) (hp : HP) (K : Qa), Qap .add bt (.int k x) (.int k y) d fr hp K = K (upd fr d (.int k (k.wrap (x + y)))) hp) /\
  (∀ (bt : Bool) (k : IntKind) (x y : Int) (d : Nat) (fr : Fr) (hp : HP) (K : Qa), Qap .sub bt (.int k x) (.int k y) d fr hp K = K (upd fr d (.int k (k.wrap (x - y)))) hp) /\
  (∀ (bt : Bool) (k : IntKind) (x y : Int) (d : Nat) (fr : Fr) (hp : HP) (K : Qa), Qap .mul bt (.int k x) (.int k y) d fr hp K = K (upd fr d (.int k (k.wrap (x * y)))) hp) /\
  (∀ (bt : Bool) (k : IntKind) (x y : Int) (d : Nat) (fr : Fr) (hp : HP) (K : Qa), Qap .eql bt (.int k x) (.int k y) d fr hp K = K (upd fr d (.bool (decide (x = y)))) hp) /\
  (∀ (bt : Bool) (k : IntKind) (x y : Int) (d : Nat) (fr : Fr) (hp : HP) (K : Qa), Qap .neq bt (.int k x) (.int k y) d fr hp K = K (upd fr d (.bool (decide (¬ x = y)))) hp) /\
  (∀ (bt : Bool) (k : IntKind) (x y : Int) (d : Nat) (fr : Fr) (hp : HP) (K : Qa), Qap .lss bt (.int k x) (.int k y) d fr hp K = K (upd fr d (.bool (decide (x < y)))) hp) /\
  (∀ (bt : Bool) (k : IntKind) (x y : Int) (d : Nat) (fr : Fr) (hp : HP) (K : Qa), Qap .leq bt (.int k x) (.int k y) d fr hp K = K (upd fr d (.bool (decide (x <= y)))) hp) /\
  (∀ (bt : Bool) (k : IntKind) (x y : Int) (d : Nat) (fr : Fr) (hp : HP) (K : Qa), Qap .gtr bt (.int k x) (.int k y) d fr hp K = K (upd fr d (.bool (decide (y < x)))) hp) /\
  (∀ (bt : Bool) (k : IntKind) (x y : Int) (d : Nat) (fr : Fr) (hp : HP) (K : Qa), Qap .geq bt (.int k x) (.int k y) d fr hp K = K (upd fr d (.bool (decide (y <= x)))) hp) /\
  (∀ (x y : Bool) (d : Nat) (fr : Fr) (hp : HP) (K : Qa), Qap .eql true (.bool x) (.bool y) d fr hp K = K (upd fr d (.bool (x == y))) hp) /\
  (∀ (x y : Bool) (d : Nat) (fr : Fr) (hp : HP) (K : Qa), Qap .neq true (.bool x) (.bool y) d fr hp K = K (upd fr d (.bool (!(x == y)))) hp) /\
  (∀ (b : Bool) (d : Nat) (fr : Fr) (hp : HP) (K : Qa), unK .not (.bool b) d fr hp K = K (upd fr d (.bool (!b))) hp) /\
  (∀ (k : IntKind) (n : Int) (d : Nat) (fr : Fr) (hp : HP) (K : Qa), unK .neg (.int k n) d fr hp K = K (upd fr d (.int k (k.wrap (0 - n)))) hp) /\
  (∀ (k k' : IntKind) (n : Int) (d : Nat) (fr : Fr) (hp : HP) (K : Qa), Qfn k (.int k' n) d fr hp K = K (upd fr d (.int k (k.wrap n))) hp) /\
  (∀ (d : Nat) (fr : Fr) (hp : HP) (K : Qa), Qd4 .nilS d fr hp K = K (upd fr d (.int .i64 0)) hp) /\
  (∀ (e : Nat) (xs : List PV) (d : Nat) (fr : Fr) (hp : HP) (K : Qa), Qd4 (.sl e xs) d fr hp K = K (upd fr d (.int .i64 xs.length)) hp) /\
  (∀ (β o n : Nat) (d : Nat) (fr : Fr) (hp : HP) (K : Qa), Qd4 (.mso β o n) d fr hp K = K (upd fr d (.int .i64 n)) hp) /\
  (∀ (k k' : IntKind) (x y : Int) (d : Nat) (fr : Fr) (hp : HP) (K : Qa), mxK (.int k x) (.int k' y) d fr hp K = K (upd fr d (.int k (max x y))) hp) /\
  (∀ (k k' : IntKind) (x y : Int) (d : Nat) (fr : Fr) (hp : HP) (K : Qa), mnK (.int k x) (.int k' y) d fr hp K = K (upd fr d (.int k (min x y))) hp) /\
  (∀ (a b : PV) (d : Nat) (fr : Fr) (hp : HP) (K : Qa), Qd9 (.bool true) a b d fr hp K = K (upd fr d a) hp) /\
  (∀ (a b : PV) (d : Nat) (fr : Fr) (hp : HP) (K : Qa), Qd9 (.bool false) a b d fr hp K = K (upd fr d b) hp) /\
  (∀ (off β i o : Nat) (d : Nat) (fr : Fr) (hp : HP) (K : Qa), Qe7 off (.mp β i o) d fr hp K = K (upd fr d (.mp β i (o + off))) hp) /\
  (∀ (n : Nat) (ag : Bool) (β i o : Nat) (d : Nat) (fr : Fr) (hp : HP) (K : Qa), ldK n ag (.mp β i o) d fr hp K = ldM (hp β) n ag i o d fr hp K) /\
  (∀ (c : PV) (cs : List PV) (d : Nat) (fr : Fr) (hp : HP) (K : Qa), ldK 1 false (.pt (c :: cs)) d fr hp K = K (upd fr d c) hp) /\
  (∀ (n : Nat) (β i o : Nat) (v : PV) (fr : Fr) (hp : HP) (K : Qa), stK n (.mp β i o) v fr hp K = stM (Qr hp v.refs β) β n i o (Qj hp v) fr (Qr hp v.refs) K) /\
  (∀ (ps : List PV) (p : PV) (d : Nat) (fr : Fr) (hp : HP) (K : Qa), Qc2 (.tup (p :: ps)) 0 d fr hp K = (p.isData = true /\ K (upd fr d p) hp)) /\
  (∀ (ps : List PV) (p q : PV) (d : Nat) (fr : Fr) (hp : HP) (K : Qa), Qc2 (.tup (p :: q :: ps)) 1 d fr hp K = (q.isData = true /\ K (upd fr d q) hp)) /\
  (∀ (ps : List PV) (p q r : PV) (d : Nat) (fr : Fr) (hp : HP) (K : Qa), Qc2 (.tup (p :: q :: r :: ps)) 2 d fr hp K = (r.isData = true /\ K (upd fr d r) hp)) /\
  (∀ (s : Nat) (Rr : PV -> Prop) (fr : Fr) (hp : HP), Qb5 [.t s] Rr fr hp = Qm8 Rr (Qj hp (fr s))) /\
  (∀ (e : Nat) (xs : List PV), Qcc hp0 (.sl e xs) = some (e, xs)) /\
  (∀ (hp : HP), Qr hp [] = hp) /\
  (∀ (fr : Fr) (r : PV), Qft fr none r = fr) /\ (∀ (fr : Fr) (d : Nat) (r : PV), Qft fr (some d) r = upd fr d r) /\
  (∀ (β : Nat) (fr : Fr) (i : Nat), Qz β fr i = Qs β (fr i)) := by
 refine ⟨?_, ?_, ?_, ?_, ?_, ?_, ?_, ?_, ?_, ?_, ?_, ?_, ?_, ?_, ?_, ?_, ?_, ?_, ?_, ?_, ?_, ?_, ?_, ?_, ?_, ?_, ?_, ?_, ?_, ?_, ?_, ?_, ?_, ?_⟩ <;> intros
 all_goals first
  | rfl
  | (simp [Qap, Qd9, Qc2, ldK, ldV, PV.cells, stK, stM]; done)
  | (simp [Qap, Qd9, Qc2, ldK, ldV, PV.cells, stK, stM]; try rfl)
  | skip
end Go.FW
namespace Go.FW
open Go
variable {C : Ctx} {ρ : Nat -> Option Nat} {fr : Fr} {hp : HP} {w : World} {K R : Qa}
theorem Qvl (i β e ty : Nat) (he : 0 < e) (hi : fr i = .nilS) (hB : isB β = false := by decide) : Wk fr hp (upd (Qz β fr) i (.ms β 0)) (Qf hp β ⟨e, ty, [], false⟩) := by
 rintro C tmps w ⟨ρ, hs⟩;have hr := hs.rebind (w' := w) β none ⟨e, ty, [], false⟩ hB (Ext.refl _ _) (by simp) he (by simp) (by simp) (by simp);refine ⟨_, hr.sz, hr.ext, hr.keep, hr.own, hr.inj, fun j =>?_⟩;unfold upd;split
 ·rename_i hj;subst hj;have := hs.slots j;rw [hi] at this;have e := Qb.nil_inv this;exact ⟨_, by simp [Qf]; rfl, by simp, .inl ⟨Qaa _ _ _, e, rfl, rfl⟩⟩
 ·exact hr.slots j
end Go.FW
namespace Go.FW
open Go
variable {C : Ctx} {ρ : Nat -> Option Nat} {fr : Fr} {hp : HP} {w : World} {K R : Qa}
theorem Qtl (fr : Fr) (a : Nat) (v w : PV) : upd (upd fr a v) a w = upd fr a w := by funext i; unfold upd; split <;> rfl
theorem Qou {α : Type} {f : α -> PV} {e d : Nat} {xs : List α} {k : IntKind} {H : Int} (h4 : 0 <= H) (h5 : H <= xs.length) :
  slK e (.sl e (xs.map f)) none (some (.int k H)) none d fr hp K = K (upd fr d (.sl e ((xs.take H.toNat).map f))) hp := by
 rw [Qyb h4 (by simpa using h5)]; simp
theorem Qov {α : Type} {f : α -> PV} {e d : Nat} {xs : List α} {k : IntKind} {L : Int} (h4 : 0 <= L) (h5 : L <= xs.length) :
  slK e (.sl e (xs.map f)) (some (.int k L)) none none d fr hp K = K (upd fr d (.sl e ((xs.drop L.toNat).map f))) hp := by
 rw [Qyc h4 (by simpa using h5)]; simp
theorem Qlp {α : Type} {f : α -> PV} {e d : Nat} {xs : List α} {k k' : IntKind} {L H : Int} (h3 : 0 <= L) (h4 : L <= H) (h5 : H <= xs.length) :
  slK e (.sl e (xs.map f)) (some (.int k L)) (some (.int k' H)) none d fr hp K = K (upd fr d (.sl e (((xs.take H.toNat).drop L.toNat).map f))) hp := by
 rw [Qnb (L := L) (H := H) rfl rfl h3 h4 (by simpa using h5)]; simp
theorem Qtm (hp : HP) (e : Nat) (xs : List PV) : Qj hp (.sl e xs) = .sl e xs := rfl
theorem Qq1 (hp : HP) (k : IntKind) (n : Int) : Qj hp (.int k n) = .int k n := rfl
theorem Qow (hp : HP) (b : Bool) : Qj hp (.bool b) = .bool b := rfl
theorem Qq2 (hp : HP) (cs : List PV) : Qj hp (.agg cs) = .agg cs := rfl
theorem Qq3 (hp : HP) : Qj hp .nilS = .nilS := rfl
theorem Qtn (e : Nat) (xs : List PV) : (PV.sl e xs).refs = [] := rfl
theorem Qq4 (k : IntKind) (n : Int) : (PV.int k n).refs = [] := rfl
theorem Qox (b : Bool) : (PV.bool b).refs = [] := rfl
theorem Qq5 (cs : List PV) : (PV.agg cs).refs = [] := rfl
theorem Qq6 : PV.nilS.refs = [] := rfl
theorem Qq7 (β e : Nat) (xs : List PV) : Qs β (.sl e xs) = .sl e xs := rfl
theorem Qoy (β : Nat) (k : IntKind) (n : Int) : Qs β (.int k n) = .int k n := rfl
theorem Qnc (β : Nat) (b : Bool) : Qs β (.bool b) = .bool b := rfl
theorem Qoz (β : Nat) (cs : List PV) : Qs β (.agg cs) = .agg cs := rfl
theorem Qo0 (β : Nat) : Qs β .nilS = .nilS := rfl
theorem Qk0 (β γ o n : Nat) : Qs β (.mso γ o n) = if γ = β then .undef else .mso γ o n := by
 by_cases h : γ = β
 ·subst h; simp [Qs, PV.refs]
 ·simp [Qs, PV.refs, h]; intro h'; exact absurd h'.symm h
theorem Qq8 (β γ o n : Nat) : Qs β (.rb γ o n) = if γ = β then .undef else .rb γ o n := by
 by_cases h : γ = β
 ·subst h; simp [Qs, PV.refs]
 ·simp [Qs, PV.refs, h]; intro h'; exact absurd h'.symm h
theorem Qk1 (β γ i o : Nat) : Qs β (.mp γ i o) = if γ = β then .undef else .mp γ i o := by
 by_cases h : γ = β
 ·subst h; simp [Qs, PV.refs]
 ·simp [Qs, PV.refs, h]; intro h'; exact absurd h'.symm h
theorem Qyd :
  (∀ (fr : Fr) (a : Nat) (v : PV) (b : Nat), upd fr a v b = if b = a then v else fr b) /\
  (∀ (h : HP) (a : Nat) (v : HB) (b : Nat), Qf h a v b = if b = a then some v else h b) /\
  (∀ (β : Nat), hp0 β = none) /\
  (∀ (hp : HP) (e : Nat) (xs : List PV), Qj hp (.sl e xs) = .sl e xs) /\
  (∀ (hp : HP) (k : IntKind) (n : Int), Qj hp (.int k n) = .int k n) /\
  (∀ (hp : HP) (b : Bool), Qj hp (.bool b) = .bool b) /\
  (∀ (hp : HP) (cs : List PV), Qj hp (.agg cs) = .agg cs) /\
  (∀ (hp : HP), Qj hp .nilS = .nilS) /\
  (∀ (e : Nat) (xs : List PV), (PV.sl e xs).refs = []) /\
  (∀ (k : IntKind) (n : Int), (PV.int k n).refs = []) /\
  (∀ (b : Bool), (PV.bool b).refs = []) /\
  (∀ (cs : List PV), (PV.agg cs).refs = []) /\
  (PV.nilS.refs = []) /\
  (∀ (β o n : Nat), (PV.mso β o n).refs = [β]) /\
  (∀ (β i o : Nat), (PV.mp β i o).refs = [β]) /\
  (∀ (β e : Nat) (xs : List PV), Qs β (.sl e xs) = .sl e xs) /\
  (∀ (β : Nat) (k : IntKind) (n : Int), Qs β (.int k n) = .int k n) /\
  (∀ (β : Nat) (b : Bool), Qs β (.bool b) = .bool b) /\
  (∀ (β : Nat) (cs : List PV), Qs β (.agg cs) = .agg cs) /\
  (∀ (β : Nat), Qs β .nilS = .nilS) /\
  (∀ (β γ o n : Nat), Qs β (.mso γ o n) = if γ = β then .undef else .mso γ o n) /\
  (∀ (β γ i o : Nat), Qs β (.mp γ i o) = if γ = β then .undef else .mp γ i o) /\
  (∀ (β γ o n : Nat), Qs β (.rb γ o n) = if γ = β then .undef else .rb γ o n) /\
  (∀ (β o n : Nat), (PV.rb β o n).refs = [β]) /\
  (∀ (o : SOp) (fr : Fr) (hp : HP) (K : Qa), Qb2 o fr hp K = match o.dst with | some d => K (upd fr d (.tup [])) hp | none => K fr hp) /\
  (∀ (f : Opd -> PV), Option.map f none = none) /\ (∀ (f : Opd -> PV) (x : Opd), Option.map f (some x) = some (f x)) /\
  (∀ (k : IntKind) (n : Int), (PV.int k n).cells = [.int k n]) /\
  (∀ (b : Bool), (PV.bool b).cells = [.bool b]) /\
  (∀ (e : Nat) (xs : List PV), (PV.sl e xs).cells = [.sl e xs]) /\
  (∀ (cs : List PV), (PV.agg cs).cells = cs) := by
 refine ⟨fun _ _ _ _ => rfl, fun _ _ _ _ => rfl, fun _ => rfl, Qtm, Qq1, Qow, Qq2, Qq3, Qtn, Qq4, Qox, Qq5, Qq6, fun _ _ _ => rfl, fun _ _ _ => rfl, Qq7, Qoy, Qnc, Qoz, Qo0, Qk0, Qk1, Qq8, fun _ _ _ => rfl, fun _ _ _ _ => rfl, fun _ => rfl, fun _ _ => rfl, fun _ _ => rfl, fun _ => rfl, fun _ _ => rfl, fun _ => rfl⟩
theorem Qye {p : Nat -> Prop} (h : ∃ m, p m) : ∃ m, p m /\ ∀ k, p k -> m <= k := by
 obtain ⟨m, hm⟩ := h;induction m using Nat.strongRecOn with
 | ind m ih =>
  by_cases hk : ∃ k, k < m /\ p k
  ·obtain ⟨k, h1, h2⟩ := hk; exact ih k h1 h2
  ·exact ⟨m, hm, fun k hk' => Nat.le_of_not_lt fun hlt => hk ⟨k, hlt, hk'⟩⟩
def Qh4 (I : Nat -> Qa) (n : Nat) : Qa := fun fr' hp' => ∃ fr0 hp0, Wk fr' hp' fr0 hp0 /\ ∃ m, m < n /\ I m fr0 hp0
theorem Qq9 {I : Nat -> Qa} {n m : Nat} {fr' : Fr} {hp' : HP} (hl : m < n) (hw : Wk fr hp fr' hp') (h : I m fr' hp') : Qh4 I n fr hp := ⟨fr', hp', hw, m, hl, h⟩
theorem Qo1 {sk : List It} {x : SC} (I : Nat -> Qa) (m0 : Nat) {fr0 : Fr} {hp0 : HP} (hw : Wk fr hp fr0 hp0) (h0 : I m0 fr0 hp0) (h : ∀ m fr hp, I m fr hp -> vc C R (.c x :: .el (Qh4 I m) :: sk) fr hp) : vc C R (.c (.loop x) :: sk) fr hp := by
 refine Qqw (fun fr hp => ∃ m, I m fr hp) (fun fr hp => Classical.epsilon fun m => I m fr hp /\ ∀ k, I k fr hp -> m <= k) hw ⟨m0, h0⟩ ?_;intro fr hp hI;have key : ∀ fr hp, (∃ m, I m fr hp) -> I (Classical.epsilon fun m => I m fr hp /\ ∀ k, I k fr hp -> m <= k) fr hp /\ ∀ k, I k fr hp -> (Classical.epsilon fun m => I m fr hp /\ ∀ k, I k fr hp -> m <= k) <= k := fun fr hp hI => Classical.epsilon_spec (Qye hI);have e : Qgq (fun fr hp => ∃ m, I m fr hp) (fun fr hp => Classical.epsilon fun m => I m fr hp /\ ∀ k, I k fr hp -> m <= k) (Classical.epsilon fun m => I m fr hp /\ ∀ k, I k fr hp -> m <= k) = Qh4 I (Classical.epsilon fun m => I m fr hp /\ ∀ k, I k fr hp -> m <= k) := by
  funext fr' hp';apply propext;constructor
  ·rintro ⟨fr0, hp0, h1, h2, h3⟩; exact ⟨fr0, hp0, h1, _, h3, (key fr0 hp0 h2).1⟩
  ·rintro ⟨fr0, hp0, h1, m, h2, h3⟩; exact ⟨fr0, hp0, h1, ⟨m, h3⟩, Nat.lt_of_le_of_lt ((key fr0 hp0 ⟨m, h3⟩).2 m h3) h2⟩
 rw [e];exact h _ fr hp (key fr hp hI).1
theorem Qe {P : Program} (hP : C.P = P) {g : FuncId} {first cap args pargs : List PV} {pr : Bool} {d : Option Nat} {r : PV} (h : Qm P g pargs (· = r)) (hargs : (first ++ args ++ cap).map (Qj hp) = pargs) (hdat : pargs.all PV.isData = true) (hr : (first ++ args ++ cap).flatMap PV.refs = [])
  (hK : K (Qft fr d r) hp) : Qcz C pr (.fn g first cap) args d fr hp K := by
 refine Qiy hP h hargs hdat ?_;rw [hr]; exact hK
theorem Qnd {P : Program} (hP : C.P = P) {g : FuncId} {first cap args pargs : List PV} {pr : Bool} {d : Option Nat} {Rr : PV -> Prop} (h : Qm P g pargs Rr) (hargs : (first ++ args ++ cap).map (Qj hp) = pargs) (hdat : pargs.all PV.isData = true) (hr : (first ++ args ++ cap).flatMap PV.refs = [])
  (hK : ∀ r, Rr r -> K (Qft fr d r) hp) : Qcz C pr (.fn g first cap) args d fr hp K := by
 refine Qjd hP h hargs hdat fun r h =>?_;rw [hr]; exact hK r h
theorem Qo2 {by_ ty d : Nat} {kz k k' : IntKind} {nz : Int} {L Cc : Int} (h1 : 0 <= L) (h2 : L <= Cc) (h3 : by_ * Cc <= 281474976710656) (h4 : Cc <= 9223372036854775807) :
  mkK 1 by_ ty (.int kz nz) (.int k L) (.int k' Cc) d fr hp K = K (upd (Qz d fr) d (.ms d L.toNat)) (Qf hp d ⟨1, ty, List.replicate L.toNat (.int kz nz), false⟩) := by
 exact Qjx (e := 1) (by omega) rfl h1 h2 h3 h4
theorem Qo3 {ty β i : Nat} {xs : List PV} {k : IntKind} {n : Int} (h : i < xs.length) : stM (some ⟨1, ty, xs, false⟩) β 1 i 0 (.int k n) fr hp K = K fr (Qf hp β ⟨1, ty, xs.set i (.int k n), false⟩) :=
 Qot h rfl rfl
theorem Qo4 (h : HP) (a : Nat) (v w : HB) : Qf (Qf h a v) a w = Qf h a w := by funext i; unfold Qf; split <;> rfl
theorem Qvm {ty d : Nat} {k : IntKind} {n : Int} : bsK 1 ty [.int k n] d fr hp K = K (upd (Qz d fr) d (.ms d 1)) (Qf hp d ⟨1, ty, [.int k n], false⟩) := by simp [bsK, Qd5, Qbn, bsO, Qij, Qj, Qw, PV.refs, PV.isData, PV.cells];rfl
theorem Qra {e by_ ty ty' d β γ n : Nat} {xs : List PV} {y : PV} {fz : Bool} (hb : hp β = some ⟨e, ty, xs, false⟩) (hy : hp γ = some ⟨e, ty', [y], fz⟩) (h0 : 0 < e) (hn : n = xs.length) (h1 : (n + 1) * by_ <= 140737488355328) (h2 : n + 1 <= 9223372036854775807) (hB : isB β = false := by decide) :
  Qct e by_ ty (.ms β n) (.ms γ 1) d fr hp K = K (upd (Qz β fr) d (.ms β (n + 1))) (Qf hp β ⟨e, ty, xs ++ [y], false⟩) := by
 subst hn;rw [Qna (ys := [y]) (xs := xs) (by simp [Qcc, hy]) hb h0 (Nat.le_refl _) (by simpa using h1) (by simpa using h2) hB];simp
theorem Qk2 (n : Nat) : IntKind.u16.wrap (n : Int) = ((n % 65536 : Nat) : Int) := by simp only [IntKind.wrap, IntKind.bits, IntKind.signed]; simp
theorem Qo5 {bt : Bool} {k k' : IntKind} {x y : Int} {d : Nat} (h : 0 <= y) : Qap .shr bt (.int k x) (.int k' y) d fr hp K = K (upd fr d (.int k (x.fdiv (2 ^ (min y.toNat k.bits))))) hp := by simp [Qap, h]
theorem Qo6 {bt : Bool} {k' : IntKind} {n d : Nat} : Qap .shr bt (.int .u64 (n : Int)) (.int k' 16) d fr hp K = K (upd fr d (.int .u64 ((n / 65536 : Nat) : Int))) hp := by
 rw [Qo5 (by omega)];have : min (16 : Int).toNat IntKind.u64.bits = 16 := by decide
 rw [this, Int.fdiv_eq_ediv_of_nonneg _ (by omega)];simp
theorem Qo7 {bt : Bool} {k' : IntKind} {n d : Nat} : Qap .shr bt (.int .u32 (n : Int)) (.int k' 16) d fr hp K = K (upd fr d (.int .u32 ((n / 65536 : Nat) : Int))) hp := by
 rw [Qo5 (by omega)];have : min (16 : Int).toNat IntKind.u32.bits = 16 := by decide
 rw [this, Int.fdiv_eq_ediv_of_nonneg _ (by omega)];simp
end Go.FW
namespace Go.FW
def val : List Nat -> Nat
 | [] => 0
 | x :: xs => x + 65536 * val xs
def dig (n : Nat) : List Nat := if h : n = 0 then [] else n % 65536 :: dig (n / 65536)
termination_by n
decreasing_by omega
def nl (n : Nat) : Nat := (dig n).length
open Go
variable {C : Ctx} {ρ : Nat -> Option Nat} {fr : Fr} {hp : HP} {w : World} {K R : Qa}
abbrev Qfv (l : List Nat) : List PV := l.map fun (x : Nat) =>.int .u16 x
abbrev Qce (l : List Int) : List PV := l.map fun (x : Int) =>.int .i64 x
theorem Qvn (a b : Nat) : (a : Int) + (b : Int) = ((a + b : Nat) : Int) := rfl
theorem Qto (a : Nat) : (a : Int) + 1 = ((a + 1 : Nat) : Int) := rfl
theorem Qtp (a : Nat) : (a : Int) + 2 = ((a + 2 : Nat) : Int) := rfl
theorem Qtq (a : Nat) : (a : Int) + 3 = ((a + 3 : Nat) : Int) := rfl
theorem Qvo (a b : Nat) : (a : Int) * (b : Int) = ((a * b : Nat) : Int) := rfl
theorem Qtr {α : Type} {f : α -> PV} {e d : Nat} {k : IntKind} {i : Nat} {xs : List α} (h : i < xs.length) :
  Qbl e (.sl e (xs.map f)) (.int k (i : Int)) d fr hp K = K (upd fr d (.pt (f (xs[i]'h)).cells)) hp := by
 rw [Qgr (by omega) (by omega)]; rfl
theorem Qts {e d β o n i : Nat} {k : IntKind} (h : i < n) (he : (hp β).map (·.e) = some e) : Qbl e (.mso β o n) (.int k (i : Int)) d fr hp K = K (upd fr d (.mp β (o + i) 0)) hp := by rw [Qvj (by omega) (by omega) he]; rfl
theorem Qvp {α : Type} {f : α -> PV} {e d : Nat} {xs : List α} {k : IntKind} {n : Nat} (h5 : n <= xs.length) :
  slK e (.sl e (xs.map f)) none (some (.int k (n : Int))) none d fr hp K = K (upd fr d (.sl e ((xs.take n).map f))) hp := by
 rw [Qou (by omega) (by omega)]; rfl
theorem Qvq {α : Type} {f : α -> PV} {e d : Nat} {xs : List α} {k : IntKind} {n : Nat} (h5 : n <= xs.length) :
  slK e (.sl e (xs.map f)) (some (.int k (n : Int))) none none d fr hp K = K (upd fr d (.sl e ((xs.drop n).map f))) hp := by
 rw [Qov (by omega) (by omega)]; rfl
theorem Qrb {α : Type} {f : α -> PV} {e d : Nat} {xs : List α} {k k' : IntKind} {m n : Nat} (h4 : m <= n) (h5 : n <= xs.length) :
  slK e (.sl e (xs.map f)) (some (.int k (m : Int))) (some (.int k' (n : Int))) none d fr hp K = K (upd fr d (.sl e (((xs.take n).drop m).map f))) hp := by
 rw [Qlp (by omega) (by omega) (by omega)]; rfl
theorem Qvr {by_ ty d : Nat} {k k' : IntKind} {n c : Nat} (h2 : n <= c) (h3 : by_ * c <= 281474976710656) (h4 : c <= 9223372036854775807) :
  mkK 1 by_ ty (.int .u16 0) (.int k (n : Int)) (.int k' (c : Int)) d fr hp K = K (upd (Qz d fr) d (.ms d n)) (Qf hp d ⟨1, ty, Qfv (List.replicate n 0), false⟩) := by
 rw [Qo2 (by omega) (by omega) (by omega) (by omega)];simp [Qfv]
theorem Qvs {ty i d : Nat} {fz : Bool} {l : List Nat} (h : i < l.length) : ldM (some ⟨1, ty, Qfv l, fz⟩) 1 false i 0 d fr hp K = K (upd fr d (.int .u16 (l[i]'h : Nat))) hp := by rw [Qfi (by simpa using h) (by omega) (by simp)]; simp [ldV, PV.cells]
theorem Qvt {ty i d : Nat} {fz : Bool} {l : List Int} (h : i < l.length) : ldM (some ⟨1, ty, Qce l, fz⟩) 1 false i 0 d fr hp K = K (upd fr d (.int .i64 (l[i]'h))) hp := by rw [Qfi (by simpa using h) (by omega) (by simp)]; simp [ldV, PV.cells]
theorem Qvu {ty β i v : Nat} {l : List Nat} (h : i < l.length) : stM (some ⟨1, ty, Qfv l, false⟩) β 1 i 0 (.int .u16 (v : Int)) fr hp K = K fr (Qf hp β ⟨1, ty, Qfv (l.set i v), false⟩) := by rw [Qo3 (by simpa using h)]; simp [Qfv, List.map_set]
theorem Qvv {ty β i : Nat} {v : Int} {l : List Int} (h : i < l.length) : stM (some ⟨1, ty, Qce l, false⟩) β 1 i 0 (.int .i64 v) fr hp K = K fr (Qf hp β ⟨1, ty, Qce (l.set i v), false⟩) := by rw [Qo3 (by simpa using h)]; simp [Qce, List.map_set]
end Go.FW
namespace Go.FW
open Go
variable {C : Ctx} {ρ : Nat -> Option Nat} {fr : Fr} {hp : HP} {w : World} {K K' R : Qa}
theorem Qrc (h : ∀ fr hp, K fr hp -> K' fr hp) (o : SOp) : opV C o fr hp K -> opV C o fr hp K' := by
 cases o with
 | call d pr f args =>
  simp only [opV, Qcz];split
  ·rintro ⟨h1, h2⟩;refine ⟨h1, fun ρ tmps w fv cv av a1 a2 a3 a4 a5 a6 a7 a8 => (h2 ρ tmps w fv cv av a1 a2 a3 a4 a5 a6 a7 a8).mono ?_⟩;rintro e w' ⟨v, fr', hp', e1, e2, e3, e4⟩;exact ⟨v, fr', hp', e1, e2, e3, h _ _ e4⟩
  ·exact id
 | bs d e ty ps =>
  simp only [opV, bsK];split
  ·exact fun H => ⟨H.1, h _ _ H.2⟩
  ·exact fun H => ⟨H.1, H.2.1, h _ _ H.2.2⟩
 | app d e by_ ty s x =>
  simp only [opV, Qct];intro H; revert H;split
  ·unfold Qik;split
   ·split
    ·rintro ⟨a1, a2, a3, H⟩;refine ⟨a1, a2, a3, ?_⟩;revert H;split
     ·exact fun H => ⟨H.1, h _ _ H.2⟩
     ·split
      ·exact fun H => ⟨H.1, H.2.1, h _ _ H.2.2⟩
      ·exact id
     ·exact id
    ·exact id
   ·exact id
  ·rintro ⟨h0, h1, H⟩;refine ⟨h0, h1, ?_⟩;revert H;split
   ·rintro ⟨a, b, c⟩; exact ⟨a, b, h _ _ c⟩
   ·split
    ·rintro (⟨a1, a2, a3, a4, a5, a6, a7, c⟩ | ⟨a1, a2, a3, c⟩)
     ·exact .inl ⟨a1, a2, a3, a4, a5, a6, a7, h _ _ c⟩
     ·exact .inr ⟨a1, a2, a3, h _ _ c⟩
    ·exact id
   ·exact id
 | bin d op bt x y =>
  simp only [opV, Qap];intro H; revert H;split
  ·split <;> first | exact fun H => ⟨H.1, H.2.1, h _ _ H.2.2⟩ | exact fun H => ⟨H.1, h _ _ H.2⟩ | exact id
  ·split <;> first | exact fun H => ⟨H.1, h _ _ H.2⟩ | exact id
  ·exact id
 | _ =>
  simp only [opV, Qe4, Qe5, Qg5, Qf9, Qd9, unK, Qfn, Qd4, mxK, mnK, Qbl, Qdr, Qe6, Qe7, Qds, ldK, stK, Qba, Qga, mkK, bsK, Qct, Qil, slK, Qc2, Qck, Qhn, Qho]
  try (intro H; revert H)
  try (repeat' split)
  all_goals first
   | exact id
   | exact h _ _
   | grind
theorem Qvw {sk : List It} {g : Option (Nat × Bool)} {o : SOp} {r : RT} : vc C R (.o (.o g o r) :: sk) fr hp = Qfo C g o fr hp (fun fr hp => vc C R (.o r :: sk) fr hp) := by rw [vc]
theorem Qvx {sk : List It} {x y : RT} : vc C R (.o (.br x y) :: sk) fr hp = (vc C R (.o x :: sk) fr hp /\ vc C R (.o y :: sk) fr hp) := by rw [vc]
end Go.FW
namespace Go.FW
open Go
variable {C : Ctx} {ρ : Nat -> Option Nat} {fr : Fr} {hp : HP} {w : World} {K K' R : Qa}
def Qs4 (R : PV -> Prop) (p q : PV) : Prop := (p.isData = true /\ q.isData = true) /\ ∃ r, PV.leR (.tup [p, q]) r /\ R r
def Qs5 (R : PV -> Prop) (p q s : PV) : Prop := (p.isData = true /\ q.isData = true /\ s.isData = true) /\ ∃ r, PV.leR (.tup [p, q, s]) r /\ R r
def Qs6 (R : PV -> Prop) : Prop := ∃ r, PV.leR (.tup []) r /\ R r
theorem Qvy {a b : Nat} {Rr : PV -> Prop} : Qb5 [.t a, .t b] Rr fr hp = Qs4 Rr (Qj hp (fr a)) (Qj hp (fr b)) := by simp [Qb5, Qs4, okR, rvP]
theorem Qvz {a b c : Nat} {Rr : PV -> Prop} : Qb5 [.t a, .t b, .t c] Rr fr hp = Qs5 Rr (Qj hp (fr a)) (Qj hp (fr b)) (Qj hp (fr c)) := by simp [Qb5, Qs5, okR, rvP]
theorem Qv0 {Rr : PV -> Prop} : Qb5 [] Rr fr hp = Qs6 Rr := by simp [Qb5, Qs6]
abbrev PV.nat (l : List Nat) : PV :=.sl 1 (Qfv l)
abbrev PV.num (n : Nat) : PV := PV.nat (dig n)
end Go.FW
namespace Go.FW
open Go
variable {C : Ctx} {ρ : Nat -> Option Nat} {fr : Fr} {hp : HP} {w : World} {K K' R : Qa}
def B0 : Nat := 1000000
def Qeq (xs : List PV) : Prop := ∀ x ∈ xs, ∃ k n, x = .int k n
theorem ints_u16 (l : List Nat) : Qeq (Qfv l) := by intro x hx; simp only [Qfv, List.mem_map] at hx; obtain ⟨n, _, rfl⟩ := hx; exact ⟨_, _, rfl⟩
theorem Qc4 (l : List Int) : Qeq (Qce l) := by intro x hx; simp only [Qce, List.mem_map] at hx; obtain ⟨n, _, rfl⟩ := hx; exact ⟨_, _, rfl⟩
def Qer (w : World) (b : Nat) (ty : TypeId) (xs : List PV) : Prop := Qeq xs /\ ∃ (cur : Array Value) (cap : Nat), w.heap[b]? = some (.cells cur ty (0, 0)) /\ cur.size = cap * 1 /\ xs.length <= cap /\ cap <= maxLen /\
 ∀ (i : Nat) (k : IntKind) (n : Int), xs[i]? = some (.int k n) -> cur.getD i undef = .int k n
theorem Qer.toB {b : Nat} {ty : TypeId} {xs : List PV} {fz : Bool} {X : Nat -> Prop} (h : Qer w b ty xs) : Qim w X b ⟨1, ty, xs, fz⟩ := by
 obtain ⟨hi, cur, cap, h1, h2, h3, h4, h5⟩ := h;refine ⟨cur, cap, h1, h2, h3, h4, fun i x hx j y hy =>?_⟩;obtain ⟨k, n, rfl⟩ := hi x (List.mem_of_getElem? hx);cases j with
 | zero =>simp [PV.cells] at hy; subst hy;rw [Nat.mul_one, Nat.add_zero, h5 i k n hx];exact Qd.int k n
 | succ j => simp [PV.cells] at hy
theorem Qer.ofB {b : Nat} {ty : TypeId} {xs : List PV} {fz : Bool} {X : Nat -> Prop} (h : Qim w X b ⟨1, ty, xs, fz⟩) (hi : Qeq xs) : Qer w b ty xs := by obtain ⟨cur, cap, h1, h2, h3, h4, h5⟩ := h;refine ⟨hi, cur, cap, h1, h2, h3, h4, fun i k n hx =>?_⟩;have := h5 i _ hx 0 (.int k n) rfl;simp only [Nat.mul_one, Nat.add_zero] at this;generalize hg : cur.getD i undef = v at this;cases this; rfl
theorem Qhc {xs : List PV} (h : Qeq xs) : ∀ (i : Nat) (x : PV), xs[i]? = some x -> x.cells.length = 1 /\ x.isData = true := by intro i x hx;obtain ⟨k, n, rfl⟩ := h x (List.mem_of_getElem? hx);exact ⟨rfl, rfl⟩
def Win (w : World) (b len : Nat) (o n : Nat) (v : Value) : Prop := o + n <= len /\ ∃ cap, v = .slice (some ⟨b, o * 1, none⟩) n cap /\ Q6 w b 1 (o + cap) /\ o + cap <= maxLen
def Qzm (w : World) (X : Nat -> Prop) (b len : Nat) (p : PV) (v : Value) : Prop := match p with
 |.mso β o n => β = B0 /\ Win w b len o n v
 | p => Qn w X p v
def Qv1 (w : World) (X : Nat -> Prop) (b len : Nat) (p : PV) (v : Value) : Prop := match p with
 |.mso β o n => β = B0 /\ Win w b len o n v
 | p => Qa6 w X p v
def Qfj (P : Program) (f : FuncId) (args : List PV) (ty : TypeId) (xs : List PV) (Post : PV -> List PV -> Prop) : Prop :=
 Qdi P f /\ ∀ (w : World) (X : Nat -> Prop) (b : Nat) (vals : Array Value), (∀ c, X c -> c < w.heap.size) -> X b -> vals.size = args.length -> Qer w b ty xs -> 0 < xs.length ->
  (∀ (i : Nat) (x : PV), args[i]? = some x -> Qzm w X b xs.length x (vals.getD i undef)) ->
  Calls P f vals w fun e w' => ∃ v r xs', e = .returned v /\ Ext (fun c => c = b) w w' /\ (∀ e cap, Q6 w b e cap -> Q6 w' b e cap) /\ Qer w' b ty xs' /\ xs'.length = xs.length /\ Qv1 w' X b xs.length r v /\ Post r xs'
def Qfw (rs : List RV) (ty : TypeId) (len : Nat) (Post : PV -> List PV -> Prop) : Qa := fun fr hp =>
 ∃ xs', hp B0 = some ⟨1, ty, xs', false⟩ /\ Qeq xs' /\ xs'.length = len /\
  (Qb5 rs (fun r => (∀ β o n, r ≠ .mso β o n) /\ Post r xs') fr hp ∨ ∃ s o n, rs = [.t s] /\ fr s = .mso B0 o n /\ Post (.mso B0 o n) xs')
theorem Qgi {P : Program} {f : FuncId} {fn : Func} {sf : SFn} {args : List PV} {ty : TypeId} {xs : List PV} {Post : PV -> List PV -> Prop} (hm : P.follows .mixedOrders = true) (hf : P.funcs[f]? = some fn) (hname : (fn.name != "runtime.NumGoroutine") = true) (hc : Qp P fn = some sf) (hn : args.length <= sf.n /\ sf.n <= 1000000)
  (hv : ∀ C : Ctx, C.P = P -> vc C (Qfw sf.rs ty xs.length Post) [.c sf.body] (Qfs args) (Qf hp0 B0 ⟨1, ty, xs, false⟩)) : Qfj P f args ty xs Post := by
 simp only [Qp, Option.bind_eq_some_iff, Option.map_eq_some_iff] at hc;obtain ⟨c, hb, sb, hcb, rs, hrs, rfl⟩ := hc;refine ⟨by simp [Qdi, hf, hb]; simpa using hname, fun w X b vals hX hXb hsz hI hpos hrep =>?_⟩;have hfx : ∀ β c, (fun β => if β = B0 then some b else none : Nat -> Option Nat) β = some c -> c < w.heap.size /\ (isR β = false -> ¬ (X c /\ c ≠ b)) := fun β c h => by
  simp only at h;split at h
  ·cases h; exact ⟨hX b hXb, fun _ h => h.2 rfl⟩
  ·cases h
 let C : Ctx := ⟨P, fn.ntmps, w, fun c => X c /\ c ≠ b, fun c hc => hX c hc.1, hn.2, fun β => if β = B0 then some b else none, hfx, Qi, fun _ h => h.elim⟩
 refine calls_of_wp hf hb ?_;have hsz' : (vals ++ Array.replicate (fn.ntmps - vals.size) undef).size = fn.ntmps := by simp at hn ⊢; omega
 have hXof : ∀ c, Xof C (fun β => if β = B0 then some b else none) (Qf hp0 B0 ⟨1, ty, xs, false⟩) c -> X c := by
  rintro c (hx | ⟨β, _, h1, _, h3⟩)
  ·exact hx.1
  ·simp only at h3; split at h3
   ·cases h3; exact hXb
   ·cases h3
 have hsim : Sim C (Qfs args) (Qf hp0 B0 ⟨1, ty, xs, false⟩) (vals ++ Array.replicate (fn.ntmps - vals.size) undef) w := by
  refine ⟨fun β => if β = B0 then some b else none, hsz', Ext.refl _ _, fun _ _ _ _ _ h => h, fun β hb' hβ =>?_, fun β γ b' h1 h2 h3 h4 =>?_, fun i =>?_⟩
  ·unfold Qf at hβ;split at hβ
   ·rename_i hβ0; cases hβ; subst hβ0;refine ⟨by simp, Qhc hI.1, ?_, (fun _ => rfl), fun h => by cases h⟩;simp only [if_pos];exact ⟨rfl, hX b hXb, hI.toB⟩
   ·simp [hp0] at hβ
  ·have : ∀ β, (if β = B0 then some b else none : Option Nat) = some b' -> β = B0 := fun β h => by
    split at h
    ·assumption
    ·cases h
   rw [this β h3, this γ h4]
  ·unfold Qfs;cases hi : args[i]? with
   | none => trivial
   | some p =>
    simp only [Option.getD_some];have hil : i < vals.size := by rw [hsz]; exact (List.getElem?_eq_some_iff.1 hi).1
    have hr := hrep i p hi;have e : (vals ++ Array.replicate (fn.ntmps - vals.size) undef).getD i undef = vals.getD i undef := by rw [Qat, if_pos hil]
    rw [e];have key : Qn w X p (vals.getD i undef) -> Qb C (fun β => if β = B0 then some b else none) (Qf hp0 B0 ⟨1, ty, xs, false⟩) w p (vals.getD i undef) := fun hr =>
     Qb.ofData (hr.mono (fun _ _ _ => rfl) (fun c _ hn hx => hn (hXof c hx)) (Nat.le_refl _))
    cases p with
    | mso β o n =>obtain ⟨rfl, h1, cap, h2, h3, h4⟩ := hr;exact ⟨⟨1, ty, xs, false⟩, by simp [Qf], h1, .inr ⟨b, cap, by simp, h2, h3, h4⟩⟩
    | _ => exact key hr
 have fin : ∀ (fr : Fr) (hp : HP) (a : Act) (w' : World), a.defers = [] -> Sim C fr hp a.tmps w' -> Qfw rs ty xs.length Post fr hp ->
   a.defers = [] /\ ∃ v, (results fn a.tmps).run P w' = .ok v w' /\ ∃ v' r xs', Ending.returned v = .returned v' /\ Ext (fun c => c = b) w w' /\ (∀ e cap, Q6 w b e cap -> Q6 w' b e cap) /\ Qer w' b ty xs' /\ xs'.length = xs.length /\ Qv1 w' X b xs.length r v' /\ Post r xs' := by
  rintro fr hp a w' hd ⟨ρ, hs⟩ ⟨xs', hB, hint, hlen, hr⟩;have hown := hs.own B0 _ hB;have hblk := hown.blk;have hρ : ρ B0 = some b := by
   cases hq : ρ B0 with
   | none => rw [hq] at hblk; simp only at hblk; rw [hblk] at hlen; simp at hlen; omega
   | some b' =>rw [<- hq];exact hown.fix rfl
  rw [hρ] at hblk;have hI' : Qer w' b ty xs' := Qer.ofB hblk.2.2 hint;have hxe : Ext (fun c => c = b) w w' := hs.ext.mono fun c _ hc => by
   rcases hc with ⟨β, _, hc⟩ | hc
   ·have hc : (if β = B0 then some b else none : Option Nat) = some c := hc;split at hc
    ·cases hc; rfl
    ·cases hc
   ·exact hc.elim
  have hkp : ∀ e cap, Q6 w b e cap -> Q6 w' b e cap := hs.keep B0 b rfl;rcases hr with hr | ⟨s, o, n, rfl, hfs, hp⟩
  ·obtain ⟨v, r, h1, h2, h3, h4⟩ := Qm7 (C := C) rfl hrs hs hr (X := X) (fun c hc => by
    by_cases e : c = b
    ·subst e; exact .inr ⟨B0, _, rfl, hB, rfl, hρ⟩
    ·exact .inl ⟨hc, e⟩)
   refine ⟨hd, v, h1, v, r, xs', rfl, hxe, hkp, hI', hlen, ?_, h4⟩;cases r with
   | mso β o n => exact absurd rfl (h3 β o n)
   | _ => exact h2
  ·have hsl := hs.slots s;rw [hfs] at hsl;obtain ⟨hb2, g1, g2, g3⟩ := hsl;rw [hB] at g1; cases g1;rcases g3 with ⟨g3, _⟩ | ⟨b', cap, g3, g4, g5, g6⟩
   ·rw [hρ] at g3; cases g3
   ·rw [hρ] at g3; cases g3;obtain ⟨x, hx⟩ : ∃ x, fn.results.toList = [x] := by have := Qbh hrs;exact List.length_eq_one_iff.1 (by rw [<- this.1]; rfl)
    have hx2 : Qa1 P x = some (.t s) := by rw [hx] at hrs;simp only [List.mapM_cons, List.mapM_nil, Option.bind_eq_bind, Option.pure_def, Option.bind_eq_some_iff, Option.some.injEq] at hrs;obtain ⟨y, h1, _, _, h2⟩ := hrs;simp only [List.cons.injEq] at h2;rw [<- h2.1]; exact h1
    have hx3 : x = .tmp s := by
     cases x with
     | tmp t => simpa [Qa1] using hx2
     | cell y t => simp [Qa1, Option.bind_eq_some_iff] at hx2
    subst hx3;have hres : (results fn a.tmps).run P w' = .ok (a.tmps.getD s undef) w' := by have e : results fn a.tmps = (do let vs <- fn.results.mapM (Qhb a.tmps); pure (if h : vs.size = 1 then vs[0] else .tuple vs)) := rfl;rw [e, Array.mapM_eq_mapM_toList, hx];simp [Sem.run_bind, Qhb]
    refine ⟨hd, _, hres, _, .mso B0 o n, xs', rfl, hxe, hkp, hI', hlen, ⟨rfl, hlen ▸ g2, cap, g4, g5, g6⟩, hp⟩
 exact Qh1 (C := C) (R := Qfw rs ty xs.length Post) hm c sb [] _ (Qfs args) _ _ w hcb ⟨fun fr hp a w' hd hs hv => (by rw [Qgh] at hv; exact fin fr hp a w' hd hs hv), fun id sk' he => (by simp [FW.Qt] at he), fin⟩ rfl hsim (hv C rfl)
def PV.isDataM : PV -> Bool
 |.mso .. => true
 | p => p.isData
def toB (β : Nat) : PV -> PV
 |.mso γ o n => if γ = β then .mso B0 o n else .undef
 |.mp _ _ _ =>.undef
 |.rb _ _ _ =>.undef
 |.fn _ _ _ =>.undef
 |.nso _ _ _ | .np _ _ _ | .rag _ | .rtp _ | .rtq _ _ | .nst _ _ _ _ =>.undef
 | p => p
def Qed (β : Nat) : PV -> PV
 |.mso _ o n =>.mso β o n
 | p => p
theorem Qk3 {P : Program} (hP : C.P = P) {g : FuncId} {args pargs : List PV} {d : Option Nat} {β : Nat} {ty : TypeId} {xs : List PV} {Post : PV -> List PV -> Prop} (h : Qfj P g pargs ty xs Post) (hβ : hp β = some ⟨1, ty, xs, false⟩) (hint : Qeq xs) (hpos : 0 < xs.length)
  (hargs : args.map (toB β) = pargs) (hdat : pargs.all PV.isDataM = true)
  (hK : ∀ r xs', Qeq xs' -> xs'.length = xs.length -> Post r xs' -> K (Qft fr d (Qed β r)) (Qf hp β ⟨1, ty, xs', false⟩)) : Qcz C false (.fn g [] []) args d fr hp K := by
 subst hP;refine ⟨h.1, fun ρ tmps w fv cv av hdN hs h1 h2 h3 _ _ hr3 =>?_⟩;have hown := hs.own β _ hβ;have hblk := hown.blk;obtain ⟨b, hρ⟩ : ∃ b, ρ β = some b := by
  cases hq : ρ β with
  | none => rw [hq] at hblk; simp only at hblk; rw [hblk] at hpos; simp at hpos
  | some b => exact ⟨b, rfl⟩
 rw [hρ] at hblk;have hXb : Xof C ρ hp b :=.inr ⟨β, _, hβ, rfl, hρ⟩;have e1 : fv = #[] := Array.eq_empty_of_size_eq_zero (by simpa using h1);have e2 : cv = #[] := Array.eq_empty_of_size_eq_zero (by simpa using h2);subst e1; subst e2;simp only [Array.empty_append, Array.append_empty];refine (h.2 w (Xof C ρ hp) b av (Qkw hs) hXb (by rw [<- hargs]; simp [h3]) (Qer.ofB hblk.2.2 hint) hpos (fun i x hx =>?_)).mono ?_
 ·rw [<- hargs] at hx;simp only [List.getElem?_map, Option.map_eq_some_iff] at hx;obtain ⟨p, hp', hpx⟩ := hx;have hr := hr3 i p hp';have hxd : PV.isDataM x = true := by rw [List.all_eq_true] at hdat;refine hdat x ?_;rw [<- hargs, <- hpx];exact List.mem_map_of_mem (List.mem_of_getElem? hp')
  subst hpx;cases p with
  | mso γ o n =>
   simp only [toB] at hxd ⊢;split
   ·rename_i hγ;subst hγ;obtain ⟨hb2, g1, g2, g3⟩ := hr;rw [hβ] at g1; cases g1;rcases g3 with ⟨g3, _⟩ | ⟨b', cap, g3, g4, g5, g6⟩
    ·rw [hρ] at g3; cases g3
    ·rw [hρ] at g3; cases g3;exact ⟨rfl, g2, cap, g4, g5, g6⟩
   ·rename_i hγ; rw [if_neg hγ] at hxd; simp [PV.isDataM, PV.isData] at hxd
  | mp => simp [toB, PV.isDataM, PV.isData] at hxd
  | rb => simp [toB, PV.isDataM, PV.isData] at hxd
  | fn => simp [toB, PV.isDataM, PV.isData] at hxd
  | undef => simp [toB, PV.isDataM, PV.isData] at hxd
  | nso => simp [toB, PV.isDataM, PV.isData] at hxd
  | np => simp [toB, PV.isDataM, PV.isData] at hxd
  | rag => simp [toB, PV.isDataM, PV.isData] at hxd
  | rtp => simp [toB, PV.isDataM, PV.isData] at hxd
  | rtq => simp [toB, PV.isDataM, PV.isData] at hxd
  | nst => simp [toB, PV.isDataM, PV.isData] at hxd
  | tup => simp [toB, PV.isDataM, PV.isData] at hxd
  | agg cs => exact hr
  | _ => exact hr
 ·rintro e w' ⟨v, r, xs', rfl, hx, hcap, hI', hlen, hres, hpost⟩;have hst := hs.store β b ⟨1, ty, xs, false⟩ ⟨1, ty, xs', false⟩ hβ rfl (by intro e; simp at e; rw [e] at hpos; simp at hpos) hρ hx rfl hlen rfl (Qhc hI'.1) hcap (hI'.toB (X := Xof C ρ hp) (fz := false) |> fun ⟨cur, cap, c1, c2, c3, c4, c5⟩ => ⟨cur, cap, c1, c2, c3, c4, fun i x hi j y hy => by
   obtain ⟨k, n, rfl⟩ := hI'.1 x (List.mem_of_getElem? hi);have := c5 i _ hi j y hy;cases j with
   | zero =>simp [PV.cells] at hy; subst hy;generalize hg : cur.getD (i * 1 + 0) undef = u at this;cases this;exact Qd.int k n
   | succ j => simp [PV.cells] at hy⟩)
  have hXe : Xof C ρ (Qf hp β ⟨1, ty, xs', false⟩) = Xof C ρ hp := by
   funext c; apply propext; constructor
   ·rintro (hx | ⟨γ, hg, h1, h2, h3⟩)
    ·exact .inl hx
    ·by_cases hγ : γ = β
     ·subst hγ; exact .inr ⟨γ, _, hβ, rfl, h3⟩
     ·simp only [Qf, if_neg hγ] at h1; exact .inr ⟨γ, hg, h1, h2, h3⟩
   ·rintro (hx | ⟨γ, hg, h1, h2, h3⟩)
    ·exact .inl hx
    ·by_cases hγ : γ = β
     ·subst hγ; exact .inr ⟨γ, ⟨1, ty, xs', false⟩, by simp [Qf], rfl, h3⟩
     ·exact .inr ⟨γ, hg, by simp [Qf, hγ, h1], h2, h3⟩
  refine ⟨v, _, _, rfl, ⟨ρ, hst.updO (p := Qed β r) ?_ hdN⟩, by simp, hK r xs' hI'.1 hlen hpost⟩;cases r with
  | mso γ o n =>obtain ⟨_, g1, cap, g2, g3, g4⟩ := hres;exact ⟨⟨1, ty, xs', false⟩, by simp [Qf], by simp only [Qed]; omega, .inr ⟨b, cap, hρ, g2, g3, g4⟩⟩
  | _ => exact Qb.ofV (p := _) (by rw [hXe]; exact hres)
end Go.FW
namespace Go.FW
open Go
variable {C : Ctx} {ρ : Nat -> Option Nat} {fr : Fr} {hp : HP} {w : World} {K K' R : Qa}
def Ql8 (P : Program) (f : FuncId) (args : List PV) (ty : TypeId) (Post : List PV -> Prop) : Prop :=
 Qdi P f /\ ∀ (w : World) (X : Nat -> Prop) (vals : Array Value), (∀ b, X b -> b < w.heap.size) -> vals.size = args.length -> (∀ (i : Nat) (x : PV), args[i]? = some x -> Qn w X x (vals.getD i undef)) ->
  Calls P f vals w fun e w' => ∃ v b cap ys, e = .returned v /\ v = .slice (some ⟨b, 0, none⟩) ys.length cap /\ w.heap.size <= b /\ Ext Qi w w' /\ Qer w' b ty ys /\ Q6 w' b 1 cap /\ cap <= maxLen /\ Post ys
def Qne (rs : List RV) (ty : TypeId) (Post : List PV -> Prop) : Qa := fun fr hp =>
 ∃ s β n xs, rs = [.t s] /\ fr s = .mso β 0 n /\ isB β = false /\ hp β = some ⟨1, ty, xs, false⟩ /\ Qeq xs /\ 0 < n /\ Post (xs.take n)
theorem Qv2 {P : Program} (hP : C.P = P) {g : FuncId} {args pargs : List PV} {d : Nat} {ty : TypeId} {Post : List PV -> Prop} (h : Ql8 P g pargs ty Post) (hargs : ([] ++ args ++ []).map (Qj hp) = pargs) (hdat : pargs.all PV.isData = true) (hr : ([] ++ args ++ []).flatMap PV.refs = [])
  (hB : isB d = false) (hK : ∀ ys, Qeq ys -> Post ys -> K (upd (Qz d fr) d (.ms d ys.length)) (Qf hp d ⟨1, ty, ys, false⟩)) : Qcz C false (.fn g [] []) args (some d) fr hp K := by
 subst hP;refine ⟨h.1, fun ρ tmps w fv cv av hdN hs h1 h2 h3 hr1 hr2 hr3 =>?_⟩;have hf0 : Qr hp (([] ++ args ++ []).flatMap PV.refs) = hp := by rw [hr]; rfl
 have hrep := Qkx hs h1 h2 h3 hr1 hr2 hr3 (by rw [hargs]; exact hdat);rw [hf0, hargs] at hrep;refine (h.2 w _ (fv ++ av ++ cv) (Qkw hs) (by rw [<- hargs]; simp [h1, h2, h3]) hrep).mono ?_;rintro e w' ⟨v, b, cap, ys, rfl, rfl, hb, hx, hI, hcap, hm, hpost⟩;have hbl : b < w'.heap.size := by obtain ⟨_, cur, cp, i1, _⟩ := hI;exact (Array.getElem?_eq_some_iff.1 i1).1
 have hrb := hs.rebind (w' := w') d (some b) ⟨1, ty, ys, false⟩ hB (hx.mono (fun _ _ h => h.elim)) (fun c hc => by cases hc; exact ⟨.inl (Nat.le_trans hs.ext.size hb), hbl, .inl hb⟩) (by simp) (Qhc hI.1) (by simp)
  (fun c hc => by
   cases hc;obtain ⟨hint, cur, cp, i1, i2, i3, i4, i5⟩ := hI;refine ⟨cur, cp, i1, i2, i3, i4, fun i x hi j y hy =>?_⟩;obtain ⟨k, n, rfl⟩ := hint x (List.mem_of_getElem? hi);cases j with
   | zero =>simp [PV.cells] at hy; subst hy;rw [Nat.mul_one, Nat.add_zero, i5 i k n hi];exact Qd.int k n
   | succ j => simp [PV.cells] at hy)
 refine ⟨_, _, _, rfl, ⟨_, hrb.updO (d := some d) (p :=.ms d ys.length) ?_ hdN⟩, by simp, hK ys hI.1 hpost⟩;exact ⟨⟨1, ty, ys, false⟩, by simp [Qf], by simp, .inr ⟨b, cap, Qaa _ _ _, by simp, by rw [Nat.zero_add]; exact hcap, by omega⟩⟩
end Go.FW
namespace Go.FW
open Go
variable {C : Ctx} {ρ : Nat -> Option Nat} {fr : Fr} {hp : HP} {w : World} {K K' R : Qa}
end Go.FW
namespace Go.FW
open Go
variable {fr : Fr} {hp : HP}
theorem Qk4 {ty len : Nat} {Post : PV -> List PV -> Prop} {xs' : List PV} (hB : hp B0 = some ⟨1, ty, xs', false⟩) (hi : Qeq xs') (hl : xs'.length = len) (hp' : Post (.tup []) xs') : Qfw [] ty len Post fr hp :=
 ⟨xs', hB, hi, hl, .inl ⟨by simp, .tup [], trivial, by simp, hp'⟩⟩
end Go.FW
namespace Go.FW
open Go
variable {C : Ctx} {fr : Fr} {hp : HP} {K : Qa}
theorem Ql9 {bt : Bool} {k : IntKind} {x y d : Nat} (hy : 0 < y) (hw : k.wrap ((x / y : Nat) : Int) = ((x / y : Nat) : Int)) : Qap .quo bt (.int k (x : Int)) (.int k (y : Int)) d fr hp K = K (upd fr d (.int k ((x / y : Nat) : Int))) hp := by
 have : (y : Int) ≠ 0 := by omega
 simp only [Qap, ne_eq, this, not_false_eq_true, true_and];rw [Qtj (by omega), <- hw]; rfl
theorem Qma {bt : Bool} {k : IntKind} {x y d : Nat} (hy : 0 < y) : Qap .rem bt (.int k (x : Int)) (.int k (y : Int)) d fr hp K = K (upd fr d (.int k ((x % y : Nat) : Int))) hp := by
 have : (y : Int) ≠ 0 := by omega
 simp only [Qap, ne_eq, this, not_false_eq_true, true_and];rw [Qtk (by omega)]; rfl
theorem Qo8 {n : Nat} (h : n < 18446744073709551616) : IntKind.u64.wrap (n : Int) = n := Qkz (by omega) (by omega)
theorem Qo9 {n : Nat} (h : n < 9223372036854775808) : IntKind.i64.wrap (n : Int) = n := Qky (by omega) (by omega)
theorem Qtt {bt : Bool} {x y d : Nat} (hy : 0 < y) (hx : x < 18446744073709551616) : Qap .quo bt (.int .u64 (x : Int)) (.int .u64 (y : Int)) d fr hp K = K (upd fr d (.int .u64 ((x / y : Nat) : Int))) hp :=
 Ql9 hy (Qo8 (Nat.lt_of_le_of_lt (Nat.div_le_self x y) hx))
theorem Qtu {bt : Bool} {x y d : Nat} (hy : 0 < y) (hx : x < 9223372036854775808) : Qap .quo bt (.int .i64 (x : Int)) (.int .i64 (y : Int)) d fr hp K = K (upd fr d (.int .i64 ((x / y : Nat) : Int))) hp :=
 Ql9 hy (Qo9 (Nat.lt_of_le_of_lt (Nat.div_le_self x y) hx))
theorem Qtv {e d β o n H : Nat} {k : IntKind} (h : H <= n) (he : (hp β).map (·.e) = some e) : slK e (.mso β o n) none (some (.int k (H : Int))) none d fr hp K = K (upd fr d (.mso β o H)) hp := by
 have h1 : (H : Int) <= (n : Int) := by omega
 simp [slK, Qai, he, h1]
theorem Qtw {e d β o n L H : Nat} {k k' : IntKind} (h1 : L <= H) (h : H <= n) (h0 : L < n) (he : (hp β).map (·.e) = some e) : slK e (.mso β o n) (some (.int k (L : Int))) (some (.int k' (H : Int))) none d fr hp K = K (upd fr d (.mso β (o + L) (H - L))) hp := by
 have q1 : (H : Int) <= (n : Int) := by omega
 have q2 : (L : Int) <= (H : Int) := by omega
 have q3 : (L : Int) < (n : Int) := by omega
 simp [slK, Qai, he, q1, q2, q3]
end Go.FW
namespace Go.FW
open Go
variable {C : Ctx} {ρ : Nat -> Option Nat} {fr fr' : Fr} {hp : HP} {w : World} {K K' R R' : Qa}
def Fle (fr fr' : Fr) : Prop := ∀ s, fr' s = fr s ∨ fr' s = .undef
theorem Fle.refl (fr : Fr) : Fle fr fr := fun _ =>.inl rfl
theorem Fle.trans {a b c : Fr} (h : Fle a b) (k : Fle b c) : Fle a c := fun s => by
 rcases k s with e | e
 ·rw [e]; exact h s
 ·exact .inr e
theorem Fle.upd (h : Fle fr fr') (d : Nat) {v v' : PV} (hv : v' = v ∨ v' = .undef) : Fle (upd fr d v) (upd fr' d v') := fun s => by
 unfold FW.upd; split
 ·exact hv
 ·exact h s
theorem Fle.upd' (h : Fle fr fr') (d : Nat) (v : PV) : Fle (FW.upd fr d v) (FW.upd fr' d v) := h.upd d (.inl rfl)
theorem Fle.kill (h : Fle fr fr') (β : Nat) : Fle (Qz β fr) (Qz β fr') := fun s => by
 unfold Qz;rcases h s with e | e
 ·exact .inl (by rw [e])
 ·right; rw [e]; simp [Qs, PV.refs]
theorem Fle.ev (h : Fle fr fr') (x : Opd) : ev fr' x = ev fr x ∨ ev fr' x = .undef := by
 cases x with
 | t n => exact h n
 | c p => exact .inl rfl
theorem Fle.mem (h : Fle fr fr') {q : PV -> Prop} (hq : ¬ q .undef) {l : List Opd} (hl : ∀ p ∈ l.map (FW.ev fr'), q p) : l.map (FW.ev fr') = l.map (FW.ev fr) := by
 refine List.map_congr_left fun x hx =>?_;rcases h.ev x with e | e
 ·exact e
 ·exact absurd (e ▸ hl _ (List.mem_map_of_mem hx)) hq
theorem Fle.nst (h : Fle fr fr') {γ γ' e ty : Nat} {xs : List PV} (e1 : fr' γ = .nst γ' e ty xs) : fr γ = .nst γ' e ty xs := by
 rcases h γ with e2 | e2
 ·rw [<- e2]; exact e1
 ·rw [e1] at e2; cases e2
theorem Fle.drop (h : Fle fr fr') (γ : Nat) : Fle (Qbe γ fr) (Qbe γ fr') := fun s => by
 unfold Qbe;rcases h s with e | e
 ·exact .inl (by rw [e])
 ·right; rw [e]; rfl
theorem Fle.take (h : Fle fr fr') (β : Nat) : Fle (Qav β fr) (Qav β fr') := fun s => by
 unfold Qav;rcases h s with e | e
 ·exact .inl (by rw [e])
 ·right; rw [e]; simp [Q2, Qs, PV.refs]
theorem Fle.wk (h : Fle fr fr') : Wk fr hp fr' hp := by
 rintro C tmps w ⟨ρ, hs⟩;refine ⟨ρ, hs.sz, hs.ext, hs.keep, hs.own, hs.inj, fun s =>?_⟩;rcases h s with h | h <;> rw [h]
 ·exact hs.slots s
 ·trivial
theorem Fle.sim {tmps : Array Value} (h : Fle fr fr') (hs : Qh C ρ fr hp tmps w) : Qh C ρ fr' hp tmps w := by
 refine ⟨hs.sz, hs.ext, hs.keep, hs.own, hs.inj, fun s =>?_⟩;rcases h s with h | h <;> rw [h]
 ·exact hs.slots s
 ·trivial
theorem Qnf (h : Fle fr fr') (x : Option Opd) : x.map (ev fr') = x.map (ev fr) ∨ x.map (ev fr') = some .undef := by
 cases x with
 | none => exact .inl rfl
 | some x => rcases h.ev x with e | e <;> simp [e]
theorem Qjs (d : Int) : Qai d (some .undef) = none := rfl
theorem Qmb (h : Fle fr fr') (hK : ∀ f f' hp, Fle f f' -> K' f' hp -> K f hp) (o : SOp) : opV C o fr' hp K' -> opV C o fr hp K := by
 have hu : ∀ (d : Nat) (v : PV) (hp : HP), K' (upd fr' d v) hp -> K (upd fr d v) hp := fun d v hp H => hK _ _ _ (h.upd' d v) H;have hk : ∀ (β d : Nat) (v : PV) (hp : HP), K' (upd (Qz β fr') d v) hp -> K (upd (Qz β fr) d v) hp := fun β d v hp H => hK _ _ _ ((h.kill β).upd' d v) H;have hz : ∀ hp, K' fr' hp -> K fr hp := fun hp H => hK _ _ _ h H;have mono : ∀ {o : SOp}, opV C o fr hp K' -> opV C o fr hp K := fun H => Qrc (fun f hp H => hK _ _ _ (Fle.refl f) H) _ H;cases o with
 | mv d x => exact fun H => hK _ _ _ (h.upd d (h.ev x)) H
 | pick d c a b =>
  simp only [opV, Qd9];rcases h.ev c with e | e
  ·rw [e];split
   ·exact fun H => ⟨fun t => hK _ _ _ (h.upd d (h.ev a)) (H.1 t), fun t => hK _ _ _ (h.upd d (h.ev b)) (H.2 t)⟩
   ·exact id
  ·rw [e]; exact False.elim
 | call d pr f args =>
  simp only [opV, Qcz];rcases h.ev f with e | e
  ·rw [e];split
   ·rintro ⟨h1, h2⟩;refine ⟨h1, fun ρ tmps w fv cv av a1 a2 a3 a4 a5 a6 a7 a8 =>?_⟩;refine (h2 ρ tmps w fv cv av a1 (h.sim a2) a3 a4 (by simpa using a5) a6 a7 (fun i x hx =>?_)).mono ?_
    ·simp only [List.getElem?_map, Option.map_eq_some_iff] at hx;obtain ⟨y, hy, rfl⟩ := hx;rcases h.ev y with e | e
     ·rw [e]; exact a8 i _ (by simp [hy])
     ·rw [e]; trivial
    ·rintro e w' ⟨v, f1, hp', e1, e2, e3, e4⟩;exact ⟨v, f1, hp', e1, e2, e3, hK _ _ _ (Fle.refl _) e4⟩
   ·exact id
  ·rw [e]; exact False.elim
 | bs d e ty ps =>
  simp only [opV, bsK];by_cases hb : Qd5 (ps.map (ev fr')) = true
  ·rw [if_pos hb];rintro ⟨h1, h2⟩;have e : ps.map (ev fr') = ps.map (ev fr) := by
    match ps, hb with
    | [], hb => simp [Qd5] at hb
    | [p], hb =>
     rcases h.ev p with e | e
     ·simp [e]
     ·rw [List.map_cons, List.map_nil, e] at hb; simp [Qd5, Qbn] at hb
    | p :: q :: ps, hb => simp [Qd5] at hb
   rw [e] at h2 hb;rw [if_pos hb];exact ⟨h1, hK _ _ _ (((h.take _).upd' _ _).upd' _ _) h2⟩
  ·rw [if_neg hb];rintro ⟨h1, h2, h3⟩;have e := h.mem (q := fun p => (Qj hp p).isData = true) (by simp [Qj, Qw, PV.isData]) (l := ps) (fun p hp => (h2 p hp).1);rw [e] at h2 h3 hb;rw [if_neg hb];exact ⟨h1, h2, hk _ _ _ _ h3⟩
 | bld d z ps =>
  have key : ((∀ x ∈ ps, ev fr' x.2.2 ≠ .undef) -> (ps.map fun p => (p.1, p.2.1, ev fr' p.2.2)) = ps.map fun p => (p.1, p.2.1, ev fr p.2.2)) := fun hu => by
   refine List.map_congr_left fun x hx =>?_;rcases h.ev x.2.2 with e | e
   ·rw [e]
   ·exact absurd e (hu x hx)
  intro H;simp only [opV, Qck] at H;split at H
  ·rename_i hn;obtain ⟨h2, h3⟩ := H;have e := key fun x hx e => by obtain ⟨cs, h4, _⟩ := h2 _ (List.mem_map_of_mem hx);rw [e] at h4; simp [stN] at h4
   rw [e] at h2 h3 hn;simp only [opV, Qck];rw [if_pos hn];exact ⟨h2, hK _ _ _ (h.upd' _ _) h3⟩
  ·rename_i hn;obtain ⟨h2, h3⟩ := H;have e := key fun x hx e => by have := (h2 _ (List.mem_map_of_mem hx)).1;rw [e] at this; simp [Qj, Qw, PV.isData] at this
   rw [e] at h2 h3 hn;simp only [opV, Qck];rw [if_neg hn];exact ⟨h2, hK _ _ _ (h.upd' _ _) h3⟩
 | fn d f first cap =>simp only [opV];rintro ⟨h2, h3⟩;have h2' := h2;rw [List.all_append, Bool.and_eq_true, List.all_eq_true, List.all_eq_true] at h2';have e1 := h.mem (q := fun p => p.isCap = true) (by simp [PV.isCap]) h2'.1;have e2 := h.mem (q := fun p => p.isCap = true) (by simp [PV.isCap]) h2'.2;rw [e1, e2] at h2 h3;exact ⟨h2, hK _ _ _ (h.upd' _ _) h3⟩
 | nilc d x =>
  simp only [opV, Qho];rcases h.ev x with e | e
  ·rw [e];intro H; revert H
   repeat' split
   all_goals first | exact id | exact hz _ | exact hu _ _ _ | grind
  ·rw [e]; intro H; revert H; repeat' split
   all_goals first | exact id | exact False.elim | grind
 | bin d op bt x y =>
  simp only [opV];rcases h.ev x with e | e <;> rcases h.ev y with e' | e' <;> rw [e, e']
  ·unfold Qap;intro H; revert H;split
   ·split <;> first | exact fun H => ⟨H.1, hu _ _ _ H.2⟩ | exact fun H => ⟨H.1, H.2.1, hu _ _ _ H.2.2⟩ | exact id
   ·split <;> first | exact fun H => ⟨H.1, hu _ _ _ H.2⟩ | exact id
   ·exact id
  all_goals
   unfold Qap;intro H; revert H
   repeat' split
   all_goals first | exact False.elim | (intros; simp_all; done) | (rename_i h1 _; cases h1; done) | (rename_i h1; cases h1; done)
 | sl d e x lo hi mx =>
  simp only [opV, slK];rcases h.ev x with e0 | e0 <;> rcases Qnf h lo with e1 | e1 <;> rcases Qnf h hi with e2 | e2 <;> rcases Qnf h mx with e3 | e3 <;> rw [e0, e1, e2, e3]
  all_goals
   intro H; revert H
   try simp only [Qjs]
   repeat' split
   all_goals first | exact id | exact False.elim | (intros; simp_all; done) | grind
 | ld d n ag x =>
  simp only [opV, ldK];rcases h.ev x with e | e
  ·rw [e];intro H; revert H;split
   ·split
    ·exact fun ⟨a, b, c, k⟩ => ⟨a, b, c, hu _ _ _ k⟩
    ·exact id
   ·exact fun ⟨a, b, k⟩ => ⟨a, b, hu _ _ _ k⟩
   ·exact fun ⟨a, b, k⟩ => ⟨a, b, hu _ _ _ k⟩
   ·intro H;split at H
    ·rename_i hγ;rw [h.nst hγ];obtain ⟨a, b, c, d, k⟩ := H;exact ⟨a, b, c, d, hu _ _ _ k⟩
    ·exact H.elim
   ·exact id
  ·rw [e]; exact fun H => H.elim
 | st n x y =>
  simp only [opV, stK];rcases h.ev x with e | e <;> rcases h.ev y with e' | e' <;> rw [e, e']
  ·intro H; revert H;split
   ·split
    ·exact fun ⟨a, b, c, d, f, k⟩ => ⟨a, b, c, d, f, hz _ k⟩
    ·exact id
   ·intro H;split at H
    ·rename_i hγ;rw [h.nst hγ];obtain ⟨a, b, c, d, H⟩ := H;refine ⟨a, b, c, d, ?_⟩;revert H;split
     ·exact fun ⟨f, k⟩ => ⟨f, hK _ _ _ ((h.drop _).upd' _ _) k⟩
     ·exact id
    ·exact H.elim
   ·exact id
  ·intro H;exfalso;revert H;split
   ·split
    ·rintro ⟨_, b, _⟩; simp [Qj, Qw, PV.isData] at b
    ·exact id
   ·split
    ·rintro ⟨_, _, _, _, H⟩; exact H
    ·exact id
   ·exact id
  ·exact fun H => H.elim
  ·exact fun H => H.elim
 | app d e by_ ty x y =>
  simp only [opV, Qct];rcases h.ev y with e' | e'
  ·rw [e'];intro H; revert H;split
   ·unfold Qik;split
    ·rename_i δ _;rcases h δ with e2 | e2
     ·rw [e2];split
      ·rintro ⟨a1, a2, a3, H⟩;refine ⟨a1, a2, a3, ?_⟩;rcases h.ev x with e | e
       ·rw [e] at H;revert H;split
        ·exact fun H => ⟨H.1, hK _ _ _ (((h.take _).upd' _ _).upd' _ _) H.2⟩
        ·rename_i γ k _;rcases h γ with e3 | e3
         ·rw [e3];split
          ·exact fun H => ⟨H.1, H.2.1, hK _ _ _ (((h.take _).upd' _ _).upd' _ _) H.2.2⟩
          ·exact id
         ·rw [e3]; exact fun H => H.elim
        ·exact id
       ·rw [e] at H; exact H.elim
      ·exact id
     ·rw [e2]; exact fun H => H.elim
    ·exact id
   ·rintro ⟨h0, h1, H⟩;refine ⟨h0, h1, ?_⟩;rcases h.ev x with e | e
    ·rw [e] at H;revert H;split
     ·rintro ⟨a, b, c⟩; exact ⟨a, b, hk _ _ _ _ c⟩
     ·split
      ·rintro (⟨a1, a2, a3, a4, a5, a6, a7, c⟩ | ⟨a1, a2, a3, c⟩)
       ·exact .inl ⟨a1, a2, a3, a4, a5, a6, a7, hk _ _ _ _ c⟩
       ·exact .inr ⟨a1, a2, a3, hK _ _ _ ((h.take _).upd' _ _) c⟩
      ·exact id
     ·exact id
    ·rw [e] at H; exact H.elim
  ·rw [e']; exact fun H => H.elim
 | un d op x | conv d k x | len d x | sln d x | fld d o x | fldv d o n ag x | ext d x i =>
  all_goals
   simp only [opV, unK, Qfn, Qd4, Qg5, Qe7, Qds, ldK, Qc2]
   try (rcases h.ev x with e | e <;> rw [e])
  all_goals
   intro H; revert H
   repeat' split
   all_goals first | exact id | exact False.elim | exact hu _ _ _ | grind [Qj, Qw, PV.isData]
 | box d n ty x =>
  simp only [opV];rcases h.ev x with e | e
  ·rw [e];unfold Qba;split
   ·unfold Qga; exact fun H => ⟨H.1, hK _ _ _ (((h.take _).upd' _ _).upd' _ _) H.2⟩
   ·split
    ·exact hu _ _ _
    ·exact fun H => ⟨H.1, H.2.1, H.2.2.1, hk _ _ _ _ H.2.2.2⟩
  ·rw [e]; intro H; simp [Qba, Qj, Qw, PV.isData] at H
 | alloc d n ty z =>
  simp only [opV];unfold Qba;split
  ·unfold Qga; exact fun H => ⟨H.1, hK _ _ _ (((h.take _).upd' _ _).upd' _ _) H.2⟩
  ·split
   ·exact hu _ _ _
   ·exact fun H => ⟨H.1, H.2.1, H.2.2.1, hk _ _ _ _ H.2.2.2⟩
 | eqs d ng x y | sqs d ng x y | six d x y | mx d x y | mn d x y | idx d e x y | idxA d n e x y | ixv d n e ag x y | mk d e by_ ty z x y | cpy d e x y =>
  all_goals
   simp only [opV, Qe4, Qe5, Qf9, mxK, mnK, Qbl, Qdr, Qe6, stK, mkK, Qct, Qil];rcases h.ev x with e | e <;> rcases h.ev y with e' | e' <;> rw [e, e']
  all_goals
   intro H; revert H
   repeat' split
   all_goals first | exact id | exact False.elim | exact hu _ _ _ | grind [Qj, Qw, PV.isData, Qcc]
 | bad d => exact id
end Go.FW
namespace Go.FW
open Go
variable {C : Ctx} {ρ : Nat -> Option Nat} {fr fr' : Fr} {hp : HP} {w : World} {K K' R R' : Qa}
def KM (K' K : Qa) : Prop := ∀ f f' hp, Fle f f' -> K' f' hp -> K f hp
inductive Qdj : List It -> List It -> Prop
 | nil : Qdj [] []
 | c (s : SC) {a b : List It} : Qdj a b -> Qdj (.c s :: a) (.c s :: b)
 | o (r : RT) {a b : List It} : Qdj a b -> Qdj (.o r :: a) (.o r :: b)
 | eb (i : Nat) {a b : List It} : Qdj a b -> Qdj (.eb i :: a) (.eb i :: b)
 | el {J' J : Qa} {a b : List It} : KM J' J -> Qdj a b -> Qdj (.el J' :: a) (.el J :: b)
theorem Qdj.exit {id : Nat} : ∀ {a b : List It}, Qdj a b -> (∃ a' b', FW.Qt id a = some a' /\ FW.Qt id b = some b' /\ Qdj a' b' /\ Qaq a' <= Qaq a) ∨ (FW.Qt id a = none /\ FW.Qt id b = none) := by
 intro a b h;induction h with
 | nil => exact .inr ⟨rfl, rfl⟩
 | c s h ih | o s h ih =>
  rcases ih with ⟨a', b', h1, h2, h3, h4⟩ | ⟨h1, h2⟩
  ·exact .inl ⟨a', b', by simpa [FW.Qt] using h1, by simpa [FW.Qt] using h2, h3, by simp only [Qaq]; omega⟩
  ·exact .inr ⟨by simpa [FW.Qt] using h1, by simpa [FW.Qt] using h2⟩
 | el _ h ih =>
  rcases ih with ⟨a', b', h1, h2, h3, h4⟩ | ⟨h1, h2⟩
  ·exact .inl ⟨a', b', by simpa [FW.Qt] using h1, by simpa [FW.Qt] using h2, h3, by simp only [Qaq]; omega⟩
  ·exact .inr ⟨by simpa [FW.Qt] using h1, by simpa [FW.Qt] using h2⟩
 | eb i h ih =>
  by_cases hi : i = id
  ·exact .inl ⟨_, _, by simp [FW.Qt, hi], by simp [FW.Qt, hi], h, by simp only [Qaq]; omega⟩
  ·rcases ih with ⟨a', b', h1, h2, h3, h4⟩ | ⟨h1, h2⟩
   ·exact .inl ⟨a', b', by simpa [FW.Qt, hi] using h1, by simpa [FW.Qt, hi] using h2, h3, by simp only [Qaq]; omega⟩
   ·exact .inr ⟨by simpa [FW.Qt, hi] using h1, by simpa [FW.Qt, hi] using h2⟩
theorem Qje (h : Fle fr fr') (hK : KM K' K) (o : SOp) : Qb2 o fr' hp K' -> Qb2 o fr hp K := by
 unfold Qb2; split
 ·exact hK _ _ _ (h.upd' _ _)
 ·exact hK _ _ _ h
theorem Qrd (h : Fle fr fr') (hK : KM K' K) (g : Option (Nat × Bool)) (o : SOp) : Qfo C g o fr' hp K' -> Qfo C g o fr hp K := by
 unfold Qfo;split
 ·exact Qmb h hK o
 ·rename_i s want;rcases h s with e | e
  ·rw [e];split
   ·exact fun H => ⟨fun t => Qmb (h.upd' _ _) hK o (H.1 t), fun t => Qje (h.upd' _ _) hK o (H.2 t)⟩
   ·exact Qje h hK o
   ·exact id
  ·rw [e]; exact False.elim
theorem Qv3 (hR : KM R' R) : ∀ (n : Nat) (sk' sk : List It) (fr' fr : Fr) (hp : HP), Qaq sk' <= n -> Qdj sk' sk -> Fle fr fr' -> vc C R' sk' fr' hp -> vc C R sk fr hp := by
 intro n;induction n with
 | zero =>
  intro sk' sk fr' fr hp hn hs hf h;cases hs with
  | nil => rw [Qgh] at h ⊢; exact hR _ _ _ hf h
  | el hJ _ => rw [Qjw] at h ⊢; exact hJ _ _ _ hf h
  | c s _ => exfalso; have := SC.sz_pos s; simp only [Qaq, It.sz] at hn; omega
  | o s _ => exfalso; have := RT.sz_pos s; simp only [Qaq, It.sz] at hn; omega
  | eb _ _ => exfalso; simp only [Qaq, It.sz] at hn; omega
 | succ n ih =>
  intro sk' sk fr' fr hp hn hs hf h;cases hs with
  | nil => rw [Qgh] at h ⊢; exact hR _ _ _ hf h
  | el hJ _ => rw [Qjw] at h ⊢; exact hJ _ _ _ hf h
  | eb i hs =>rw [Qm0] at h ⊢;exact ih _ _ _ _ _ (by simp only [Qaq, It.sz] at hn; omega) hs hf h
  | o r hs =>
   cases r with
   | nil => rw [Qhy] at h ⊢; exact ih _ _ _ _ _ (by simp only [Qaq, It.sz, RT.sz] at hn; omega) hs hf h
   | o g o r =>rw [Qvw] at h ⊢;exact Qrd (K' := fun fr hp => vc C R' (.o r :: _) fr hp) (K := fun fr hp => vc C R (.o r :: _) fr hp) hf (fun f f' hp hf' H => ih (.o r :: _) (.o r :: _) _ _ hp (by simp only [Qaq, It.sz, RT.sz] at hn ⊢; omega) (.o r hs) hf' H) g o h
   | wk r =>rw [Qom] at h ⊢;obtain ⟨fr0, hp0, hw, h⟩ := h;exact ⟨fr0, hp0, hf.wk.trans hw, ih (.o r :: _) (.o r :: _) _ _ _ (by simp only [Qaq, It.sz, RT.sz] at hn ⊢; omega) (.o r hs) (Fle.refl _) h⟩
   | br x y =>rw [Qvx] at h ⊢;exact ⟨ih (.o x :: _) (.o x :: _) _ _ _ (by simp only [Qaq, It.sz, RT.sz] at hn ⊢; omega) (.o x hs) hf h.1, ih (.o y :: _) (.o y :: _) _ _ _ (by simp only [Qaq, It.sz, RT.sz] at hn ⊢; omega) (.o y hs) hf h.2⟩
  | @c s a b hs =>
   cases s with
   | skip => rw [Qiu] at h ⊢; exact ih _ _ _ _ _ (by simp only [Qaq, It.sz, SC.sz] at hn; omega) hs hf h
   | rg r => rw [Qs3] at h ⊢; exact ih (.o r :: _) (.o r :: _) _ _ _ (by simp only [Qaq, It.sz, SC.sz] at hn ⊢; omega) (.o r hs) hf h
   | raw id ops =>
    rw [vc] at h ⊢;intro tmps w Q hsim hQ;refine h tmps w Q ?_ fun fr2 hp2 tmps2 w2 hs2 hv => hQ fr2 hp2 tmps2 w2 hs2 ?_
    ·obtain ⟨ρ, hsim⟩ := hsim;exact ⟨ρ, hf.sim hsim⟩
    ·exact ih _ _ _ _ _ (by simp only [Qaq, It.sz, SC.sz] at hn; omega) hs (Fle.refl _) hv
   | seq x y => rw [Qks] at h ⊢; exact ih (.c x :: .c y :: _) (.c x :: .c y :: _) _ _ _ (by simp only [Qaq, It.sz, SC.sz] at hn ⊢; omega) (.c x (.c y hs)) hf h
   | block id x => rw [Qha] at h ⊢; exact ih (.c x :: .eb id :: _) (.c x :: .eb id :: _) _ _ _ (by simp only [Qaq, It.sz, SC.sz] at hn ⊢; omega) (.c x (.eb id hs)) hf h
   | ret => rw [Qkt] at h ⊢; exact hR _ _ _ hf h
   | cond c x y =>
    rw [Qiv] at h ⊢;rcases hf.ev c with e | e
    ·rw [e] at h;unfold Qgo at h ⊢;split at h
     ·exact ⟨fun e => ih (.c x :: _) (.c x :: _) _ _ _ (by simp only [Qaq, It.sz, SC.sz] at hn ⊢; omega) (.c x hs) hf (h.1 e), fun e => ih (.c y :: _) (.c y :: _) _ _ _ (by simp only [Qaq, It.sz, SC.sz] at hn ⊢; omega) (.c y hs) hf (h.2 e)⟩
     ·exact h
    ·rw [e] at h; exact h.elim
   | exit id =>
    rw [Qiw] at h ⊢;rcases hs.exit (id := id) with ⟨a', b', h1, h2, h3, h4⟩ | ⟨h1, h2⟩
    ·rw [h1] at h; rw [h2];simp only [Qgp] at h ⊢;exact ih _ _ _ _ _ (by simp only [Qaq, It.sz, SC.sz] at hn; omega) h3 hf h
    ·rw [h1] at h; exact h.elim
   | loop x =>rw [Qec] at h ⊢;obtain ⟨I, μ, ⟨fr0, hp0, h1, h1'⟩, h2⟩ := h;refine ⟨I, μ, ⟨fr0, hp0, hf.wk.trans h1, h1'⟩, fun fr hp hI =>?_⟩;refine ih (.c x :: .el _ :: _) (.c x :: .el _ :: _) _ _ _ (by simp only [Qaq, It.sz, SC.sz] at hn ⊢; omega) (.c x (.el ?_ hs)) (Fle.refl _) (h2 fr hp hI);rintro f f' hp' hf ⟨fr0, hp0, g1, g2, g3⟩;exact ⟨fr0, hp0, hf.wk.trans g1, g2, g3⟩
def inW : List (Nat × Nat) -> Nat -> Bool
 | [], _ => false
 | (a, b) :: W, s => (decide (a <= s) && decide (s <= b)) || inW W s
theorem Qtx (s : Nat) : inW [] s = false := rfl
theorem Qfx (a b s : Nat) (W : List (Nat × Nat)) : inW ((a, b) :: W) s = ((decide (a <= s) && decide (s <= b)) || inW W s) := rfl
def ovr (W : List (Nat × Nat)) (J F : Fr) : Fr := fun s => if inW W s then J s else F s
theorem Qv4 (W : List (Nat × Nat)) (J F : Fr) (s : Nat) : ovr W J F s = if inW W s then J s else F s := rfl
theorem Qty {W : List (Nat × Nat)} {a : Nat} {v : PV} {J F : Fr} (h : inW W a = true) : upd (ovr W J F) a v = ovr W (upd J a v) F := by
 funext s; unfold upd ovr;by_cases hs : s = a
 ·subst hs; rw [if_pos rfl, if_pos h]; simp
 ·rw [if_neg hs]; split
  ·simp [hs]
  ·rfl
theorem Qre {W : List (Nat × Nat)} {a : Nat} {v : PV} {J F : Fr} : upd (ovr W J F) a v = if inW W a = true then ovr W (upd J a v) F else ovr ((a, a) :: W) (upd J a v) F := by
 split
 ·exact Qty ‹_›
 ·funext s; unfold upd ovr;by_cases hs : s = a
  ·subst hs; simp [inW]
  ·have : (decide (a <= s) && decide (s <= a)) = false := by rw [Bool.and_eq_false_iff]; simp only [decide_eq_false_iff_not]; omega
   simp only [Qfx, this, Bool.false_or, if_neg hs]
theorem Qpa {W : List (Nat × Nat)} {β : Nat} {J F : Fr} : Qz β (ovr W J F) = ovr W (Qz β J) (Qz β F) := by funext s; unfold Qz ovr; split <;> rfl
def Q4 (B : List Nat) (F : Fr) : Fr := fun s => if (F s).refs.any B.contains then .undef else F s
theorem Qcs (F : Fr) : Q4 [] F = F := by funext s; simp [Q4]
theorem Qk5 {β : Nat} {B : List Nat} {F : Fr} (h : B.contains β = true) : Qz β (Q4 B F) = Q4 B F := by
 funext s;show Qs β (Q4 B F s) = Q4 B F s;by_cases h1 : (F s).refs.any B.contains = true
 ·have : Q4 B F s = .undef := if_pos h1;rw [this]; rfl
 ·have : Q4 B F s = F s := if_neg h1;rw [this, Qs, if_neg];intro h2;exact h1 (List.any_eq_true.2 ⟨β, by simpa using h2, h⟩)
theorem Qjt {β : Nat} {B : List Nat} {F : Fr} : Qz β (Q4 B F) = if B.contains β = true then Q4 B F else Q4 (β :: B) F := by
 split
 ·exact Qk5 ‹_›
 ·funext s;show Qs β (Q4 B F s) = Q4 (β :: B) F s;unfold Q4 Qs;by_cases h1 : (F s).refs.any B.contains = true
  ·have h2 : (F s).refs.any (β :: B).contains = true := by obtain ⟨x, hx, hx2⟩ := List.any_eq_true.1 h1;exact List.any_eq_true.2 ⟨x, hx, by rw [List.contains_cons, hx2, Bool.or_true]⟩
   simp only [if_pos h1, if_pos h2];rfl
  ·simp only [if_neg h1];by_cases h2 : (F s).refs.contains β = true
   ·have h3 : (F s).refs.any (β :: B).contains = true := List.any_eq_true.2 ⟨β, by simpa using h2, by simp⟩;rw [if_pos h2, if_pos h3]
   ·rw [if_neg h2, if_neg];intro h3;obtain ⟨x, hx, hx2⟩ := List.any_eq_true.1 h3;rw [List.contains_cons, Bool.or_eq_true] at hx2;rcases hx2 with e | e
    ·have : x = β := by simpa using e
     subst this; exact h2 (by simpa using hx)
    ·exact h1 (List.any_eq_true.2 ⟨x, hx, e⟩)
theorem Qgj (B : List Nat) (F : Fr) (s : Nat) : Q4 B F s = if (F s).refs.any B.contains then .undef else F s := rfl
theorem Qrf (W : List (Nat × Nat)) (B : List Nat) : Fle fr (ovr W fr (Q4 B fr)) := fun s => by
 unfold ovr Q4;split
 ·exact .inl rfl
 ·split
  ·exact .inr rfl
  ·exact .inl rfl
def Qh5 (W : List (Nat × Nat)) (F : Fr) (I : Nat -> Fr -> HP -> Prop) (n : Nat) : Qa := fun fr' hp' => ∃ J m, Fle fr' (ovr W J F) /\ m < n /\ I m J hp'
theorem Q9 {W : List (Nat × Nat)} {F J : Fr} {I : Nat -> Fr -> HP -> Prop} {n : Nat} (m : Nat) (hl : m < n) (h : I m J hp) : Qh5 W F I n (ovr W J F) hp := ⟨J, m, Fle.refl _, hl, h⟩
theorem Qrg {W : List (Nat × Nat)} {F : Fr} {I : Nat -> Fr -> HP -> Prop} {n : Nat} : KM (Qh5 W F I n) (Qh5 W F I n) := by rintro f f' hp hf ⟨J, m, h1, h2, h3⟩;exact ⟨J, m, hf.trans h1, h2, h3⟩
def Qbv (R : Qa) (sk : List It) : Prop := KM R R /\ Qdj sk sk
theorem Qas {sk : List It} {x : SC} (hok : Qbv R sk) (W : List (Nat × Nat)) (B : List Nat) (I : Nat -> Fr -> HP -> Prop) (m0 : Nat) (h0 : I m0 fr hp)
  (h : ∀ m J hp, I m J hp -> vc C R (.c x :: .el (Qh5 W (Q4 B fr) I m) :: sk) (ovr W J (Q4 B fr)) hp) : vc C R (.c (.loop x) :: sk) fr hp := by
 refine Qo1 (fun m fr' hp' => ∃ J, fr' = ovr W J (Q4 B fr) /\ I m J hp') m0 (Qrf W B).wk ⟨fr, rfl, h0⟩ ?_;rintro m _ hp' ⟨J, rfl, hI⟩;refine Qv3 hok.1 _ _ _ _ _ _ (Nat.le_refl _) (.c x (.el ?_ hok.2)) (Fle.refl _) (h m J hp' hI);rintro f f' hp2 hf ⟨J2, m2, e2, hl, h2⟩;exact Qq9 hl (hf.trans e2).wk ⟨J2, rfl, h2⟩
def Qrh (W : List (Nat × Nat)) (F : Fr) (M : Fr -> HP -> Prop) : Qa := fun fr' hp' => ∃ J, Fle fr' (ovr W J F) /\ M J hp'
theorem Qtz {W : List (Nat × Nat)} {F : Fr} {M : Fr -> HP -> Prop} : KM (Qrh W F M) (Qrh W F M) := by rintro f f' hp hf ⟨J, h1, h3⟩;exact ⟨J, hf.trans h1, h3⟩
theorem Qab {sk : List It} {W : List (Nat × Nat)} {F : Fr} {I : Nat -> Fr -> HP -> Prop} {n : Nat} (h : Qbv R sk) : Qbv R (.el (Qh5 W F I n) :: sk) := ⟨h.1, .el Qrg h.2⟩
theorem Qal {sk : List It} {W : List (Nat × Nat)} {F : Fr} {M : Fr -> HP -> Prop} (h : Qbv R sk) : Qbv R (.el (Qrh W F M) :: sk) := ⟨h.1, .el Qtz h.2⟩
theorem Qaw {sk : List It} {i : Nat} (h : Qbv R sk) : Qbv R (.eb i :: sk) := ⟨h.1, .eb i h.2⟩
theorem Qa8 {sk : List It} {s : SC} (h : Qbv R sk) : Qbv R (.c s :: sk) := ⟨h.1, .c s h.2⟩
theorem Qa9 {sk : List It} {s : RT} (h : Qbv R sk) : Qbv R (.o s :: sk) := ⟨h.1, .o s h.2⟩
theorem Q7 {sk : List It} {I : Nat -> Qa} {n : Nat} (h : Qbv R sk) : Qbv R (.el (Qh4 I n) :: sk) := ⟨h.1, .el (fun f f' hp hf ⟨a, b, h1, h2⟩ => ⟨a, b, hf.wk.trans h1, h2⟩) h.2⟩
theorem Qmc {rs : List RV} {Rr : PV -> Prop} : KM (Qb5 rs Rr) (Qb5 rs Rr) := by
 have one : ∀ (f f' : Fr) (hp : HP) (r : RV), Fle f f' -> okR f' hp r -> okR f hp r /\ rvP f' hp r = rvP f hp r := by
  intro f f' hp r hf ho;cases r with
  | t s =>
   simp only [okR, rvP] at ho ⊢;rcases hf s with e | e
   ·rw [e] at ho ⊢; exact ⟨ho, rfl⟩
   ·rw [e] at ho; simp [Qj, Qw, PV.isData] at ho
  | cell s n ag =>
   simp only [okR, rvP] at ho ⊢;rcases hf s with e | e
   ·rw [e] at ho ⊢; exact ⟨ho, rfl⟩
   ·rw [e] at ho; exact ho.elim
 intro f f' hp hf h;unfold Qb5 at h ⊢;split at h
 ·rename_i r;obtain ⟨h1, h2⟩ := h;obtain ⟨g1, g2⟩ := one f f' hp r hf h1;rw [g2] at h2;exact ⟨g1, h2⟩
 ·obtain ⟨h1, h2⟩ := h;have e : rs.map (rvP f' hp) = rs.map (rvP f hp) := List.map_congr_left fun r hr => (one f f' hp r hf (h1 r hr)).2;rw [e] at h2;exact ⟨fun r hr => (one f f' hp r hf (h1 r hr)).1, h2⟩
theorem Qri {rs : List RV} {ty : TypeId} {len : Nat} {Post : PV -> List PV -> Prop} : KM (Qfw rs ty len Post) (Qfw rs ty len Post) := by
 rintro f f' hp hf ⟨xs', h1, h2, h3, h4⟩;refine ⟨xs', h1, h2, h3, ?_⟩;rcases h4 with h4 | ⟨s, o, n, h4, h5, h6⟩
 ·exact .inl (Qmc _ _ _ hf h4)
 ·refine .inr ⟨s, o, n, h4, ?_, h6⟩;rcases hf s with e | e
  ·rw [<- e]; exact h5
  ·rw [h5] at e; cases e
theorem Qrj {rs : List RV} {ty : TypeId} {Post : List PV -> Prop} : KM (Qne rs ty Post) (Qne rs ty Post) := by
 rintro f f' hp hf ⟨s, β, n, xs, h1, h2, h3⟩;refine ⟨s, β, n, xs, h1, ?_, h3⟩;rcases hf s with e | e
 ·rw [<- e]; exact h2
 ·rw [h2] at e; cases e
theorem Qam {rs : List RV} {Rr : PV -> Prop} : Qbv (Qb5 rs Rr) [] := ⟨Qmc, .nil⟩
theorem Qac {rs : List RV} {ty : TypeId} {len : Nat} {Post : PV -> List PV -> Prop} : Qbv (Qfw rs ty len Post) [] := ⟨Qri, .nil⟩
theorem Qad {rs : List RV} {ty : TypeId} {Post : List PV -> Prop} : Qbv (Qne rs ty Post) [] := ⟨Qrj, .nil⟩
theorem Qmd {sk : List It} {x : SC} (i β e ty : Nat) (he : 0 < e) (hi : fr i = .nilS) (h : vc C R (.c (.loop x) :: sk) (upd (Qz β fr) i (.ms β 0)) (Qf hp β ⟨e, ty, [], false⟩)) (hB : isB β = false := by decide) : vc C R (.c (.loop x) :: sk) fr hp := by rw [Qec] at h ⊢;obtain ⟨I, μ, ⟨fr0, hp0, h1, h1'⟩, h2⟩ := h;exact ⟨I, μ, ⟨fr0, hp0, (Qvl i β e ty he hi hB).trans h1, h1'⟩, h2⟩
end Go.FW
namespace Go.FW
open Go
variable {C : Ctx} {fr : Fr} {hp : HP} {w : World} {K R : Qa}
theorem Qlq {P : Program} {f : FuncId} {k : IntKind} {x : Int} {r : PV} {v : Value} (hg : Qdi P f) (h : ∀ w, Calls P f #[.int k x] w fun e w' => e = .returned v /\ w' = w) (hr : ∀ w X, Qa6 w X r v) : Qm P f [.int k x] (· = r) := by
 refine ⟨hg, fun w X vals hX hs hrep =>?_⟩;have h0 : ∀ u, Qd w X (.int k x) u -> u = .int k x := fun u hu => by cases hu; rfl
 have e : vals = #[.int k x] := by
  have h1 : vals.getD 0 undef = .int k x := h0 _ (hrep 0 _ rfl);apply Array.ext
  ·simpa using hs
  ·intro i hi hi';have hi0 : i = 0 := by simp at hi'; omega
   subst hi0;simpa [Array.getD, hi] using h1
 rw [e];refine (h w).mono ?_;rintro e w' ⟨rfl, rfl⟩;exact ⟨v, r, rfl, Ext.refl _ _, hr _ _, rfl⟩
end Go.FW
namespace Go.FW
open Go
variable {C : Ctx} {fr : Fr} {hp : HP} {w : World} {K R : Qa}
theorem Qv5 :
  (∀ (β : Nat) (cs : List PV), Qs β (.pt cs) = .pt cs) /\ (∀ (β : Nat), Qs β .undef = .undef) /\ (∀ (β : Nat) (cs : List PV), Qs β (.tup cs) = .tup cs) /\
  (∀ (cs : List PV), (PV.pt cs).refs = []) /\ (PV.undef.refs = []) /\ (∀ (cs : List PV), (PV.tup cs).refs = []) /\
  (∀ (hp : HP) (cs : List PV), Qj hp (.pt cs) = .pt cs) /\ (∀ (hp : HP) (cs : List PV), Qj hp (.tup cs) = .tup cs) /\
  (∀ (β f : Nat) (a b : List PV), Qs β (.fn f a b) = if (a.flatMap PV.ref1 ++ b.flatMap PV.ref1).contains β then .undef else .fn f a b) /\
  (∀ (β o n : Nat), (PV.mso β o n).ref1 = [β]) /\ (∀ (β o n : Nat), (PV.rb β o n).ref1 = [β]) /\ (∀ (β o n : Nat), (PV.mp β o n).ref1 = [β]) /\
  (∀ (k : IntKind) (n : Int), (PV.int k n).ref1 = []) /\ (∀ (b : Bool), (PV.bool b).ref1 = []) /\ (∀ (e : Nat) (xs : List PV), (PV.sl e xs).ref1 = []) /\ (PV.nilS.ref1 = []) /\ (∀ (xs : List PV), (PV.pt xs).ref1 = []) := by
 refine ⟨fun _ _ => rfl, fun _ => rfl, fun _ _ => rfl, fun _ => rfl, rfl, fun _ => rfl, fun _ _ => rfl, fun _ _ => rfl, fun _ _ _ _ => rfl, fun _ _ _ => rfl, fun _ _ _ => rfl, fun _ _ _ => rfl, fun _ _ => rfl, fun _ => rfl, fun _ _ => rfl, rfl, fun _ => rfl⟩
theorem Qzn :
  (∀ (ty d e : Nat) (xs : List PV) (fr : Fr) (hp : HP) (K : Qa), Qba 1 ty (.sl e xs) d fr hp K = K (upd (Qz d fr) d (.mp d 0 0)) (Qf hp d ⟨1, ty, [.sl e xs], false⟩)) /\
  (∀ (ty d : Nat) (k : IntKind) (x : Int) (fr : Fr) (hp : HP) (K : Qa), Qba 1 ty (.int k x) d fr hp K = K (upd (Qz d fr) d (.mp d 0 0)) (Qf hp d ⟨1, ty, [.int k x], false⟩)) /\
  (∀ (ty d : Nat) (x : Bool) (fr : Fr) (hp : HP) (K : Qa), Qba 1 ty (.bool x) d fr hp K = K (upd (Qz d fr) d (.mp d 0 0)) (Qf hp d ⟨1, ty, [.bool x], false⟩)) /\
  (∀ (ty d : Nat) (fr : Fr) (hp : HP) (K : Qa), Qba 1 ty .nilS d fr hp K = K (upd (Qz d fr) d (.mp d 0 0)) (Qf hp d ⟨1, ty, [.nilS], false⟩)) /\
  (∀ (n ty d o m : Nat) (fr : Fr) (hp : HP) (K : Qa), Qba n ty (.mso 1000000 o m) d fr hp K = K (upd fr d (.rb 1000000 o m)) hp) /\
  (∀ (n ty d : Nat) (x : PV) (cs : List PV) (fr : Fr) (hp : HP) (K : Qa), Qba n ty (.agg (x :: cs)) d fr hp K = (cs.length + 1 = n /\ K (upd (Qz d fr) d (.mp d 0 0)) (Qf hp d ⟨n, ty, [.agg (x :: cs)], false⟩))) /\
  (∀ (ty d : Nat) (x : PV) (fz : Bool) (fr : Fr) (hp : HP) (K : Qa), ldM (some ⟨1, ty, [x], fz⟩) 1 false 0 0 d fr hp K = K (upd fr d (ldV false 1 0 x)) hp) /\
  (∀ (ty β e : Nat) (x : PV) (xs : List PV) (fr : Fr) (hp : HP) (K : Qa), stM (some ⟨1, ty, [x], false⟩) β 1 0 0 (.sl e xs) fr hp K = K fr (Qf hp β ⟨1, ty, [.sl e xs], false⟩)) /\
  (∀ (ty β : Nat) (x : PV) (k : IntKind) (y : Int) (fr : Fr) (hp : HP) (K : Qa), stM (some ⟨1, ty, [x], false⟩) β 1 0 0 (.int k y) fr hp K = K fr (Qf hp β ⟨1, ty, [.int k y], false⟩)) /\
  (∀ (ty β : Nat) (x : PV) (y : Bool) (fr : Fr) (hp : HP) (K : Qa), stM (some ⟨1, ty, [x], false⟩) β 1 0 0 (.bool y) fr hp K = K fr (Qf hp β ⟨1, ty, [.bool y], false⟩)) /\
  (∀ (ty β : Nat) (x : PV) (fr : Fr) (hp : HP) (K : Qa), stM (some ⟨1, ty, [x], false⟩) β 1 0 0 .nilS fr hp K = K fr (Qf hp β ⟨1, ty, [.nilS], false⟩)) /\
  (∀ (e : Nat) (xs : List PV), ldV false 1 0 (.sl e xs) = .sl e xs) /\ (∀ (k : IntKind) (x : Int), ldV false 1 0 (.int k x) = .int k x) /\ (∀ (x : Bool), ldV false 1 0 (.bool x) = .bool x) /\ (ldV false 1 0 .nilS = .nilS) := by
 have fz : ∀ hp : HP, Qr hp [] = hp := fun _ => rfl;refine ⟨fun _ _ _ _ _ _ _ =>?_, fun _ _ _ _ _ _ _ =>?_, fun _ _ _ _ _ _ =>?_, fun _ _ _ _ _ =>?_, fun _ _ _ _ _ _ _ _ => Qvk (by decide), fun n ty d x cs fr hp K =>?_, fun _ _ _ _ _ _ _ =>?_, fun _ _ _ _ _ _ _ _ =>?_, fun _ _ _ _ _ _ _ _ =>?_, fun _ _ _ _ _ _ _ =>?_, fun _ _ _ _ _ _ =>?_, fun _ _ => rfl, fun _ _ => rfl, fun _ => rfl, rfl⟩
 ·simp [Qba, Qj, Qw, PV.isData, PV.cells, PV.refs, fz]
 ·simp [Qba, Qj, Qw, PV.isData, PV.cells, PV.refs, fz]
 ·simp [Qba, Qj, Qw, PV.isData, PV.cells, PV.refs, fz]
 ·simp [Qba, Qj, Qw, PV.isData, PV.cells, PV.refs, fz]
 ·apply propext;simp only [Qba, Qj, Qw, PV.isData, PV.cells, PV.refs, List.length_cons, fz];exact ⟨fun ⟨_, h1, _, h2⟩ => ⟨h1, h2⟩, fun ⟨h1, h2⟩ => ⟨trivial, h1, by omega, h2⟩⟩
 all_goals simp [ldM, stM, PV.isData, PV.cells]
end Go.FW
namespace Go.FW
open Go
variable {C : Ctx} {fr : Fr} {hp : HP} {w : World} {K R : Qa}
theorem Qrk {x y : RT} {sk : List It} (h1 : vc C R (.o x :: sk) fr hp) (h2 : vc C R (.o y :: sk) fr hp) : brV C R x y sk fr hp := ⟨h1, h2⟩
end Go.FW
namespace Go.FW
def Qng (V W : List (Nat × Nat)) : Bool := V.all fun p => W.any fun q => decide (q.1 <= p.1) && decide (p.2 <= q.2)
theorem Qpb {V W : List (Nat × Nat)} (h : Qng V W = true) {s : Nat} (hs : inW V s = true) : inW W s = true := by
 induction V with
 | nil => cases hs
 | cons p V ih =>
  simp only [Qng, List.all_cons, Bool.and_eq_true] at h;rw [Qfx, Bool.or_eq_true] at hs;rcases hs with hs | hs
  ·obtain ⟨q, hq, hq2⟩ := List.any_eq_true.1 h.1;simp only [Bool.and_eq_true, decide_eq_true_eq] at hq2 hs;clear h ih;induction W with
   | nil => cases hq
   | cons r W ih =>
    rw [Qfx, Bool.or_eq_true];rcases List.mem_cons.1 hq with rfl | hq
    ·left; simp only [Bool.and_eq_true, decide_eq_true_eq]; omega
    ·right; exact ih hq
  ·exact ih h.2 hs
theorem Qgs {V W : List (Nat × Nat)} {X Z F : Fr} (h : Qng V W = true) : ovr V X (ovr W Z F) = ovr W (ovr V X Z) F := by
 funext s;unfold ovr;by_cases h1 : inW V s = true
 ·simp [h1, Qpb h h1]
 ·simp [h1]
open Go
variable {C : Ctx} {fr : Fr} {hp : HP} {w : World} {K R : Qa}
theorem Qzo : (∀ (C : Ctx) (d : Nat) (ng : Bool) (x y : Opd) (fr : Fr) (hp : HP) (K : Qa), opV C (.eqs d ng x y) fr hp K = Qe4 ng (ev fr x) (ev fr y) d fr hp K) /\
  (∀ (k l : IntKind) (x y x' y' : Int) (d : Nat) (fr : Fr) (hp : HP) (K : Qa), Qe4 false (.agg [.int k x, .int l y]) (.agg [.int k x', .int l y']) d fr hp K = K (upd fr d (.bool (decide (x = x') && decide (y = y')))) hp) /\
  (∀ (k l : IntKind) (x y x' y' : Int) (d : Nat) (fr : Fr) (hp : HP) (K : Qa), Qe4 true (.agg [.int k x, .int l y]) (.agg [.int k x', .int l y']) d fr hp K = K (upd fr d (.bool (!(decide (x = x') && decide (y = y'))))) hp) :=
 ⟨fun _ _ _ _ _ _ _ _ => rfl, fun _ _ _ _ _ _ _ _ _ _ => by simp [Qe4], fun _ _ _ _ _ _ _ _ _ _ => by simp [Qe4]⟩
theorem Qzp : (∀ (C : Ctx) (d : Nat) (ng : Bool) (x y : Opd) (fr : Fr) (hp : HP) (K : Qa), opV C (.sqs d ng x y) fr hp K = Qe5 ng (ev fr x) (ev fr y) d fr hp K) /\
  (∀ (C : Ctx) (d : Nat) (x : Opd) (fr : Fr) (hp : HP) (K : Qa), opV C (.sln d x) fr hp K = Qg5 (ev fr x) d fr hp K) /\
  (∀ (C : Ctx) (d : Nat) (x i : Opd) (fr : Fr) (hp : HP) (K : Qa), opV C (.six d x i) fr hp K = Qf9 (ev fr x) (ev fr i) d fr hp K) /\
  (∀ (x y : ByteArray) (d : Nat) (fr : Fr) (hp : HP) (K : Qa), Qe5 false (.str x) (.str y) d fr hp K = K (upd fr d (.bool (decide (x = y)))) hp) /\
  (∀ (x y : ByteArray) (d : Nat) (fr : Fr) (hp : HP) (K : Qa), Qe5 true (.str x) (.str y) d fr hp K = K (upd fr d (.bool (!decide (x = y)))) hp) /\
  (∀ (x : ByteArray) (d : Nat) (fr : Fr) (hp : HP) (K : Qa), Qg5 (.str x) d fr hp K = K (upd fr d (.int .i64 x.size)) hp) :=
 ⟨fun _ _ _ _ _ _ _ _ => rfl, fun _ _ _ _ _ _ => rfl, fun _ _ _ _ _ _ _ => rfl, fun _ _ _ _ _ _ => by simp [Qe5], fun _ _ _ _ _ _ => by simp [Qe5], fun _ _ _ _ _ => rfl⟩
theorem Qv6 {s : ByteArray} {k : IntKind} {i : Nat} {d : Nat} (h : i < s.size) : Qf9 (.str s) (.int k i) d fr hp K = K (upd fr d (.int .u8 (s.get! i).toNat)) hp := by simp [Qf9, h]
theorem Qrl {α : Type} {f : α -> PV} {e d : Nat} {k : IntKind} {xs : List α} (h : 0 < xs.length) : Qbl e (.sl e (xs.map f)) (.int k 0) d fr hp K = K (upd fr d (.pt (f (xs[0]'h)).cells)) hp := by rw [Qgr (by omega) (by omega)]; rfl
theorem Qrm {α : Type} {f : α -> PV} {e d : Nat} {k : IntKind} {xs : List α} (h : 1 < xs.length) : Qbl e (.sl e (xs.map f)) (.int k 1) d fr hp K = K (upd fr d (.pt (f (xs[1]'h)).cells)) hp := by rw [Qgr (by omega) (by omega)]; rfl
theorem Qrn {e d : Nat} {k : IntKind} {x : PV} {xs : List PV} : Qbl e (.sl e (x :: xs)) (.int k 0) d fr hp K = K (upd fr d (.pt x.cells)) hp := by rw [Qh3 (by omega) (by simp only [List.length_cons]; omega)]; rfl
theorem Qro {e d : Nat} {k : IntKind} {x y : PV} {xs : List PV} : Qbl e (.sl e (x :: y :: xs)) (.int k 1) d fr hp K = K (upd fr d (.pt y.cells)) hp := by rw [Qh3 (by omega) (by simp only [List.length_cons]; omega)]; rfl
def PV.flat : PV -> Bool
 |.int .. | .bool _ | .nilS | .sl .. | .agg _ | .pt _ | .str _ => true
 | _ => false
theorem Qrp : ∀ s, (PV.str s).flat = true := fun _ => rfl
theorem Qrq : ∀ s, (PV.str s).isData = true := fun _ => rfl
theorem Qyf : (∀ (k : IntKind) (n : Int), (PV.int k n).flat = true) /\ (∀ b, (PV.bool b).flat = true) /\ (PV.nilS.flat = true) /\ (∀ (e : Nat) (xs : List PV), (PV.sl e xs).flat = true) /\ (∀ xs, (PV.agg xs).flat = true) /\ (∀ xs, (PV.pt xs).flat = true) :=
 ⟨fun _ _ => rfl, fun _ => rfl, rfl, fun _ _ => rfl, fun _ => rfl, fun _ => rfl⟩
theorem Qyg : (∀ (k : IntKind) (n : Int), (PV.int k n).isData = true) /\ (∀ b, (PV.bool b).isData = true) /\ (PV.nilS.isData = true) /\ (∀ (e : Nat) (xs : List PV), (PV.sl e xs).isData = true) /\ (∀ xs, (PV.agg xs).isData = true) /\ (∀ xs, (PV.pt xs).isData = true) :=
 ⟨fun _ _ => rfl, fun _ => rfl, rfl, fun _ _ => rfl, fun _ => rfl, fun _ => rfl⟩
theorem Qby {p : PV} (h : p.flat = true) : Qj hp p = p /\ p.refs = [] /\ p.isData = true := by cases p <;> first | (cases h; done) | exact ⟨rfl, rfl, rfl⟩
theorem Qgt {e ty d : Nat} {ps : List PV} (h : ps.all PV.flat = true) (hl : ∀ p ∈ ps, p.cells.length = e) (he : 0 < e) : bsK e ty ps d fr hp K = K (upd (Qz d fr) d (.ms d ps.length)) (Qf hp d ⟨e, ty, ps, false⟩) := by
 have h' := List.all_eq_true.1 h;have e1 : ps.map (Qj hp) = ps := by
  conv => rhs; rw [<- List.map_id ps]
  exact List.map_congr_left fun p hp' => (Qby (h' p hp')).1
 have e2 : ps.flatMap PV.refs = [] := by rw [List.flatMap_eq_nil_iff]; exact fun p hp' => (Qby (hp := hp) (h' p hp')).2.1
 have e3 : Qij hp e ps := fun p hp' => by obtain ⟨h1, _, h3⟩ := Qby (hp := hp) (h' p hp');rw [h1]; exact ⟨h3, hl p hp'⟩
 have hbg : Qd5 ps = false := by
  unfold Qd5;split
  ·rename_i x;have := List.all_eq_true.1 h x (by simp);unfold Qbn;split
   ·cases this
   ·rfl
  ·rfl
 simp only [bsK, hbg, Bool.false_eq_true, if_false, bsO, e1, e2, e3, he, true_and];rfl
theorem bs1 {e ty d : Nat} {p : PV} (h : p.flat = true) (hl : p.cells.length = e) (he : 0 < e) : bsK e ty [p] d fr hp K = K (upd (Qz d fr) d (.ms d 1)) (Qf hp d ⟨e, ty, [p], false⟩) :=
 Qgt (by simp [h]) (by simpa using hl) he
theorem bs2 {e ty d : Nat} {p q : PV} (h : p.flat = true) (h2 : q.flat = true) (hl : p.cells.length = e) (hl2 : q.cells.length = e) (he : 0 < e) : bsK e ty [p, q] d fr hp K = K (upd (Qz d fr) d (.ms d 2)) (Qf hp d ⟨e, ty, [p, q], false⟩) :=
 Qgt (by simp [h, h2]) (by simp [hl, hl2]) he
end Go.FW
namespace Go.FW
open Go
variable {C : Ctx} {fr : Fr} {hp : HP} {w : World} {K R : Qa}
theorem Qrr {e ty n : Nat} {fz : Bool} {o d : Nat} {x : PV} (h : o + n <= e) : ldM (some ⟨e, ty, [x], fz⟩) n true 0 o d fr hp K = K (upd fr d (ldV true n o x)) hp := Ql7 h (by simp)
theorem Qrs {e ty : Nat} {fz : Bool} {o d : Nat} {x : PV} (h : o + 1 <= e) : ldM (some ⟨e, ty, [x], fz⟩) 1 false 0 o d fr hp K = K (upd fr d (ldV false 1 o x)) hp := Ql7 h (by simp)
theorem Qyh (n o : Nat) (cs : List PV) : ldV true n o (.agg cs) = .agg ((cs.drop o).take n) := rfl
theorem Qyi (n o : Nat) (cs : List PV) : ldV false n o (.agg cs) = (cs.drop o).headD .undef := rfl
theorem Qnh (n ty β : Nat) (x : PV) (cs : List PV) : stM (some ⟨n, ty, [x], false⟩) β n 0 0 (.agg cs) fr hp K = (cs.length = n /\ K fr (Qf hp β ⟨n, ty, [.agg cs], false⟩)) := by simp [stM, PV.isData, PV.cells]
theorem Qrt {e n ty β o : Nat} {x v : PV} (h : v.flat = true) (hn : ¬ n = e) (hl : v.cells.length = n) (ho : o + n <= e) : stM (some ⟨e, ty, [x], false⟩) β n 0 o v fr hp K = K fr (Qf hp β ⟨e, ty, [stV x o v], false⟩) := by have := (Qby (hp := hp) h).2.2;simp [stM, this, hl, ho, hn]
theorem Qt0 (cs : List PV) (o : Nat) (v : PV) : stV (.agg cs) o v = .agg (cs.take o ++ v.cells ++ cs.drop (o + v.cells.length)) := rfl
theorem Qpc : (PV.nilS).cells = [.nilS] := rfl
theorem Qh6 {p : PV} (h : p.flat = true) : p.isNst = false := by cases p <;> simp_all [PV.flat, PV.isNst]
theorem Qfy {z : List PV} {ps : List (Nat × Nat × PV)} {d : Nat} (h : ps.all (fun p => p.2.2.flat) = true) :
  Qck z ps d fr hp K = ((∀ p ∈ ps, p.2.2.cells.length = p.2.1 /\ p.1 + p.2.1 <= z.length) /\ K (upd fr d (.agg (Qa2 z (ps.map fun p => (p.1, p.2.2.cells))))) hp) := by
 have h' := List.all_eq_true.1 h;have e1 : (ps.map fun p => (p.1, (Qj hp p.2.2).cells)) = ps.map fun p => (p.1, p.2.2.cells) := List.map_congr_left fun p hp' => by rw [(Qby (h' p hp')).1]
 have e2 : (ps.flatMap fun p => p.2.2.refs) = [] := by rw [List.flatMap_eq_nil_iff]; exact fun p hp' => (Qby (hp := hp) (h' p hp')).2.1
 have e3 : Qkb hp z.length ps = (∀ p ∈ ps, p.2.2.cells.length = p.2.1 /\ p.1 + p.2.1 <= z.length) := by
  apply propext;constructor
  ·intro H p hp';obtain ⟨_, h2, h3⟩ := H p hp';rw [(Qby (h' p hp')).1] at h2; exact ⟨h2, h3⟩
  ·intro H p hp';obtain ⟨h2, h3⟩ := H p hp';obtain ⟨g1, _, g3⟩ := Qby (hp := hp) (h' p hp');rw [g1]; exact ⟨g3, h2, h3⟩
 have e4 : ps.any (fun p => p.2.2.isNst) = false := by rw [List.any_eq_false]; exact fun p hp' => by simp [Qh6 (h' p hp')]
 simp only [Qck, e4, Qhn, e1, e2, e3, Bool.false_eq_true, if_false];rfl
theorem Qzq (z : List PV) (d : Nat) : Qck z [] d fr hp K = K (upd fr d (.agg z)) hp := by rw [Qfy rfl]; simp [Qa2]
theorem Qzr {z : List PV} {o n d : Nat} {p : PV} (h : p.flat = true) : Qck z [(o, n, p)] d fr hp K = ((p.cells.length = n /\ o + n <= z.length) /\ K (upd fr d (.agg (z.take o ++ p.cells ++ z.drop (o + p.cells.length)))) hp) := by rw [Qfy (by simp [h])]; simp [Qa2]
theorem Qzs {z : List PV} {o n o2 n2 d : Nat} {p q : PV} (h : p.flat = true) (h2 : q.flat = true) : Qck z [(o, n, p), (o2, n2, q)] d fr hp K =
  ((p.cells.length = n /\ o + n <= z.length) /\ (q.cells.length = n2 /\ o2 + n2 <= z.length) /\ K (upd fr d (.agg (Qa2 z [(o, p.cells), (o2, q.cells)]))) hp) := by
 rw [Qfy (by simp [h, h2])]; simp [and_assoc]
theorem Qzt {z : List PV} {o n o2 n2 o3 n3 d : Nat} {p q r : PV} (h : p.flat = true) (h2 : q.flat = true) (h3 : r.flat = true) : Qck z [(o, n, p), (o2, n2, q), (o3, n3, r)] d fr hp K =
  ((p.cells.length = n /\ o + n <= z.length) /\ (q.cells.length = n2 /\ o2 + n2 <= z.length) /\ (r.cells.length = n3 /\ o3 + n3 <= z.length) /\ K (upd fr d (.agg (Qa2 z [(o, p.cells), (o2, q.cells), (o3, r.cells)]))) hp) := by
 rw [Qfy (by simp [h, h2, h3])]; simp [and_assoc]
theorem Qpd (c : List PV) : Qa2 c [] = c := rfl
theorem Qni (c xs : List PV) (o : Nat) (r : List (Nat × List PV)) : Qa2 c ((o, xs) :: r) = Qa2 (c.take o ++ xs ++ c.drop (o + xs.length)) r := rfl
def Qjy (p : PV) (hp : HP) (n : Nat) (ag : Bool) : PV := match p with
 |.mp β i o => match hp β with
  | some hb => if i < hb.xs.length /\ o + n <= hb.e /\ (ag = false -> n = 1) then ldV ag n o ((hb.xs[i]?).getD .undef) else .undef
  | none =>.undef
 | _ =>.undef
def gv (fr : Fr) (hp : HP) : RV -> PV
 |.t s => Qj hp (fr s)
 |.cell s n ag => Qjy (fr s) hp n ag
def Qh7 (hb : Option HB) (n : Nat) (ag : Bool) (i o : Nat) : PV := match hb with
  | some hb => if i < hb.xs.length /\ o + n <= hb.e /\ (ag = false -> n = 1) then ldV ag n o ((hb.xs[i]?).getD .undef) else .undef
  | none =>.undef
theorem Qzu (fr : Fr) (hp : HP) (s : Nat) : gv fr hp (.t s) = Qj hp (fr s) := rfl
theorem Qzv (fr : Fr) (hp : HP) (s n : Nat) (ag : Bool) : gv fr hp (.cell s n ag) = Qjy (fr s) hp n ag := rfl
theorem Qru (hp : HP) (n : Nat) (ag : Bool) (β i o : Nat) : Qjy (.mp β i o) hp n ag = Qh7 (hp β) n ag i o := rfl
theorem Qt1 {e ty n o : Nat} {fz : Bool} {x : PV} (h : o + n <= e) : Qh7 (some ⟨e, ty, [x], fz⟩) n true 0 o = ldV true n o x := by simp [Qh7, h]
theorem Qt2 {e ty o : Nat} {fz : Bool} {x : PV} (h : o + 1 <= e) : Qh7 (some ⟨e, ty, [x], fz⟩) 1 false 0 o = ldV false 1 o x := by simp [Qh7, h]
theorem Qyj {r : RV} (h : (gv fr hp r).isData = true) : okR fr hp r /\ rvP fr hp r = gv fr hp r := by
 cases r with
 | t s => exact ⟨h, rfl⟩
 | cell s n ag =>
  simp only [gv, okR, rvP] at h ⊢;cases hfs : fr s with
  | mp β i o =>
   rw [hfs] at h;simp only [Qjy] at h ⊢;cases hβ : hp β with
   | none => rw [hβ] at h; cases h
   | some hb =>
    rw [hβ] at h;simp only at h ⊢;split at h
    ·rename_i hc;rw [if_pos hc]; exact ⟨hc, rfl⟩
    ·cases h
  | _ => rw [hfs] at h; cases h
theorem Qgu {r : RV} {Rr : PV -> Prop} (h : Qm8 Rr (gv fr hp r)) : Qb5 [r] Rr fr hp := by obtain ⟨h1, h2⟩ := Qyj h.1;exact ⟨h1, by rw [h2]; exact h.2⟩
end Go.FW
namespace Go.FW
open Go
def zv (n : Bool) (a : List Nat) : Int := if n then -(val a : Int) else val a
def Qzw (x y : Int) : Int := if x < y then -1 else if y < x then 1 else 0
variable {C : Ctx} {fr : Fr} {hp : HP} {w : World} {K R : Qa}
def Qnj (hb : Option HB) (o n : Nat) : PV := match hb with
 | some hb =>.sl hb.e ((hb.xs.drop o).take n)
 | none =>.undef
theorem Qbk : (∀ (hp : HP) (β o n : Nat), Qj hp (.mso β o n) = if isY β = true then .undef else Qnj (hp β) o n) /\
  (∀ (e ty o n : Nat) (xs : List PV) (fz : Bool), Qnj (some ⟨e, ty, xs, fz⟩) o n = .sl e ((xs.drop o).take n)) /\
  (∀ (β : Nat), isY β = (decide (1000000 <= β) && decide (β < 2000000))) /\
  (∀ (hp : HP) (l : List Nat) (β : Nat), FW.Qr hp l β = if l.contains β = true then (hp β).map (fun hb => { hb with fz := true }) else hp β) := by
 refine ⟨fun hp β o n =>?_, fun _ _ _ _ _ _ => rfl, fun _ => rfl, fun _ _ _ => rfl⟩;simp only [Qj, Qw, Qnj];cases isY β <;> cases hp β <;> rfl
theorem Qv7 {n d : Nat} {cs : List PV} (h : n <= cs.length) : ldK n true (.pt cs) d fr hp K = K (upd fr d (.agg (cs.take n))) hp := by simp [ldK, h, ldV, PV.cells]
theorem Qv8 {off d : Nat} {cs : List PV} (h : off <= cs.length) : Qe7 off (.pt cs) d fr hp K = K (upd fr d (.pt (cs.drop off))) hp := by simp [Qe7, h]
theorem Qv9 {off n d : Nat} {cs : List PV} (h : off + n <= cs.length) : Qds off n true (.agg cs) d fr hp K = K (upd fr d (.agg ((cs.drop off).take n))) hp := by simp [Qds, h, ldV, PV.cells]
theorem Qwa {off d : Nat} {cs : List PV} (h : off + 1 <= cs.length) : Qds off 1 false (.agg cs) d fr hp K = K (upd fr d ((cs.drop off).headD .undef)) hp := by simp [Qds, h, ldV, PV.cells]
def rv (n : Bool) (a d : List Nat) : Rat := mkRat (zv n a) (val d)
abbrev PV.rat (q : Rat) : PV :=.agg [.bool (decide (q.num < 0)), PV.num q.num.natAbs, PV.num q.den]
def rs (q : Rat) : Nat := max (nl q.num.natAbs) (nl q.den)
end Go.FW
namespace Go.FW
open Go
def eN (a : List Int) (i : Nat) : Int := a.getD i 0
theorem Qyk {a : List Int} {i : Nat} (h : i < a.length) : eN a i = a[i] := by simp [eN, List.getD_eq_getElem?_getD, h]
theorem Qyl {a : List Int} {i : Nat} (h : a.length <= i) : eN a i = 0 := by simp [eN, List.getD_eq_getElem?_getD, List.getElem?_eq_none h]
def Qwb (l : List Int) : Nat -> List Int
 | 0 => []
 | n + 1 => if l[n]? = some 0 then Qwb l n else l.take (n + 1)
def Qym (l : List Int) : List Int := Qwb l l.length
def Qwc (a b : List Int) : Nat -> Int
 | 0 => 0
 | n + 1 => if eN a n = eN b n then Qwc a b n else Qzw (eN a n) (eN b n)
def Qzx (a b : List Int) : Int := Qwc a b (max a.length b.length)
def Qk6 (a : List Int) : Bool := decide (a.length <= 64) && (decide (a.getLast? ≠ some 0) && a.all fun x => decide (0 <= x) && decide (x <= 1048576))
structure MB (k : Nat) (a : List Int) : Prop where
 len : a.length <= 64
 lo : ∀ x ∈ a, 0 <= x
 hi : ∀ x ∈ a, x <= k
theorem MB.eN {k : Nat} {a : List Int} (h : MB k a) (i : Nat) : 0 <= FW.eN a i /\ FW.eN a i <= k := by
 by_cases hi : i < a.length
 ·rw [Qyk hi]; exact ⟨h.lo _ (List.getElem_mem _), h.hi _ (List.getElem_mem _)⟩
 ·rw [Qyl (by omega)]; omega
theorem MB.ofOk {a : List Int} (h : Qk6 a = true) : MB 1048576 a := by simp only [Qk6, Bool.and_eq_true, decide_eq_true_eq, List.all_eq_true] at h;exact ⟨h.1, fun x hx => (h.2.2 x hx).1, fun x hx => (h.2.2 x hx).2⟩
variable {C : Ctx} {fr : Fr} {hp : HP} {w : World} {K R : Qa}
theorem Qyn {α : Type} {f : α -> PV} {e d : Nat} {xs : List α} {k k' : IntKind} {n : Nat} (h5 : n <= xs.length) :
  slK e (.sl e (xs.map f)) none (some (.int k (n : Int))) (some (.int k' (n : Int))) d fr hp K = K (upd fr d (.sl e ((xs.take n).map f))) hp := by
 simp [slK, Qai, h5]
theorem Qlr {α : Type} {f : α -> PV} {e by_ ty d : Nat} {xs : List α} (h0 : 0 < e) (h1 : xs.length * by_ <= 140737488355328) (h2 : xs.length <= 9223372036854775807) :
  Qct e by_ ty .nilS (.sl e (xs.map f)) d fr hp K = K (upd (Qz d fr) d (.ms d xs.length)) (Qf hp d ⟨e, ty, xs.map f, false⟩) := by
 have := Qm9 (fr := fr) (hp := hp) (K := K) (e := e) (by_ := by_) (ty := ty) (d := d) (x :=.sl e (xs.map f)) (ys := xs.map f) rfl h0 (by simpa using h1) (by simpa using h2);simpa using this
theorem Qes {α : Type} {f : α -> PV} {y : α} {e by_ ty ty' d β γ n : Nat} {xs : List α} {fz : Bool} (hb : hp β = some ⟨e, ty, xs.map f, false⟩) (hy : hp γ = some ⟨e, ty', [f y], fz⟩) (h0 : 0 < e) (hn : n = xs.length) (h1 : (n + 1) * by_ <= 140737488355328) (h2 : n + 1 <= 9223372036854775807) (hB : isB β = false := by decide) :
  Qct e by_ ty (.ms β n) (.ms γ 1) d fr hp K = K (upd (Qz β fr) d (.ms β (n + 1))) (Qf hp β ⟨e, ty, (xs ++ [y]).map f, false⟩) := by
 rw [Qra hb hy h0 (by simp [hn]) h1 h2 hB]; simp
abbrev PV.mono (a : List Int) : PV :=.sl 1 (Qce a)
theorem Qwd {by_ ty d : Nat} {k k' : IntKind} {n c : Nat} (h2 : n <= c) (h3 : by_ * c <= 281474976710656) (h4 : c <= 9223372036854775807) :
  mkK 1 by_ ty (.int .i64 0) (.int k (n : Int)) (.int k' (c : Int)) d fr hp K = K (upd (Qz d fr) d (.ms d n)) (Qf hp d ⟨1, ty, Qce (List.replicate n 0), false⟩) := by
 rw [Qo2 (by omega) (by omega) (by omega) (by omega)];simp [Qce]
theorem Qt3 (a b : Nat) : max (a : Int) (b : Int) = ((max a b : Nat) : Int) := by omega
end Go.FW
namespace Go.FW
open Go
variable {C : Ctx} {fr : Fr} {hp : HP} {w : World} {K R : Qa}
end Go.FW
namespace Go.FW
open Go
abbrev Tm := Rat × List Int
structure TB (K E : Nat) (t : Tm) : Prop where
 c : rs t.1 + 1 <= K
 m : MB E t.2
 l : t.2.getLast? ≠ some 0
def PB (K E : Nat) (p : List Tm) : Prop := ∀ t ∈ p, TB K E t
theorem PB.nil (K E : Nat) : PB K E [] := fun t ht => by cases ht
theorem PB.cons {K E : Nat} {t : Tm} {p : List Tm} : PB K E (t :: p) ↔ TB K E t /\ PB K E p := by simp [PB]
theorem PB.drop {K E : Nat} {p : List Tm} (h : PB K E p) (n : Nat) : PB K E (p.drop n) := fun t ht => h t (List.mem_of_mem_drop ht)
theorem PB.take {K E : Nat} {p : List Tm} (h : PB K E p) (n : Nat) : PB K E (p.take n) := fun t ht => h t (List.mem_of_mem_take ht)
section
variable {C : Ctx} {fr : Fr} {hp : HP} {w : World} {K R : Qa}
theorem Qrv {e by_ ty d : Nat} {z : PV} {k k' : IntKind} {Cc : Int} (h0 : 0 < e) (hz : z.cells.length = e) (h2 : 0 <= Cc) (h3 : by_ * Cc <= 281474976710656) (h4 : Cc <= 9223372036854775807) :
  mkK e by_ ty z (.int k 0) (.int k' Cc) d fr hp K = K (upd (Qz d fr) d (.ms d 0)) (Qf hp d ⟨e, ty, [], false⟩) := Qjx h0 hz (by omega) h2 h3 h4
end
end Go.FW
namespace Go.FW
open Go
theorem TB.num {a : Rat} {K E : Nat} (h : rs a + 1 <= K) : TB K E (a, []) := ⟨h, ⟨by simp, by simp, by simp⟩, by simp⟩
structure TV (t : Tm) : Prop where
 c : t.1 ≠ 0
 m : Qk6 t.2 = true
def Qgv : List Tm -> Prop
 | [] => True
 | s :: p => (∀ t ∈ p, 0 < Qzx s.2 t.2) /\ Qgv p
theorem TV.MB {t : Tm} (h : TV t) : MB 1048576 t.2 := MB.ofOk h.m
variable {C : Ctx} {ρ : Nat -> Option Nat} {fr : Fr} {hp : HP} {w : World} {K R : Qa}
def Qnk (W : List (Nat × Nat)) (F : Fr) (I : Nat -> Fr -> HP -> Prop) (n : Nat) : Qa := fun fr' hp' => ∃ J hp2 m, Wk fr' hp' (ovr W J F) hp2 /\ m < n /\ I m J hp2
theorem Qrw {W : List (Nat × Nat)} {F : Fr} {I : Nat -> Fr -> HP -> Prop} {n : Nat} : KM (Qnk W F I n) (Qnk W F I n) := by rintro f f' hp hf ⟨J, hp2, m, h1, h2, h3⟩;exact ⟨J, hp2, m, hf.wk.trans h1, h2, h3⟩
theorem Qao {sk : List It} {W : List (Nat × Nat)} {F : Fr} {I : Nat -> Fr -> HP -> Prop} {n : Nat} (h : Qbv R sk) : Qbv R (.el (Qnk W F I n) :: sk) := ⟨h.1, .el Qrw h.2⟩
theorem Qwe {bt : Bool} {n d : Nat} : Qap .rem bt (.int .u64 (n : Int)) (.int .u64 65536) d fr hp K = K (upd fr d (.int .u64 ((n % 65536 : Nat) : Int))) hp := by rw [show (65536 : Int) = ((65536 : Nat) : Int) from rfl, Qma (by omega)]
theorem Qwf {bt : Bool} {n d : Nat} (h : n < 18446744073709551616) : Qap .quo bt (.int .u64 (n : Int)) (.int .u64 65536) d fr hp K = K (upd fr d (.int .u64 ((n / 65536 : Nat) : Int))) hp := by rw [show (65536 : Int) = ((65536 : Nat) : Int) from rfl, Qtt (by omega) h]
theorem Qt4 {bt : Bool} {n d : Nat} : Qap .rem bt (.int .i64 (n : Int)) (.int .i64 65536) d fr hp K = K (upd fr d (.int .i64 ((n % 65536 : Nat) : Int))) hp := by rw [show (65536 : Int) = ((65536 : Nat) : Int) from rfl, Qma (by omega)]
theorem Qt5 {bt : Bool} {n d : Nat} (h : n < 9223372036854775808) : Qap .quo bt (.int .i64 (n : Int)) (.int .i64 65536) d fr hp K = K (upd fr d (.int .i64 ((n / 65536 : Nat) : Int))) hp := by rw [show (65536 : Int) = ((65536 : Nat) : Int) from rfl, Qtu (by omega) h]
theorem Qwg (n : Nat) : (n : Int) * 65536 = ((n * 65536 : Nat) : Int) := by omega
end Go.FW
namespace Go.FW
open Go
variable {C : Ctx} {ρ : Nat -> Option Nat} {fr : Fr} {hp : HP} {w : World} {K R : Qa}
end Go.FW
namespace Go.FW
open Go Go.ChangeShapes Go.WideShapes
section
variable {H : Type} {enc : TypeId × Value -> H} {P : Program} {w : World} {base : Nat} {spare : Nat -> Bool} {held : Bool}
structure Qzy (Qcm : DataW H -> Nat) : Prop where
 len : ∀ (elems spare : List (DataW H)), elems.length <= Qcm (.slice elems spare)
 sl : ∀ (elems spare : List (DataW H)) (d : DataW H), d ∈ elems -> Qcm d <= Qcm (.slice elems spare)
 ag : ∀ (parts : List (DataW H)) (d : DataW H), d ∈ parts -> Qcm d <= Qcm (.agg parts)
def Qfz (enc : TypeId × Value -> H) (P : Program) (Qcm : DataW H -> Nat) (N : Nat) (t : TypeId) (Q : List PV -> Prop) : Prop :=
 ∀ (w : World) (base : Nat) (spare : Nat -> Bool) (held : Bool) (fuel : Nat) (cs : List Value) (x : DataW H × List MemPlace), DataW.trod enc P w base spare held fuel t cs = some x -> Qcm x.1 <= N ->
  ∃ ps, Q ps /\ ps.length = cs.length /\ ∀ (i : Nat) (p : PV), ps[i]? = some p -> Qd w Qi p (cs.getD i undef)
variable {Qcm : DataW H -> Nat} {N : Nat}
theorem Qrx {w : World} {p : PV} {v : Value} (h : Qd w Qi p v) : ∀ (i : Nat) (q : PV), [p][i]? = some q -> Qd w Qi q ([v].getD i undef) := by
 intro i q hq
 match i, hq with
 | 0, hq => simp at hq; subst hq; exact h
 | i + 1, hq => simp at hq
theorem Qfz.mono {t : TypeId} {Q Q' : List PV -> Prop} (h : Qfz enc P Qcm N t Q) (hQ : ∀ ps, Q ps -> Q' ps) : Qfz enc P Qcm N t Q' :=
 fun w base spare held fuel cs x hx hn => let ⟨ps, h1, h2, h3⟩ := h w base spare held fuel cs x hx hn; ⟨ps, hQ ps h1, h2, h3⟩
theorem Qpe {t : TypeId} {k : IntKind} (ht : P.underlying t = some (.int k)) : Qfz enc P Qcm N t fun ps => ∃ n, ps = [.int k n] /\ (Lit.int k n).wf = true := by intro w base spare held fuel cs x hx _;obtain ⟨n, rfl, rfl, hw⟩ := DataW.trod_int ht hx;exact ⟨_, ⟨n, rfl, hw⟩, rfl, Qrx (.int k n)⟩
theorem Qt6 {r : Reach} {b0 : Nat} {t : TypeId} {v : Value} {d : DataW H} {ps : List MemPlace} {Q : List PV -> Prop} (hr : Qfz enc P Qcm N t Q) (hd : DataW.Trod enc P w base spare held t v d ps) (hn : Qcm d <= N)
  (hv : v.cells = #[v]) : ∃ p, Q [p] /\ Qn w Qi p v := by
 obtain ⟨fuel, hf⟩ := hd;obtain ⟨qs, h1, h2, h3⟩ := hr _ _ _ _ _ _ _ hf hn;rw [hv] at h2 h3
 match qs, h2 with
 | [p], _ => exact ⟨p, h1, Qn.of_c (by simpa using h3 0 p rfl)⟩
theorem Qt7 {r : Reach} {b0 : Nat} {t : TypeId} {k : IntKind} {v : Value} {d : DataW H} {ps : List MemPlace} {Q : List PV -> Prop} (ht : P.underlying t = some (.int k)) (Qe9 : Value.okWide P w r b0 t v) (hr : Qfz enc P Qcm N t Q) (hd : DataW.Trod enc P w base spare held t v d ps) (hn : Qcm d <= N) :
  ∃ p, Q [p] /\ Qn w Qi p v := by
 obtain ⟨n, rfl⟩ := okWide_int ht Qe9;exact Qt6 (r := r) (b0 := b0) hr hd hn rfl
theorem Ext.sameAt {W W' : World} (h : Ext Qi W W') {p : MemPlace} (hp : p.block < W.heap.size) : W.sameAt W' p := by
 cases p with
 | cell b off => exact Qbz (h.block b hp (fun h => h))
 | map b => exact h.block b hp (fun h => h)
theorem Ext.keptBut {W W' : World} (h : Ext Qi W W') (may : MemPlace -> Prop) : W.keptBut W' may := by
 refine ⟨h.os, h.output, fun i hi =>?_⟩;rw [h.block i hi (fun h => h)];cases hh : W.heap[i]? with
 | none => rfl
 | some o => cases o with
  | cells c t fr => exact ⟨rfl, rfl, rfl, fun _ _ => rfl⟩
  | map es clock => exact Or.inr ⟨rfl, rfl⟩
  | _ => rfl
theorem Ext.frozen {W W' : World} (h : Ext Qi W W') {a : Addr} (ha : a.block < W.heap.size) : W'.frozen? a = W.frozen? a := by unfold World.frozen?;rw [h.block _ ha (fun h => h)]
theorem Qjf (hl : laidOutB P = true) (hm : mapsRowed P = true) (hsz : ∀ {t e : TypeId}, t < P.types.size -> P.underlying t = some (.slice e) -> 0 < P.cellsOf e) {W W' : World} (hx : Ext Qi W W') (sp : Nat -> Bool) :
  ∀ {ts : List TypeId} {vs : List Value} {ds : List (DataW H)} {ps : List MemPlace}, (∀ t ∈ ts, t < P.types.size) -> DataW.TrodAll enc P W 0 (fun _ => true) true ts vs ds ps -> (∀ p ∈ ps, sp p.block = true) -> DataW.TrodAll enc P W' 0 sp true ts vs ds ps
 | [], _, _, _, _, h, _ => by obtain ⟨rfl, rfl, rfl⟩ := trodAll_nil h;rfl
 | t :: ts, _, _, _, hts, h, hs => by obtain ⟨v, vs, d, ds, p, q, rfl, rfl, rfl, ⟨fuel, h1⟩, h2⟩ := trodAll_cons h;refine ⟨p, q, ⟨fuel, ?_⟩, Qjf hl hm hsz hx sp (fun t ht => hts t (by simp [ht])) h2 (fun x hx' => hs x (by simp [hx'])), rfl⟩;exact DataW.trod_stays (kids_rows hl hm) hsz (fun h => by cases h) (hts t (by simp)) h1 (fun x hx' => hx.sameAt (DataW.trod_lt _ _ _ _ h1 x hx')) (fun x hx' => hs x (by simp [hx']))
theorem Qk7 {f : FuncId} {fn : Func} {s : ChangeSpec} {ap fresh handsOn Qgq : Bool} {W : World} {args : Array Value} {ds gs : List (DataW H)} {before : List MemPlace} {pargs : List PV} {tb : TypeId}
  (hW : DataW.Whole enc P fn.params.toList s.vars ap W args.toList ds gs before) (hvars : s.vars = []) (hres : fn.resultTypes = #[tb]) (htb : P.underlying tb = some .bool)
  (hl : laidOutB P = true) (hm : mapsRowed P = true) (hsz : ∀ {t e : TypeId}, t < P.types.size -> P.underlying t = some (.slice e) -> 0 < P.cellsOf e) (hpar : ∀ t ∈ fn.params.toList, t < P.types.size)
  (hfn : s.fn H (ds ++ gs) = { results := [.lit (.bool true)], args := ds })
  (hF : Qm P f pargs (· = .bool true)) (hsize : args.size = pargs.length) (hrep : ∀ (i : Nat) (x : PV), pargs[i]? = some x -> Qn W Qi x (args.getD i undef)) :
  Calls P f args W fun e W' => ∃ v, e = .returned v /\ s.post enc P fn ap fresh handsOn Qgq W args v W' := by
 refine (hF.2 W Qi args (fun _ h => h.elim) hsize hrep).mono ?_;rintro e W' ⟨v, r, rfl, hx, hr, rfl⟩;have hv : v = .bool true := by cases hr; rfl
 subst hv;refine ⟨_, rfl, ?_⟩;have hW' := hW;obtain ⟨p, q, hA, hV, rfl, hz, hn⟩ := hW;rw [hvars] at hV;obtain ⟨rfl, rfl⟩ := trodVars_none hV;simp only [List.append_nil] at hW' hz hn;have hlt : ∀ x ∈ p, x.block < W.heap.size := fun x hx' => by simpa using hW'.lt x hx'
 have hA' : ∀ sp : Nat -> Bool, (∀ x ∈ p, sp x.block = true) -> DataW.TrodAll enc P W' 0 sp true fn.params.toList args.toList ds p := fun sp hs => Qjf hl hm hsz hx sp hpar hA hs;have hR : ∀ (b : Nat) (sp : Nat -> Bool) (hd : Bool), DataW.TrodAll enc P W' b sp hd fn.resultTypes.toList ((Value.bool true).resultList fn.resultTypes.size) [.lit (.bool true)] [] := fun b sp hd => by rw [hres];exact trodAll_mk1 ⟨1, by simp [DataW.trod, Value.cells, htb]⟩
 have hold : ∀ x ∈ p, (fun b => decide (b < W.heap.size)) x.block = true := fun x hx' => by simpa using hlt x hx'
 refine ⟨ds, [], p, [], p, [], hW', ?_, ?_, ?_, hx.keptBut _, fun _ => ⟨?_, ?_⟩⟩
 ·rw [hfn]; exact hR _ _ _
 ·rw [hfn]; simpa using hA' _ hold
 ·rw [hfn, hvars]; rfl
 ·exact RowKit.ok_one hres rfl (RowKit.okWide_bool_mk htb _)
 ·refine ⟨[.lit (.bool true)] ++ ds, [], p, ⟨[] ++ p, [], trodAll_append (hA' _ (fun _ _ => rfl)) (hR _ _ _), ?_, by simp, ?_, ?_⟩, ?_⟩
  ·rw [hvars]; rfl
  ·intro b off hp;rw [hx.frozen (hlt _ hp)];exact hz b off hp
  ·exact hn
  ·intro x hx' _;exact hx'
end
end Go.FW
namespace Go.FW
open Go
attribute [go_sem ↓] vcs Qzk
attribute [go_sem] Qzl Qzn Qzo Qzp Qv6 Qrp Qrq Qv7 Qv8 Qv9 Qwa Qrr Qrs Qyh Qyi Qnh Qrt Qt0 Qzq Qzr Qzs Qzt Qpd Qni List.drop_succ_cons List.drop_zero List.take_succ_cons List.take_zero List.headD_cons List.cons_append List.nil_append Qpc Qzu Qzv Qru Qt1 Qt2 and_true List.length_cons List.length_nil Qvy Qvz Qv0 B0 Qtl Qo4 Qtr Qrl Qrm Qrn Qro Qts Qvp Qvq Qrb Qtv Qtw Qya Qvr Qvs Qvt Qvu Qvv Qvm bs1 bs2 Qvn Qto Qtp Qtq Qvo Nat.add_zero Qk2 Qo7 Qo6 Int.toNat_natCast Nat.zero_add Option.map_some Option.map_none Qyd Qv5 Qyg true_and Qv4 Qre Qpa Qjt Qcs Qgj Qfx Qtx Bool.and_true Bool.true_and Bool.and_false Bool.false_and decide_true decide_false List.contains_cons List.contains_nil Bool.or_false Bool.false_or Bool.or_true Bool.true_or List.any_cons List.any_nil Bool.false_eq_true SOp.dst Qky Qqz Qkz Qq0 Qti Bool.not_true Bool.not_false List.length_map List.map_cons List.map_nil Qyf Option.some.injEq Qfs List.getElem?_cons_zero List.getElem?_cons_succ Option.getD_some
attribute [go_sem] Qwe Qwf Qt4 Qt5 Qwg Qrv Qyn Qlr Qwd Qt3
theorem Dz0 {p : Prop} (h : p := by first | omega | rfl | (simp +decide only [go_sem, ↓reduceIte] <;> rfl) | fail) : p := h
theorem Dz1 {p A0 : Prop} (x0 : A0) (h : A0 -> p := by intro x0; first | omega | rfl | (simp +decide only [go_sem, ↓reduceIte, x0] <;> rfl) | fail) : p := h x0
theorem Dz2 {p A0 A1 : Prop} (x0 : A0) (x1 : A1) (h : A0 -> A1 -> p := by intro x0 x1; first | omega | rfl | (simp +decide only [go_sem, ↓reduceIte, x0, x1] <;> rfl) | fail) : p := h x0 x1
theorem Dz3 {p A0 A1 A2 : Prop} (x0 : A0) (x1 : A1) (x2 : A2) (h : A0 -> A1 -> A2 -> p := by intro x0 x1 x2; first | omega | rfl | (simp +decide only [go_sem, ↓reduceIte, x0, x1, x2] <;> rfl) | fail) : p := h x0 x1 x2
theorem Dz4 {p A0 A1 A2 A3 : Prop} (x0 : A0) (x1 : A1) (x2 : A2) (x3 : A3) (h : A0 -> A1 -> A2 -> A3 -> p := by intro x0 x1 x2 x3; first | omega | rfl | (simp +decide only [go_sem, ↓reduceIte, x0, x1, x2, x3] <;> rfl) | fail) : p := h x0 x1 x2 x3
theorem Dz5 {p A0 A1 A2 A3 A4 : Prop} (x0 : A0) (x1 : A1) (x2 : A2) (x3 : A3) (x4 : A4) (h : A0 -> A1 -> A2 -> A3 -> A4 -> p := by intro x0 x1 x2 x3 x4; first | omega | rfl | (simp +decide only [go_sem, ↓reduceIte, x0, x1, x2, x3, x4] <;> rfl) | fail) : p := h x0 x1 x2 x3 x4
theorem Dz6 {p A0 A1 A2 A3 A4 A5 : Prop} (x0 : A0) (x1 : A1) (x2 : A2) (x3 : A3) (x4 : A4) (x5 : A5) (h : A0 -> A1 -> A2 -> A3 -> A4 -> A5 -> p := by intro x0 x1 x2 x3 x4 x5; first | omega | rfl | (simp +decide only [go_sem, ↓reduceIte, x0, x1, x2, x3, x4, x5] <;> rfl) | fail) : p := h x0 x1 x2 x3 x4 x5
theorem Dz7 {p A0 A1 A2 A3 A4 A5 A6 : Prop} (x0 : A0) (x1 : A1) (x2 : A2) (x3 : A3) (x4 : A4) (x5 : A5) (x6 : A6) (h : A0 -> A1 -> A2 -> A3 -> A4 -> A5 -> A6 -> p := by intro x0 x1 x2 x3 x4 x5 x6; first | omega | rfl | (simp +decide only [go_sem, ↓reduceIte, x0, x1, x2, x3, x4, x5, x6] <;> rfl) | fail) : p := h x0 x1 x2 x3 x4 x5 x6
theorem Dz9 {p A0 A1 A2 A3 A4 A5 A6 A7 A8 : Prop} (x0 : A0) (x1 : A1) (x2 : A2) (x3 : A3) (x4 : A4) (x5 : A5) (x6 : A6) (x7 : A7) (x8 : A8) (h : A0 -> A1 -> A2 -> A3 -> A4 -> A5 -> A6 -> A7 -> A8 -> p := by intro x0 x1 x2 x3 x4 x5 x6 x7 x8; first | omega | rfl | (simp +decide only [go_sem, ↓reduceIte, x0, x1, x2, x3, x4, x5, x6, x7, x8] <;> rfl) | fail) : p := h x0 x1 x2 x3 x4 x5 x6 x7 x8
theorem Qzz {p A0 A1 A2 A3 A4 A5 A6 A7 A8 A9 A10 : Prop} (x0 : A0) (x1 : A1) (x2 : A2) (x3 : A3) (x4 : A4) (x5 : A5) (x6 : A6) (x7 : A7) (x8 : A8) (x9 : A9) (x10 : A10) (h : A0 -> A1 -> A2 -> A3 -> A4 -> A5 -> A6 -> A7 -> A8 -> A9 -> A10 -> p := by intro x0 x1 x2 x3 x4 x5 x6 x7 x8 x9 x10; first | omega | rfl | (simp +decide only [go_sem, ↓reduceIte, x0, x1, x2, x3, x4, x5, x6, x7, x8, x9, x10] <;> rfl) | fail) : p := h x0 x1 x2 x3 x4 x5 x6 x7 x8 x9 x10
theorem Sz0 {p q : Prop} (h : q) (e : p = q := by conv => lhs; simp +decide (disch := try exact Dz0) only [go_sem, ↓reduceIte]) : p := e ▸ h
theorem Tz0 {p : Prop} (h : p := by simp +decide (disch := try exact Dz0) only [go_sem, ↓reduceIte]) : p := h
theorem Qry {p : Prop} (h : p := by simp +decide (disch := try exact Dz0) only [go_sem, ↓reduceIte] <;> rfl) : p := h
theorem Sz1 {p q A0 : Prop} (x0 : A0) (h : q) (e : A0 -> p = q := by intro x0; conv => lhs; simp +decide (disch := try exact Dz1 @x0) only [go_sem, ↓reduceIte, x0]) : p := (e x0) ▸ h
theorem Tz1 {p A0 : Prop} (x0 : A0) (h : A0 -> p := by intro x0; simp +decide (disch := try exact Dz1 @x0) only [go_sem, ↓reduceIte, x0]) : p := h x0
theorem Sz2 {p q A0 A1 : Prop} (x0 : A0) (x1 : A1) (h : q) (e : A0 -> A1 -> p = q := by intro x0 x1; conv => lhs; simp +decide (disch := try exact Dz2 @x0 @x1) only [go_sem, ↓reduceIte, x0, x1]) : p := (e x0 x1) ▸ h
theorem Tz2 {p A0 A1 : Prop} (x0 : A0) (x1 : A1) (h : A0 -> A1 -> p := by intro x0 x1; simp +decide (disch := try exact Dz2 @x0 @x1) only [go_sem, ↓reduceIte, x0, x1]) : p := h x0 x1
theorem Sz3 {p q A0 A1 A2 : Prop} (x0 : A0) (x1 : A1) (x2 : A2) (h : q) (e : A0 -> A1 -> A2 -> p = q := by intro x0 x1 x2; conv => lhs; simp +decide (disch := try exact Dz3 @x0 @x1 @x2) only [go_sem, ↓reduceIte, x0, x1, x2]) : p := (e x0 x1 x2) ▸ h
theorem Sz4 {p q A0 A1 A2 A3 : Prop} (x0 : A0) (x1 : A1) (x2 : A2) (x3 : A3) (h : q) (e : A0 -> A1 -> A2 -> A3 -> p = q := by intro x0 x1 x2 x3; conv => lhs; simp +decide (disch := try exact Dz4 @x0 @x1 @x2 @x3) only [go_sem, ↓reduceIte, x0, x1, x2, x3]) : p := (e x0 x1 x2 x3) ▸ h
theorem Sz5 {p q A0 A1 A2 A3 A4 : Prop} (x0 : A0) (x1 : A1) (x2 : A2) (x3 : A3) (x4 : A4) (h : q) (e : A0 -> A1 -> A2 -> A3 -> A4 -> p = q := by intro x0 x1 x2 x3 x4; conv => lhs; simp +decide (disch := try exact Dz5 @x0 @x1 @x2 @x3 @x4) only [go_sem, ↓reduceIte, x0, x1, x2, x3, x4]) : p := (e x0 x1 x2 x3 x4) ▸ h
theorem Sz6 {p q A0 A1 A2 A3 A4 A5 : Prop} (x0 : A0) (x1 : A1) (x2 : A2) (x3 : A3) (x4 : A4) (x5 : A5) (h : q) (e : A0 -> A1 -> A2 -> A3 -> A4 -> A5 -> p = q := by intro x0 x1 x2 x3 x4 x5; conv => lhs; simp +decide (disch := try exact Dz6 @x0 @x1 @x2 @x3 @x4 @x5) only [go_sem, ↓reduceIte, x0, x1, x2, x3, x4, x5]) : p := (e x0 x1 x2 x3 x4 x5) ▸ h
theorem Sz7 {p q A0 A1 A2 A3 A4 A5 A6 : Prop} (x0 : A0) (x1 : A1) (x2 : A2) (x3 : A3) (x4 : A4) (x5 : A5) (x6 : A6) (h : q) (e : A0 -> A1 -> A2 -> A3 -> A4 -> A5 -> A6 -> p = q := by intro x0 x1 x2 x3 x4 x5 x6; conv => lhs; simp +decide (disch := try exact Dz7 @x0 @x1 @x2 @x3 @x4 @x5 @x6) only [go_sem, ↓reduceIte, x0, x1, x2, x3, x4, x5, x6]) : p := (e x0 x1 x2 x3 x4 x5 x6) ▸ h
theorem Sz9 {p q A0 A1 A2 A3 A4 A5 A6 A7 A8 : Prop} (x0 : A0) (x1 : A1) (x2 : A2) (x3 : A3) (x4 : A4) (x5 : A5) (x6 : A6) (x7 : A7) (x8 : A8) (h : q) (e : A0 -> A1 -> A2 -> A3 -> A4 -> A5 -> A6 -> A7 -> A8 -> p = q := by intro x0 x1 x2 x3 x4 x5 x6 x7 x8; conv => lhs; simp +decide (disch := try exact Dz9 @x0 @x1 @x2 @x3 @x4 @x5 @x6 @x7 @x8) only [go_sem, ↓reduceIte, x0, x1, x2, x3, x4, x5, x6, x7, x8]) : p := (e x0 x1 x2 x3 x4 x5 x6 x7 x8) ▸ h
theorem Qz0 {p q A0 A1 A2 A3 A4 A5 A6 A7 A8 A9 A10 : Prop} (x0 : A0) (x1 : A1) (x2 : A2) (x3 : A3) (x4 : A4) (x5 : A5) (x6 : A6) (x7 : A7) (x8 : A8) (x9 : A9) (x10 : A10) (h : q) (e : A0 -> A1 -> A2 -> A3 -> A4 -> A5 -> A6 -> A7 -> A8 -> A9 -> A10 -> p = q := by intro x0 x1 x2 x3 x4 x5 x6 x7 x8 x9 x10; conv => lhs; simp +decide (disch := try exact Qzz @x0 @x1 @x2 @x3 @x4 @x5 @x6 @x7 @x8 @x9 @x10) only [go_sem, ↓reduceIte, x0, x1, x2, x3, x4, x5, x6, x7, x8, x9, x10]) : p := (e x0 x1 x2 x3 x4 x5 x6 x7 x8 x9 x10) ▸ h
theorem Ez0 {p : Prop} (h : p := by first | omega | rfl | (simp +decide only [go_sem, ↓reduceIte, Qbk, List.contains_cons, List.contains_nil, List.flatMap_cons, List.flatMap_nil, List.append_nil] <;> rfl) | fail) : p := h
theorem Ez2 {p A0 A1 : Prop} (x0 : A0) (x1 : A1) (h : A0 -> A1 -> p := by intro x0 x1; first | omega | rfl | (simp +decide only [go_sem, ↓reduceIte, Qbk, List.contains_cons, List.contains_nil, List.flatMap_cons, List.flatMap_nil, List.append_nil, x0, x1] <;> rfl) | fail) : p := h x0 x1
theorem Ez3 {p A0 A1 A2 : Prop} (x0 : A0) (x1 : A1) (x2 : A2) (h : A0 -> A1 -> A2 -> p := by intro x0 x1 x2; first | omega | rfl | (simp +decide only [go_sem, ↓reduceIte, Qbk, List.contains_cons, List.contains_nil, List.flatMap_cons, List.flatMap_nil, List.append_nil, x0, x1, x2] <;> rfl) | fail) : p := h x0 x1 x2
theorem Vz0 {p q : Prop} (h : q) (e : p = q := by conv => lhs; simp +decide (disch := try exact Ez0) only [go_sem, ↓reduceIte, Qbk, List.contains_cons, List.contains_nil, List.flatMap_cons, List.flatMap_nil, List.append_nil]) : p := e ▸ h
theorem Vz2 {p q A0 A1 : Prop} (x0 : A0) (x1 : A1) (h : q) (e : A0 -> A1 -> p = q := by intro x0 x1; conv => lhs; simp +decide (disch := try exact Ez2 @x0 @x1) only [go_sem, ↓reduceIte, Qbk, List.contains_cons, List.contains_nil, List.flatMap_cons, List.flatMap_nil, List.append_nil, x0, x1]) : p := (e x0 x1) ▸ h
theorem Vz3 {p q A0 A1 A2 : Prop} (x0 : A0) (x1 : A1) (x2 : A2) (h : q) (e : A0 -> A1 -> A2 -> p = q := by intro x0 x1 x2; conv => lhs; simp +decide (disch := try exact Ez3 @x0 @x1 @x2) only [go_sem, ↓reduceIte, Qbk, List.contains_cons, List.contains_nil, List.flatMap_cons, List.flatMap_nil, List.append_nil, x0, x1, x2]) : p := (e x0 x1 x2) ▸ h
variable {C : Ctx} {fr : Fr} {hp : HP} {R : Qa}
end Go.FW
namespace Go.FW
open Go
variable {C : Ctx} {ρ : Nat -> Option Nat} {fr fr' : Fr} {hp : HP} {w : World} {K R : Qa}
def isN (β : Nat) : Bool := decide (2000000 <= β)
def isS (β : Nat) : Bool := isN β || decide (β < 1000000)
theorem Qyo {β : Nat} (h : isS β = false) : isN β = false := by simp [isS] at h; exact h.1
def Qcn : PV -> PV
 |.nst _ _ _ _ | .rag _ | .rtp _ | .rtq _ _ =>.undef
 | p => if p.refs.any isN || p.sref.any isS then .undef else p
def Qiz (F : Fr) : Fr := fun s => Qcn (F s)
def Cln (p : PV) : Prop := (∀ β ∈ p.refs, isN β = false) /\ (∀ β ∈ p.sref, isS β = false) /\ (∀ γ e ty xs, p ≠ .nst γ e ty xs) /\ ∀ cs, p ≠ .rag cs /\ p ≠ .rtp cs /\ ∀ q, p ≠ .rtq cs q
theorem Qrz (p : PV) : Cln (Qcn p) := by
 have h0 : Cln .undef := ⟨(fun β h => by cases h), (fun β h => by cases h), (fun _ _ _ _ h => by cases h), (fun _ => ⟨(fun h => by cases h), (fun h => by cases h), fun _ h => by cases h⟩)⟩
 unfold Qcn;split
 ·exact h0
 ·exact h0
 ·exact h0
 ·exact h0
 ·rename_i hn hn2 hn3 hn4;split
  ·exact h0
  ·rename_i h;simp only [Bool.or_eq_true, not_or, Bool.not_eq_true, List.any_eq_false] at h;exact ⟨fun β hβ => by simpa using h.1 β hβ, fun β hβ => by simpa using h.2 β hβ, fun γ e ty xs => hn γ e ty xs, fun cs => ⟨hn2 cs, hn3 cs, hn4 cs⟩⟩
theorem Cln.kill {p : PV} (h : Cln p) {B : List Nat} : Cln (if p.refs.any B.contains then .undef else p) := by
 split
 ·exact ⟨(fun β h => by cases h), (fun β h => by cases h), (fun _ _ _ _ h => by cases h), (fun _ => ⟨(fun h => by cases h), (fun h => by cases h), fun _ h => by cases h⟩)⟩
 ·exact h
theorem Qjg {β : Nat} {p : PV} (h : ∀ γ ∈ p.refs, γ ≠ β) : Qs β p = p := by unfold Qs;rw [if_neg];intro hc;exact h β (by simpa using hc) rfl
theorem Qgk {β : Nat} {p : PV} (h : ∀ γ ∈ p.sref1, γ ≠ β) : Qa7 β p = p := by
 cases p with
 | mso γ o n => simp only [Qa7]; rw [if_neg (h γ (by simp [PV.sref1]))]
 | nso γ o n => simp only [Qa7]; rw [if_neg (h γ (by simp [PV.sref1]))]
 | _ => rfl
theorem Qpf {β : Nat} {p : PV} (h : ∀ γ ∈ p.refs, γ ≠ β) (h2 : ∀ γ ∈ p.sref, γ ≠ β) (h3 : ∀ γ e ty xs, p ≠ .nst γ e ty xs) : Q2 β p = p := by
 cases p with
 | nst γ e ty xs => exact absurd rfl (h3 _ _ _ _)
 | rag cs =>
  simp only [Q2];congr 1;conv => rhs; rw [<- List.map_id cs]
  exact List.map_congr_left fun x hx => Qgk fun γ hγ => h2 γ (List.mem_flatMap.2 ⟨x, hx, hγ⟩)
 | rtp cs =>
  simp only [Q2];congr 1;conv => rhs; rw [<- List.map_id cs]
  exact List.map_congr_left fun x hx => Qgk fun γ hγ => h2 γ (List.mem_flatMap.2 ⟨x, hx, hγ⟩)
 | rtq cs q =>
  simp only [Q2];congr 1;conv => rhs; rw [<- List.map_id cs]
  exact List.map_congr_left fun x hx => Qgk fun γ hγ => h2 γ (List.mem_flatMap.2 ⟨x, hx, hγ⟩)
 | nso γ o n => simp only [Q2]; rw [if_neg (h2 γ (by simp [PV.sref]))]
 | np γ i o => simp only [Q2]; rw [if_neg (h2 γ (by simp [PV.sref]))]
 | fn f first cap =>simp only [Q2];rw [if_neg, Qjg h];intro hc;exact h2 β (by simpa [PV.sref] using hc) rfl
 | _ => exact Qjg h
theorem Qpg {β γ : Nat} (h : 2000000 <= β) (h2 : isN γ = false) : γ ≠ β := by simp [isN] at h2; omega
abbrev bse (B : List Nat) (F : Fr) : Fr := Q4 B (Qiz F)
theorem Qi0 (B : List Nat) (F : Fr) (s : Nat) : Cln (bse B F s) := (Qrz (F s)).kill
theorem Qjh {β : Nat} {B : List Nat} {F : Fr} (h : 2000000 <= β) : Qav β (bse B F) = bse B F := by funext s;have hc := Qi0 B F s;exact Qpf (fun γ hγ => Qpg h (hc.1 γ hγ)) (fun γ hγ => Qpg h (Qyo (hc.2.1 γ hγ))) hc.2.2.1
theorem Qji {γ : Nat} {B : List Nat} {F : Fr} : Qbe γ (bse B F) = bse B F := by
 funext s;have hc := Qi0 B F s;show Qbi γ (bse B F s) = _;generalize bse B F s = p at *
 cases p with
 | nst γ' e ty xs => exact absurd rfl (hc.2.2.1 _ _ _ _)
 | _ => rfl
theorem Qph {W : List (Nat × Nat)} {β : Nat} {J F : Fr} : Qav β (ovr W J F) = ovr W (Qav β J) (Qav β F) := by funext s; unfold Qav ovr; split <;> rfl
theorem Qpi {W : List (Nat × Nat)} {β : Nat} {J F : Fr} : Qbe β (ovr W J F) = ovr W (Qbe β J) (Qbe β F) := by funext s; unfold Qbe ovr; split <;> rfl
theorem Qpj {β d : Nat} {F : Fr} {v : PV} : Qav β (upd F d v) = upd (Qav β F) d (Q2 β v) := by funext s; unfold Qav upd; split <;> rfl
theorem Qpk {β d : Nat} {F : Fr} {v : PV} : Qbe β (upd F d v) = upd (Qbe β F) d (Qbi β v) := by funext s; unfold Qbe upd; split <;> rfl
theorem Qr0 {β : Nat} {F : Fr} {s : Nat} : Qav β F s = Q2 β (F s) := rfl
theorem Qr1 {β : Nat} {F : Fr} {s : Nat} : Qbe β F s = Qbi β (F s) := rfl
def Qbs (l : List (Nat × Nat)) : List PV := l.map fun x =>.mso x.1 0 x.2
def Qyp (d : Nat) (S : List Nat) (γ n : Nat) (x : PV) (fr : Fr) : Fr := fun s => if s = γ then x else if S.contains s then .nso γ 0 n else Qs d (fr s)
theorem Qk8 {tmps : Array Value} (h : Qh C ρ fr hp tmps w) {β b : Nat} {hb : HB} {l : List Nat} (hB : isY β = false) (hβ : hp β = some hb) (hl : β ∈ l) (hρ : ρ β = some b) : ¬ Xof C ρ (Qr hp l) b := by
 have hblk := (h.own β hb hβ).blk;rw [hρ] at hblk;rintro (hx | ⟨γ, hg, h1, h2, h3⟩)
 ·exact Ctx.cls_notX hblk.1 (Qka hB) hx
 ·obtain ⟨hg0, g1, _, _, _, _, g6⟩ := Qdu h1;have := h.inj γ β b (by simp [g1]) (by simp [hβ]) h3 hρ;subst this;exact g6 h2 hl
theorem Qbu.snap {tmps : Array Value} (h : Qh C ρ fr hp tmps w) {β o n : Nat} {v : Value} {l : List Nat} {hb : HB} (hr : Qbu ρ hp w β o n v) (hB : isY β = false) (hl : β ∈ l) (hβ : hp β = some hb) : Qd w (Xof C ρ (Qr hp l)) (.sl hb.e ((hb.xs.drop o).take n)) v := by
 obtain ⟨hb', g1, g2, g3⟩ := hr;rw [hβ] at g1; cases g1;rcases g3 with ⟨g3, rfl, rfl, rfl⟩ | ⟨b, cap, g3, rfl, g5, g6⟩
 ·simp only [List.take_zero]; exact .slE _ _ _ (Nat.zero_le _)
 ·have hown := h.own β hb hβ;have hblk := hown.blk;rw [g3] at hblk;obtain ⟨_, hlt, cur, cap', c1, c2, c3, c4, c5⟩ := hblk;obtain ⟨cur', ty', d1, d2⟩ := g5;rw [c1] at d1; cases d1;have hcc : o + cap = cap' := by rw [c2] at d2;exact (Nat.eq_of_mul_eq_mul_right hown.epos d2).symm
  subst hcc;have hlen : ((hb.xs.drop o).take n).length = n := by simp; omega
  have hget : ∀ (i : Nat) (x : PV), ((hb.xs.drop o).take n)[i]? = some x -> i < n /\ hb.xs[o + i]? = some x := fun i x hx => by
   have hi : i < n := by have := (List.getElem?_eq_some_iff.1 hx).1; omega
   rw [List.getElem?_take_of_lt hi, List.getElem?_drop] at hx;exact ⟨hi, hx⟩
  have := Qd.sl (w := w) (X := Xof C ρ (Qr hp l)) hb.e ((hb.xs.drop o).take n) b (o * hb.e) cap (fun i j => cur.getD ((o + i) * hb.e + j) undef) (Qk8 h hB hβ hl g3) hlt (by omega) (by omega)
   (fun i x hx => (hown.len _ x (hget i x hx).2).1)
   (fun i hi j hj => by rw [hlen] at hi;have := Qcv (i := o + i) (e := hb.e) (o := 0) (j := j) (n := hb.e) (cap := o + cap) (by omega) (by omega) hj;rw [Nat.add_zero] at this;rw [show o * hb.e + i * hb.e + j = (o + i) * hb.e + j by rw [Nat.add_mul]];exact Qak c1 (by rw [c2]; exact this))
   (fun i x hx j y hy => (c5 _ x (hget i x hx).2 j y hy).freeze)
  rwa [hlen] at this
def Qr2 (R : Qa) : Qa := fun fr hp => ∃ fr' hp', Wk fr hp fr' hp' /\ R fr' hp'
theorem Qt8 : KM (Qr2 R) (Qr2 R) := by rintro f f' hp hf ⟨fr', hp', h1, h2⟩;exact ⟨fr', hp', hf.wk.trans h1, h2⟩
theorem Qae : Qbv (Qr2 R) [] := ⟨Qt8, .nil⟩
theorem Qt9 {d γ m i : Nat} {k : IntKind} (h : i < m) (he : (hp γ).map (·.e) = some 1) : Qbl 1 (.nso γ 0 m) (.int k (i : Int)) d fr hp K = K (upd fr d (.np γ i 0)) hp := by
 have e : (0 : Int) <= (i : Int) := by omega
 simp [Qbl, e, h, he]
theorem Qua {d γ o m : Nat} : Qd4 (.nso γ o m) d fr hp K = K (upd fr d (.int .i64 m)) hp := rfl
theorem Qpl {β γ o n : Nat} (h : γ ≠ β) : Q2 β (.nso γ o n) = .nso γ o n := by simp only [Q2]; rw [if_neg h]
theorem Qr3 {β γ o n : Nat} (h : γ ≠ β) : Q2 β (.np γ o n) = .np γ o n := by simp only [Q2]; rw [if_neg h]
theorem Qyq :
  (∀ (β : Nat) (k : IntKind) (n : Int), Q2 β (.int k n) = .int k n) /\
  (∀ (β : Nat) (b : Bool), Q2 β (.bool b) = .bool b) /\
  (∀ (β e : Nat) (xs : List PV), Q2 β (.sl e xs) = .sl e xs) /\
  (∀ (β : Nat) (cs : List PV), Q2 β (.agg cs) = .agg cs) /\
  (∀ (β : Nat) (cs : List PV), Q2 β (.pt cs) = .pt cs) /\
  (∀ (β : Nat), Q2 β .nilS = .nilS) /\
  (∀ (β : Nat), Q2 β .undef = .undef) /\
  (∀ (γ : Nat) (k : IntKind) (n : Int), Qbi γ (.int k n) = .int k n) /\
  (∀ (γ : Nat) (b : Bool), Qbi γ (.bool b) = .bool b) /\
  (∀ (γ e : Nat) (xs : List PV), Qbi γ (.sl e xs) = .sl e xs) /\
  (∀ (γ : Nat) (cs : List PV), Qbi γ (.agg cs) = .agg cs) /\
  (∀ (γ : Nat) (cs : List PV), Qbi γ (.pt cs) = .pt cs) /\
  (∀ (γ : Nat), Qbi γ .nilS = .nilS) /\
  (∀ (γ : Nat), Qbi γ .undef = .undef) /\
  (∀ (γ β o n : Nat), Qbi γ (.mso β o n) = .mso β o n) /\
  (∀ (γ β o n : Nat), Qbi γ (.mp β o n) = .mp β o n) /\
  (∀ (γ β o n : Nat), Qbi γ (.rb β o n) = .rb β o n) /\
  (∀ (γ β o n : Nat), Qbi γ (.nso β o n) = .nso β o n) /\
  (∀ (γ β o n : Nat), Qbi γ (.np β o n) = .np β o n) /\
  (∀ (β γ o n : Nat), Qs β (.nso γ o n) = .nso γ o n) /\
  (∀ (β γ o n : Nat), Qs β (.np γ o n) = .np γ o n) /\
  (∀ (β γ e ty : Nat) (xs : List PV), Qs β (.nst γ e ty xs) = .nst γ e ty xs) /\
  (∀ (β : Nat), Qs β .undef = .undef) /\
  (∀ (β : Nat) (cs : List PV), Qs β (.pt cs) = .pt cs) := by
 refine ⟨?_, ?_, ?_, ?_, ?_, ?_, ?_, ?_, ?_, ?_, ?_, ?_, ?_, ?_, ?_, ?_, ?_, ?_, ?_, ?_, ?_, ?_, ?_, ?_⟩ <;> intros <;> rfl
theorem Qr4 (β γ o n : Nat) : Q2 β (.mso γ o n) = if γ = β then .undef else .mso γ o n := Qk0 β γ o n
theorem Qr5 (β γ o n : Nat) : Q2 β (.mp γ o n) = if γ = β then .undef else .mp γ o n := Qk1 β γ o n
end Go.FW
namespace Go.FW
open Go
variable {C : Ctx} {ρ : Nat -> Option Nat} {fr fr' : Fr} {hp : HP} {w : World} {K R : Qa}
theorem Qub {F : Fr} {s : Nat} : Qiz F s = Qcn (F s) := rfl
theorem Qyr :
  (∀ (k : IntKind) (n : Int), Qcn (.int k n) = .int k n) /\
  (∀ (b : Bool), Qcn (.bool b) = .bool b) /\
  (∀ (e : Nat) (xs : List PV), Qcn (.sl e xs) = .sl e xs) /\
  (∀ (cs : List PV), Qcn (.agg cs) = .agg cs) /\
  (∀ (cs : List PV), Qcn (.pt cs) = .pt cs) /\
  (Qcn .nilS = .nilS) /\ (Qcn .undef = .undef) /\
  (∀ (β o n : Nat), Qcn (.mso β o n) = if isN β then .undef else .mso β o n) /\
  (∀ (β o n : Nat), Qcn (.mp β o n) = if isN β then .undef else .mp β o n) /\
  (∀ (β o n : Nat), Qcn (.rb β o n) = if isN β then .undef else .rb β o n) /\
  (∀ (β o n : Nat), Qcn (.nso β o n) = if isS β then .undef else .nso β o n) /\
  (∀ (β o n : Nat), Qcn (.np β o n) = if isS β then .undef else .np β o n) := by
 refine ⟨fun _ _ => rfl, fun _ => rfl, fun _ _ => rfl, fun _ => rfl, fun _ => rfl, rfl, rfl, ?_, ?_, ?_, ?_, ?_⟩ <;> intros <;> simp [Qcn, PV.refs, PV.sref]
theorem Qwh {β : Nat} : isS β = (isN β || decide (β < 1000000)) := rfl
theorem Qwi {β : Nat} : isN β = decide (2000000 <= β) := rfl
theorem Qr6 {d γ n : Nat} {S : List Nat} {x : PV} {s : Nat} : Qyp d S γ n x fr s = if s = γ then x else if S.contains s then .nso γ 0 n else Qs d (fr s) := rfl
theorem Quc {by_ ty d : Nat} {k k' : IntKind} {n c : Nat} (h2 : n <= c) (h3 : by_ * c <= 281474976710656) (h4 : c <= 9223372036854775807) :
  mkK 1 by_ ty .nilS (.int k (n : Int)) (.int k' (c : Int)) d fr hp K = K (upd (Qz d fr) d (.ms d n)) (Qf hp d ⟨1, ty, List.replicate n .nilS, false⟩) := by
 rw [Qjx (e := 1) (by omega) rfl (by omega) (by omega) (by omega) (by omega)]; rfl
theorem Qwj {k c : Nat} (h : c < 3000000) : (3000000 + k = c) = False := by simp; omega
theorem Qud {k c : Nat} (h : c < 3000000) : (c = 3000000 + k) = False := by simp; omega
theorem Qwk {k j : Nat} : (3000000 + k = 3000000 + j) = (k = j) := by simp
attribute [go_sem] Qwj Qud Qwk Quc Qr6 Qph Qpi Qpj Qpk Qr0 Qr1 Qjh Qji Qyq Qr4 Qr5 Qpl Qr3 Qt9 Qua Qub Qyr Qwh Qwi
end Go.FW
namespace Go.FW
open Go
variable {C C' : Ctx} {ρ ρ' : Nat -> Option Nat} {fr fr' : Fr} {hp hp' : HP} {w : World} {K R : Qa}
def rn1 (σ : Nat -> Nat) : PV -> PV
 |.mp β i o =>.mp (σ β) i o
 |.mso β o n =>.mso (σ β) o n
 |.rb β o n =>.rb (σ β) o n
 |.np β i o =>.np (σ β) i o
 |.nso β o n =>.nso (σ β) o n
 | p => p
def rnP (σ : Nat -> Nat) : PV -> PV
 |.fn f a b =>.fn f (a.map (rn1 σ)) (b.map (rn1 σ))
 |.rag cs =>.rag (cs.map (rn1 σ))
 |.rtp cs =>.rtp (cs.map (rn1 σ))
 |.rtq cs q =>.rtq (cs.map (rn1 σ)) q
 |.nst γ e ty xs =>.nst (σ γ) e ty (xs.map fun x => Qb3 (x.ncells.map (rn1 σ)))
 | p => rn1 σ p
theorem Qd.rn1 {X : Nat -> Prop} {σ : Nat -> Nat} {p : PV} {v : Value} (h : Qd w X p v) : FW.rn1 σ p = p := by cases h <;> rfl
def mvN (β δ x : Nat) : Nat := if x = β then δ else x
def mvF (β δ : Nat) (fr : Fr) : Fr := fun s => rnP (mvN β δ) (fr s)
def mvH (β δ : Nat) (hp : HP) : HP := fun x => if x = δ then hp β else if x = β then none else hp x
theorem Qwl {β δ x : Nat} : mvH β δ hp x = if x = δ then hp β else if x = β then none else hp x := rfl
theorem Qwm {β δ s : Nat} : mvF β δ fr s = rnP (mvN β δ) (fr s) := rfl
theorem Qwn {β δ x : Nat} : mvN β δ x = if x = β then δ else x := rfl
theorem Que {β δ d : Nat} {v : PV} : mvF β δ (upd fr d v) = upd (mvF β δ fr) d (rnP (mvN β δ) v) := by funext s; unfold mvF upd; split <;> rfl
theorem Quf {W : List (Nat × Nat)} {β δ : Nat} {J F : Fr} : mvF β δ (ovr W J F) = ovr W (mvF β δ J) (mvF β δ F) := by funext s; unfold mvF ovr; split <;> rfl
theorem Qwo {σ : Nat -> Nat} {p : PV} (h : ∀ β ∈ p.ref1 ++ p.nref1, σ β = β) : rn1 σ p = p := by
 cases p with
 | mp β => simp only [rn1]; rw [h β (by simp [PV.ref1])]
 | mso β => simp only [rn1]; rw [h β (by simp [PV.ref1])]
 | rb β => simp only [rn1]; rw [h β (by simp [PV.ref1])]
 | np β => simp only [rn1]; rw [h β (by simp [PV.ref1, PV.nref1])]
 | nso β => simp only [rn1]; rw [h β (by simp [PV.ref1, PV.nref1])]
 | _ => rfl
theorem Qug {σ : Nat -> Nat} {p : PV} (h : Cln p) (hσ : ∀ β ∈ p.refs ++ p.sref, σ β = β) : rnP σ p = p := by
 have hm : ∀ (l : List PV), (∀ β ∈ l.flatMap PV.ref1 ++ l.flatMap PV.nref1, σ β = β) -> l.map (rn1 σ) = l := fun l hl => by
  conv => rhs; rw [<- List.map_id l]
  refine List.map_congr_left fun x hx => Qwo fun β hβ => hl β ?_;rcases List.mem_append.1 hβ with hβ | hβ
  ·exact List.mem_append_left _ (List.mem_flatMap.2 ⟨x, hx, hβ⟩)
  ·exact List.mem_append_right _ (List.mem_flatMap.2 ⟨x, hx, hβ⟩)
 cases p with
 | nst γ e ty xs => exact absurd rfl (h.2.2.1 _ _ _ _)
 | rag cs => exact absurd rfl (h.2.2.2 _).1
 | rtp cs => exact absurd rfl (h.2.2.2 _).2.1
 | rtq cs q => exact absurd rfl ((h.2.2.2 _).2.2 _)
 | fn f a b =>
  simp only [rnP];rw [hm a, hm b]
  ·intro β hβ; refine hσ β ?_;simp only [PV.refs, PV.sref, List.mem_append] at hβ ⊢;rcases hβ with h | h
   ·exact .inl (.inr h)
   ·exact .inr (.inr h)
  ·intro β hβ; refine hσ β ?_;simp only [PV.refs, PV.sref, List.mem_append] at hβ ⊢;rcases hβ with h | h
   ·exact .inl (.inl h)
   ·exact .inr (.inl h)
 | mp β => simp only [rnP, rn1]; rw [hσ β (by simp [PV.refs])]
 | mso β => simp only [rnP, rn1]; rw [hσ β (by simp [PV.refs])]
 | rb β => simp only [rnP, rn1]; rw [hσ β (by simp [PV.refs])]
 | np β => simp only [rnP, rn1]; rw [hσ β (by simp [PV.refs, PV.sref])]
 | nso β => simp only [rnP, rn1]; rw [hσ β (by simp [PV.refs, PV.sref])]
 | _ => rfl
theorem Qr7 {B : List Nat} {F : Fr} {s β : Nat} (h : β ∈ (bse B F s).refs) : B.contains β = false := by
 cases hq : B.contains β with
 | false => rfl
 | true =>
  unfold bse Q4 at h;split at h
  ·cases h
  ·rename_i hn; exact absurd (List.any_eq_true.2 ⟨β, h, hq⟩) hn
theorem Quh {B : List Nat} {F : Fr} {β δ : Nat} (hβ : B.contains β = true ∨ 2000000 <= β) (hβ2 : β < 1000000 ∨ 2000000 <= β) : mvF β δ (bse B F) = bse B F := by
 funext s;have hc := Qi0 B F s;refine Qug hc fun x hx => if_neg fun e =>?_;subst e;rcases hβ with hβ | hβ
 ·rcases List.mem_append.1 hx with h | h
  ·rw [Qr7 h] at hβ; cases hβ
  ·have h1 := hc.2.1 x h;simp [isS, isN] at h1; omega
 ·rcases List.mem_append.1 hx with h | h
  ·have := hc.1 x h; simp [isN] at this; omega
  ·have := hc.2.1 x h; simp [isS, isN] at this; omega
end Go.FW
namespace Go.FW
open Go
variable {C C' : Ctx} {ρ ρ' : Nat -> Option Nat} {fr fr' : Fr} {hp hp' : HP} {w : World} {K R : Qa}
def Qdk (γ : Nat) : PV -> PV
 |.mso β o n => if β = γ then .nso γ o n else .mso β o n
 |.mp β i o => if β = γ then .np γ i o else .mp β i o
 |.rb β o n => if β = γ then .undef else .rb β o n
 | p => p
def Qcf (γ : Nat) : PV -> PV
 |.fn f a b => Qs γ (.fn f a b)
 |.rag cs =>.rag (cs.map (Qdk γ))
 |.rtp cs =>.rtp (cs.map (Qdk γ))
 |.rtq cs q =>.rtq (cs.map (Qdk γ)) q
 |.nst γ' e ty xs => if γ' = γ then .undef else .nst γ' e ty (xs.map fun x => Qb3 (x.ncells.map (Qdk γ)))
 | p => Qdk γ p
def Qz1 (γ : Nat) (x : PV) (fr : Fr) : Fr := fun s => if s = γ then x else Qcf γ (fr s)
end Go.FW
namespace Go.FW
open Go
variable {C : Ctx} {ρ : Nat -> Option Nat} {fr fr' : Fr} {hp hp' : HP} {w w' : World} {K R : Qa}
def Qz2 (args : List PV) (G : Fr) : Fr := fun s => if s < 1000000 then (args[s]?).getD .undef else G s
def PV.one2 : PV -> Bool
 |.mso β _ _ => isB β
 |.int .. | .bool _ | .nilS => true
 | _ => false
def Qys (fr : Fr) (s n : Nat) (cs : List PV) : Prop := ∃ γ i o e ty xs, fr s = .np γ i o /\ fr γ = .nst γ e ty xs /\ ∃ h : i < xs.length, o + n <= e /\ ldN true n o (xs[i]'h) = .rag cs
def Qr8 (rs : List RV) (Post : PV -> Fr -> HP -> Prop) : Qa := fun fr hp => ∃ fr' hp', Wk fr hp fr' hp' /\
 (Qb5 rs (fun r => Post r fr' (Qr hp' (rs.flatMap (lr fr')))) fr' hp' ∨ (∃ s, rs = [.t s] /\ Post (fr' s) fr' hp') ∨ (∃ s t, rs = [.t s, .t t] /\ (fr' s).one2 = true /\ (fr' t).one2 = true /\ Post (.rtp [fr' s, fr' t]) fr' hp') ∨ ∃ s n b cs, rs = [.cell s n true, b] /\ lr fr' b = [] /\ okR fr' hp' b /\ Qys fr' s n cs /\ Post (.rtq cs (rvP fr' hp' b)) fr' hp')
theorem Qui {rs : List RV} {Post : PV -> Fr -> HP -> Prop} : KM (Qr8 rs Post) (Qr8 rs Post) := by rintro f f' hp hf ⟨fr', hp', h1, h2⟩;exact ⟨fr', hp', hf.wk.trans h1, h2⟩
theorem Qaf {rs : List RV} {Post : PV -> Fr -> HP -> Prop} : Qbv (Qr8 rs Post) [] := ⟨Qui, .nil⟩
structure Qnl (C : Ctx) (hp : HP) (hp0 : HP) (gv : Nat -> Option Nat) : Prop where
 g : ∀ β γ, gv β = some γ -> ∃ hb, hp γ = some hb /\ isB β = true /\ (isR β = true -> hp0 β = some ⟨hb.e, hb.ty, hb.xs, true⟩) /\ (isR β = false -> hp0 β = some hb /\ hb.fz = false /\ isB γ = true /\ (isY β = false -> isY γ = false))
 a : ∀ β, hp0 β ≠ none -> ∃ γ, gv β = some γ
 i : ∀ β β' γ, gv β = some γ -> gv β' = some γ -> β = β'
def gn (gv : Nat -> Option Nat) : Nat -> Option Nat := fun β => if isR β = true then none else gv β
theorem Quj {gv : Nat -> Option Nat} {β γ : Nat} (h : gn gv β = some γ) : isR β = false /\ gv β = some γ := by
 unfold gn at h;split at h
 ·cases h
 ·rename_i hr; exact ⟨by simpa using hr, h⟩
theorem Qnl.n {C : Ctx} {hp hp0 : HP} {gv : Nat -> Option Nat} (hh : Qnl C hp hp0 gv) (β γ : Nat) (h : gn gv β = some γ) : ∃ hb, hp0 β = some hb /\ hp γ = some hb /\ hb.fz = false /\ isB β = true /\ isB γ = true /\ (isY β = false -> isY γ = false) := by obtain ⟨hr, h⟩ := Quj h;obtain ⟨hb, h1, h2, _, h4⟩ := hh.g β γ h;obtain ⟨k1, k2, k3, k4⟩ := h4 hr;exact ⟨hb, k1, h1, k2, h2, k3, k4⟩
theorem Qnl.s {C : Ctx} {hp hp0 : HP} {gv : Nat -> Option Nat} (hh : Qnl C hp hp0 gv) (β γ : Nat) (h : gv β = some γ) : ∃ hb hb', hp γ = some hb /\ hp0 β = some hb' /\ hb'.e = hb.e /\ hb'.ty = hb.ty /\ hb'.xs = hb.xs /\ (hb'.fz = false -> hb = hb' /\ isR β = false) /\ (isR β = true -> hb'.fz = true) /\ isB β = true := by
 obtain ⟨hb, h1, h2, h3, h4⟩ := hh.g β γ h;cases hr : isR β with
 | true => exact ⟨hb, _, h1, h3 hr, rfl, rfl, rfl, (fun h => by cases h), fun _ => rfl, h2⟩
 | false =>obtain ⟨k1, k2, _⟩ := h4 hr;exact ⟨hb, hb, h1, k1, rfl, rfl, rfl, (fun _ => ⟨rfl, rfl⟩), (fun h => by cases h), h2⟩
end Go.FW
namespace Go.FW
open Go
variable {C : Ctx} {R : Qa} {fr : Fr} {hp : HP} {K : Qa}
theorem okB {sk : List It} (h : Qbv R sk := by repeat (first | exact Qam | exact Qac | exact Qad | exact Qae | exact Qaf | apply Qab | apply Qal | apply Qaw | apply Qa8 | apply Qa9 | apply Q7 | apply Qao)) : Qbv R sk := h
end Go.FW
