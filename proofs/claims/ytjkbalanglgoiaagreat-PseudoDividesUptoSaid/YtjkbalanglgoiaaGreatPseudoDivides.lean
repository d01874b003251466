/- PseudoDivides: Divide is that of the specification, or the error, for small polynomials and any variable; no conditions. -/
import Derived.Test.YtjkbalanglgoiaaGreatPseudoDividesPart12
set_option linter.unusedSimpArgs false
set_option linter.unnecessarySimpa false
set_option linter.unusedVariables false
namespace Go.Proofs.YtjkbalanglgoiaaGreat
open Go Go.FW
set_option linter.unusedSimpArgs false
set_option linter.unusedVariables false
set_option maxRecDepth 100000
theorem Qtf {f g : List Tm} {v : Int} (h : v < 0 ∨ 64 ≤ v) : Qe Tryz.prog 29 [PV.poly f, PV.poly g, .int .i64 v] (· = .tup [PV.poly [], PV.poly [], .int .i64 0, .int .i64 2]) := by
  refine Qg Ql Tryz.func29 rfl Qvc (by simp [c29]) fun C hP => ?_; simp only [c29]
  simp +decide (disch := first | omega | rfl | (simp +decide only [go_sem, ↓reduceIte] <;> rfl) | fail) only [go_sem, ↓reduceIte, Qv, Qad]
  refine Q2 (fun h1 => ?_) (fun h1 => ?_)
  · simp +decide (disch := first | omega | rfl | (simp +decide only [go_sem, ↓reduceIte] <;> rfl) | fail) only [go_sem, ↓reduceIte, Qv, Qad]
    exact Qgk rfl rfl rfl rfl rfl Qa7 Qa7 (Qn _) (Qn _)
  simp +decide (disch := first | omega | rfl | (simp +decide only [go_sem, ↓reduceIte] <;> rfl) | fail) only [go_sem, ↓reduceIte, Qv, Qad]
  refine Qb (fun h2 => ?_) (fun h2 => by omega)
  simp +decide (disch := first | omega | rfl | (simp +decide only [go_sem, ↓reduceIte] <;> rfl) | fail) only [go_sem, ↓reduceIte, Qv, Qad]
  exact Qgk rfl rfl rfl rfl rfl Qa7 Qa7 (Qn _) (Qn _)
theorem Qry {f : List Tm} {v : Nat} (hv : v < 64) : Qe Tryz.prog 29 [PV.poly f, PV.poly [], .int .i64 v] (· = .tup [PV.poly [], PV.poly [], .int .i64 0, .int .i64 3]) := by
  refine Qg Ql Tryz.func29 rfl Qvc (by simp [c29]) fun C hP => ?_; simp only [c29]
  simp +decide (disch := first | omega | rfl | (simp +decide only [go_sem, ↓reduceIte] <;> rfl) | fail) only [go_sem, ↓reduceIte, Qv, Qad]
  refine Q2 (fun h1 => by omega) (fun _ => ?_)
  simp +decide (disch := first | omega | rfl | (simp +decide only [go_sem, ↓reduceIte] <;> rfl) | fail) only [go_sem, ↓reduceIte, Qv, Qad]
  refine Qb (fun h2 => by omega) (fun _ => ?_)
  simp +decide (disch := first | omega | rfl | (simp +decide only [go_sem, ↓reduceIte] <;> rfl) | fail) only [go_sem, ↓reduceIte, Qv, Qad]
  exact Qgk rfl rfl rfl rfl rfl Qa7 Qa7 (Qn _) (Qn _)
theorem Qtg {f g : List Tm} {v : Int} (h : v < 0 ∨ 64 ≤ v) : Qe Tryz.prog 30 [PV.poly f, PV.poly g, .int .i64 v] (· = .tup [PV.poly [], PV.poly [], .int .i64 0, .int .i64 2]) := by
  refine Qg Ql Tryz.func30 rfl Qvd (by simp [c30]) fun C hP => ?_; simp only [c30]
  simp +decide (disch := first | omega | rfl | (simp +decide only [go_sem, ↓reduceIte] <;> rfl) | fail) only [go_sem, ↓reduceIte, Qv, Qad]
  refine Q2 (fun h1 => ?_) (fun h1 => ?_)
  · simp +decide (disch := first | omega | rfl | (simp +decide only [go_sem, ↓reduceIte] <;> rfl) | fail) only [go_sem, ↓reduceIte, Qv, Qad]
    exact Qgk rfl rfl rfl rfl rfl Qa7 Qa7 (Qn _) (Qn _)
  simp +decide (disch := first | omega | rfl | (simp +decide only [go_sem, ↓reduceIte] <;> rfl) | fail) only [go_sem, ↓reduceIte, Qv, Qad]
  refine Qb (fun h2 => ?_) (fun h2 => by omega)
  simp +decide (disch := first | omega | rfl | (simp +decide only [go_sem, ↓reduceIte] <;> rfl) | fail) only [go_sem, ↓reduceIte, Qv, Qad]
  exact Qgk rfl rfl rfl rfl rfl Qa7 Qa7 (Qn _) (Qn _)
theorem Qrz {f : List Tm} {v : Nat} (hv : v < 64) : Qe Tryz.prog 30 [PV.poly f, PV.poly [], .int .i64 v] (· = .tup [PV.poly [], PV.poly [], .int .i64 0, .int .i64 3]) := by
  refine Qg Ql Tryz.func30 rfl Qvd (by simp [c30]) fun C hP => ?_; simp only [c30]
  simp +decide (disch := first | omega | rfl | (simp +decide only [go_sem, ↓reduceIte] <;> rfl) | fail) only [go_sem, ↓reduceIte, Qv, Qad]
  refine Q2 (fun h1 => by omega) (fun _ => ?_)
  simp +decide (disch := first | omega | rfl | (simp +decide only [go_sem, ↓reduceIte] <;> rfl) | fail) only [go_sem, ↓reduceIte, Qv, Qad]
  refine Qb (fun h2 => by omega) (fun _ => ?_)
  simp +decide (disch := first | omega | rfl | (simp +decide only [go_sem, ↓reduceIte] <;> rfl) | fail) only [go_sem, ↓reduceIte, Qv, Qad]
  exact Qgk rfl rfl rfl rfl rfl Qa7 Qa7 (Qn _) (Qn _)
theorem Qqz {f g : List Tm} {v d : Nat} (nf : Nrm f) (ng : Nrm g) (bf : PB 5 4 f) (bg : PB 5 4 g) (lf : f.length ≤ 5) (lg : g.length ≤ 5) (hv : v < 64) (hg0 : g ≠ []) (hd : Qaj g v = d) :
    Qe Tryz.prog 29 [PV.poly f, PV.poly g, .int .i64 v] (· = Qcy g v d 5 [] f 0) := by
  have hN : Qaj f v < (5 : Nat) := Qrp (fun t ht => by have := (bf t ht).m.eN v; omega) (by omega)
  refine Qru (K := 118882) (E := 972) (M := 5) nf ng (bg.mono (by omega) (by omega)) hv hg0 hd hN (Qm4 bf (by omega) (by omega)) (fun k hk => ?_) lg (by omega) (by omega) (by omega) (by omega) (by omega) (by omega) (by omega)
  obtain ⟨_, h1, h2, _, _⟩ := Ql7 (d := d) bf bg lf lg hv k
  obtain ⟨h3, h4, _, h5⟩ := d5 (k := k) (by omega)
  exact ⟨h1.mono (h5 hk) h4, h2.mono (h5 hk) h4⟩
theorem Qq0 {f g : List Tm} {v d : Nat} (nf : Nrm f) (ng : Nrm g) (bf : PB 5 4 f) (bg : PB 5 4 g) (lf : f.length ≤ 5) (lg : g.length ≤ 5) (hv : v < 64) (hg0 : g ≠ []) (hd : Qaj g v = d) :
    Qe Tryz.prog 30 [PV.poly f, PV.poly g, .int .i64 v] (· = Qcy g v d 5 [] f 0) := by
  have hN : Qaj f v < (5 : Nat) := Qrp (fun t ht => by have := (bf t ht).m.eN v; omega) (by omega)
  refine Qrv (K := 118882) (E := 972) (M := 5) nf ng (bg.mono (by omega) (by omega)) hv hg0 hd hN (Qm4 bf (by omega) (by omega)) (fun k hk => ?_) lg (by omega) (by omega) (by omega) (by omega) (by omega) (by omega) (by omega) (by omega)
  obtain ⟨_, h1, h2, _, _⟩ := Ql7 (d := d) bf bg lf lg hv k
  obtain ⟨h3, h4, _, h5⟩ := d5 (k := k) (by omega)
  exact ⟨h1.mono (h5 hk) h4, h2.mono (h5 hk) h4⟩
theorem Qwl {f g : List Tm} {v : Int} (nf : Nrm f) (ng : Nrm g) (bf : PB 5 4 f) (bg : PB 5 4 g) (lf : f.length ≤ 5) (lg : g.length ≤ 5) : ∃ (q r : List Tm) (k e : Int),
    Qe Tryz.prog 29 [PV.poly f, PV.poly g, .int .i64 v] (· = .tup [PV.poly q, PV.poly r, .int .i64 k, .int .i64 e]) ∧
    Qe Tryz.prog 30 [PV.poly f, PV.poly g, .int .i64 v] (· = .tup [PV.poly q, PV.poly r, .int .i64 k, .int .i64 e]) ∧
    PB 1188882 972 q ∧ PB 1188882 972 r ∧ q.length ≤ 500000 ∧ r.length ≤ 500000 := by
  by_cases hv : v < 0 ∨ 64 ≤ v
  · exact ⟨[], [], 0, 2, Qtf hv, Qtg hv, PB.nil _ _, PB.nil _ _, by simp, by simp⟩
  obtain ⟨n, rfl⟩ : ∃ n : Nat, v = n := ⟨v.toNat, by omega⟩
  have hn : n < 64 := by omega
  by_cases hg : g = []
  · subst hg
    exact ⟨[], [], 0, 3, Qry hn, Qrz hn, PB.nil _ _, PB.nil _ _, by simp, by simp⟩
  have hd0 := (Qg7 bg hg n).1
  obtain ⟨d, hd⟩ : ∃ d : Nat, Qaj g n = d := ⟨(Qaj g n).toNat, by omega⟩
  have h1 := Qqz nf ng bf bg lf lg hn hg hd
  have h2 := Qq0 nf ng bf bg lf lg hn hg hd
  rcases Qsu (g := g) (v := n) (d := d) (f := f) 5 0 with e | ⟨j, _, hj, _, e⟩
  · rw [show Qcy g n d 5 [] f 0 = _ from e] at h1 h2
    exact ⟨[], [], 0, 4, h1, h2, PB.nil _ _, PB.nil _ _, by simp, by simp⟩
  · rw [show Qcy g n d 5 [] f 0 = _ from e] at h1 h2
    obtain ⟨_, b1, b2, l1, l2⟩ := Ql7 (d := d) bf bg lf lg hn j
    obtain ⟨h3, h4, h5, _⟩ := d5 (k := j) (by omega)
    exact ⟨_, _, j, 0, h1, h2, b1.mono h3 h4, b2.mono h3 h4, by omega, by omega⟩
theorem Q8w {p q : List RTm} {k : Nat} (hb : ∀ t ∈ p, RB k t) (hb2 : ∀ t ∈ q, RB k t) (hk1 : 1 ≤ k) (hk : k < 2 ^ 36) (hl : p.length < 2 ^ 40) (hl2 : q.length < 2 ^ 40) :
    Qe Tryz.prog 17 [.sl 1 [PV.rpoly p, PV.rpoly q]] (· = .bool (Qd1 5 4 4 p && Qd1 5 4 4 q)) := by
  have := Q1p (ls := [p, q]) (k := k) (by simp; exact ⟨⟨hb, hl⟩, hb2, hl2⟩) hk1 hk (by simp)
  simpa using this
theorem Qnh {p q : List RTm} {v : Int} {k : Nat} (hb : ∀ t ∈ p, RB k t) (hb2 : ∀ t ∈ q, RB k t) (hk1 : 1 ≤ k) (hk : k < 2 ^ 36) (hl : p.length < 2 ^ 40) (hl2 : q.length < 2 ^ 40) :
    Qe Tryz.prog 6 [PV.rpoly p, PV.rpoly q, .int .i64 v] (· = .bool true) := by
  refine Qg Ql Tryz.func6 rfl Qacu (by simp [c6]) fun C hP => ?_; simp only [c6]
  simp +decide (disch := first | omega | rfl | (simp +decide only [go_sem, ↓reduceIte] <;> rfl) | fail) only [go_sem, ↓reduceIte, Qv, Qad]
  refine Qbg hP (Q8w hb hb2 hk1 hk hl hl2) (by simp +decide (disch := first | omega | rfl | (simp +decide only [go_sem, ↓reduceIte, Qd, List.contains_cons, List.contains_nil, List.flatMap_cons, List.flatMap_nil, List.append_nil] <;> rfl) | fail) only [go_sem, ↓reduceIte, Qv, Qad, Qd, List.contains_cons, List.contains_nil, List.flatMap_cons, List.flatMap_nil, List.append_nil] <;> rfl) rfl ?_
  cases hs1 : Qd1 5 4 4 p && Qd1 5 4 4 q
  · simp +decide (disch := first | omega | rfl | (simp +decide only [go_sem, ↓reduceIte, Qd, List.contains_cons, List.contains_nil, List.flatMap_cons, List.flatMap_nil, List.append_nil] <;> rfl) | fail) only [go_sem, ↓reduceIte, Qv, Qad, Qd, List.contains_cons, List.contains_nil, List.flatMap_cons, List.flatMap_nil, List.append_nil]
    refine Qa hP Qow rfl rfl rfl ?_
    simp +decide (disch := first | omega | rfl | (simp +decide only [go_sem, ↓reduceIte, Qd, List.contains_cons, List.contains_nil, List.flatMap_cons, List.flatMap_nil, List.append_nil] <;> rfl) | fail) only [go_sem, ↓reduceIte, Qv, Qad, Qd, List.contains_cons, List.contains_nil, List.flatMap_cons, List.flatMap_nil, List.append_nil]
    exact Qc rfl rfl
  rw [Bool.and_eq_true] at hs1
  have s1 := Qqx (e := 4) hb hs1.1
  have s2 := Qqx (e := 4) hb2 hs1.2
  rw [s1.eq, s2.eq]
  obtain ⟨q', r', k', e', h1, h2, b1, b2, l1, l2⟩ := Qwl (v := v) s1.va.nrm s2.va.nrm s1.b s2.b s1.ln s2.ln
  simp +decide (disch := first | omega | rfl | (simp +decide only [go_sem, ↓reduceIte, Qd, List.contains_cons, List.contains_nil, List.flatMap_cons, List.flatMap_nil, List.append_nil] <;> rfl) | fail) only [go_sem, ↓reduceIte, Qv, Qad, Qd, List.contains_cons, List.contains_nil, List.flatMap_cons, List.flatMap_nil, List.append_nil]
  refine Qa hP h1 rfl rfl rfl ?_
  simp +decide (disch := first | omega | rfl | (simp +decide only [go_sem, ↓reduceIte, Qd, List.contains_cons, List.contains_nil, List.flatMap_cons, List.flatMap_nil, List.append_nil] <;> rfl) | fail) only [go_sem, ↓reduceIte, Qv, Qad, Qd, List.contains_cons, List.contains_nil, List.flatMap_cons, List.flatMap_nil, List.append_nil]
  refine Qa hP h2 rfl rfl rfl ?_
  simp +decide (disch := first | omega | rfl | (simp +decide only [go_sem, ↓reduceIte, Qd, List.contains_cons, List.contains_nil, List.flatMap_cons, List.flatMap_nil, List.append_nil] <;> rfl) | fail) only [go_sem, ↓reduceIte, Qv, Qad, Qd, List.contains_cons, List.contains_nil, List.flatMap_cons, List.flatMap_nil, List.append_nil]
  refine Qa hP (Qcq b1 b1 (by omega) (by omega) (by omega) (by omega)) rfl rfl rfl ?_
  rw [decide_eq_true (p := q' = q') rfl]
  simp +decide (disch := first | omega | rfl | (simp +decide only [go_sem, ↓reduceIte, Qd, List.contains_cons, List.contains_nil, List.flatMap_cons, List.flatMap_nil, List.append_nil] <;> rfl) | fail) only [go_sem, ↓reduceIte, Qv, Qad, Qd, List.contains_cons, List.contains_nil, List.flatMap_cons, List.flatMap_nil, List.append_nil]
  refine Qa hP (Qcq b2 b2 (by omega) (by omega) (by omega) (by omega)) rfl rfl rfl ?_
  rw [decide_eq_true (p := r' = r') rfl]
  simp +decide (disch := first | omega | rfl | (simp +decide only [go_sem, ↓reduceIte, Qd, List.contains_cons, List.contains_nil, List.flatMap_cons, List.flatMap_nil, List.append_nil] <;> rfl) | fail) only [go_sem, ↓reduceIte, Qv, Qad, Qd, List.contains_cons, List.contains_nil, List.flatMap_cons, List.flatMap_nil, List.append_nil]
  refine Qa hP Qow rfl rfl rfl ?_
  simp +decide (disch := first | omega | rfl | (simp +decide only [go_sem, ↓reduceIte, Qd, List.contains_cons, List.contains_nil, List.flatMap_cons, List.flatMap_nil, List.append_nil] <;> rfl) | fail) only [go_sem, ↓reduceIte, Qv, Qad, Qd, List.contains_cons, List.contains_nil, List.flatMap_cons, List.flatMap_nil, List.append_nil]
  exact Qc rfl rfl
theorem Qn4 {p q : List RTm} {v : Int} (h1 : Qtk p) (h2 : Qtk q) (hv : -9223372036854775808 ≤ v ∧ v ≤ 9223372036854775807) : Qe Tryz.prog 6 [PV.rpoly p, PV.rpoly q, .int .i64 v] (· = .bool true) :=
  Qnh (k := 1048576) (fun t ht => (h1.2 t ht).1) (fun t ht => (h2.2 t ht).1) (by omega) (by omega) (by have := h1.1; omega) (by have := h2.1; omega)
end Go.Proofs.YtjkbalanglgoiaaGreat
namespace Go.Proofs.YtjkbalanglgoiaaGreat
open Go Go.FW Go.ChangeShapes Go.WideShapes Go.ChangeAt Go.RowKit
set_option linter.unusedSimpArgs false
set_option linter.unusedVariables false
set_option maxRecDepth 100000
theorem Qkb (H : Type) (enc : TypeId × Value → H) (W : World) (base : Nat) (args : Array Value) (ds gs : List (DataW H)) (before : List MemPlace)
    (Qcg : ∀ (j : Nat) t v, Tryz.f6.params[j]? = some t → args[j]? = some v → Value.okWide Tryz.prog W .any base t v)
    (hW : DataW.Whole enc Tryz.prog Tryz.f6.params.toList Rows.pseudoDividesSpec.vars false W args.toList ds gs before) (hk : Rows.uptoSmall H (ds ++ gs) = true) :
    Calls Tryz.prog 6 args W fun e W' => ∃ v, e = .returned v ∧ Rows.pseudoDividesSpec.post enc Tryz.prog Tryz.f6 false true false false W args v W' := by
  have hW' := hW
  obtain ⟨p, q, hA0, hV, rfl, hfz, hnd⟩ := hW
  have hA : DataW.TrodAll enc Tryz.prog W 0 (fun _ => true) true Tryz.f6.params.toList args.toList ds p := hA0
  rw [Tryz.params6] at hA Qcg
  obtain ⟨v0, vs0, e0, ds0, p0, q0, hargs, rfl, rfl, h0, r0⟩ := trodAll_cons hA
  obtain ⟨v1, vs1, e1, ds1, p1, q1, rfl, rfl, rfl, h1, r1⟩ := trodAll_cons r0
  obtain ⟨v2, vs2, e2, ds2, p2, q2, rfl, rfl, rfl, h2, r2⟩ := trodAll_cons r1
  obtain ⟨rfl, rfl, rfl⟩ := trodAll_nil r2
  obtain rfl : args = #[v0, v1, v2] := by cases args; simp_all
  obtain ⟨rfl, rfl⟩ := trodVars_none hV
  have hb := Q4c hk
  simp only [List.append_nil, Rows.uptoBulkAll] at hb
  obtain ⟨a0, g0, b0⟩ := Qu3 (Qcg 0 _ v0 rfl rfl) h0 (by omega)
  obtain ⟨a1, g1, b1⟩ := Qu3 (Qcg 1 _ v1 rfl rfl) h1 (by omega)
  obtain ⟨a2, g2, b2⟩ := Q7k (Qcg 2 _ v2 rfl rfl) h2 (by omega)
  exact Q00 hW' rfl (by kernel_rfl) (by kernel_rfl) rfl (Qn4 b0 b1 b2) rfl
    (Q4d (vs := [v0, v1, v2]) (by
      intro i x hx v hv
      match i, hx, hv with
      | 0, hx, hv => simp at hx hv; subst hx hv; exact g0
      | 1, hx, hv => simp at hx hv; subst hx hv; exact g1
      | 2, hx, hv => simp at hx hv; subst hx hv; exact g2
      | i + 3, hx, hv => simp at hx) rfl)
theorem Ql8 (os : Os) (started : os.Started) (H : Type) (enc : TypeId × Value → H) (F : Stop.Interp) :
    ReturnsInHanded {} Tryz.checked os 6 .any ((Rows.OpenSpec.upto Rows.pseudoDividesSpec).pre6 enc Tryz.prog Tryz.f6 Rows.pseudoDividesUptoRow.domain false) (((Rows.OpenSpec.upto Rows.pseudoDividesSpec).at F).post enc Tryz.prog Tryz.f6 false true false false) := by
  refine returnsInHanded_of_cond (C := Tryz.checked) (s := Rows.OpenSpec.upto Rows.pseudoDividesSpec) (k := Rows.uptoSmall) rfl own started (by kernel_rfl) Tryz.func6
    (OpenSpec.witness (enc := enc) (C := Tryz.checked) (s := Rows.OpenSpec.upto Rows.pseudoDividesSpec) (k := Rows.uptoSmall) rfl false ⟨#[], #[.slice none 0 0, .slice none 0 0, .int .i64 0], []⟩ 8 (by kernel_rfl) (by kernel_rfl) (by kernel_rfl)
      (x := ([.nil, .nil, .lit (.int .i64 0)], [], [])) (by kernel_rfl) rfl (by kernel_rfl)) ?_
  intro W base args ds gs before Qcg hW _ hk _
  exact Qkb H enc W base args ds gs before Qcg hW hk
theorem pseudoDivides_proved : Rows.PseudoDividesUptoSaid :=
  OpenClaim.holds_of_cond 6 Tryz.f6 rfl rfl rfl rfl rfl rfl rfl ⟨rfl, rfl, rfl, rfl, rfl⟩ rfl rfl rfl rfl rfl (by kernel_rfl) Tryz.func6 (by kernel_rfl)
    (of_decide_eq_true (by kernel_rfl)) (by unfold Func.isWrapper; first | (rw [if_pos (by decide +kernel)]; kernel_rfl) | (rw [if_neg (by decide +kernel)]; exact ⟨rfl, rfl⟩))
    (fun os started H enc _ F => Ql8 os started H enc F)
end Go.Proofs.YtjkbalanglgoiaaGreat
