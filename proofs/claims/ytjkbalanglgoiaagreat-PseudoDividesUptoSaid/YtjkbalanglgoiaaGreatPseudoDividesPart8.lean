/- Part 8 of the proof of PseudoDivides: W4, W5, FwUD. Own lemmas; no conditions. -/
import Derived.Test.YtjkbalanglgoiaaGreatPseudoDividesPart7
set_option linter.unusedSimpArgs false
set_option linter.unnecessarySimpa false
set_option linter.unusedVariables false
namespace Go.Proofs.YtjkbalanglgoiaaGreat
open Go Go.FW
set_option linter.unusedSimpArgs false
set_option linter.unusedVariables false
set_option maxRecDepth 100000
theorem Ql5 {p : List Tm} {K E : Nat} (hp : PB K E p) (hn : Nrm p) (hK : K ≤ 2 ^ 32) (hE : E ≤ 1048576) (hl : p.length ≤ 2 ^ 36) : Qe Tryz.prog 43 [PV.poly p] (· = PV.poly p) := by
  refine Qg Ql Tryz.func43 rfl Qaa6 (by simp [c43]) fun C hP => ?_; simp only [c43]
  simp +decide (disch := first | omega | rfl | (simp +decide only [go_sem, ↓reduceIte] <;> rfl) | fail) only [go_sem, ↓reduceIte]
  refine Qfi 3 4 (by simp +decide (disch := first | omega | rfl | (simp +decide only [go_sem, ↓reduceIte] <;> rfl) | fail) only [go_sem, ↓reduceIte]) ?_
  refine Qx (by repeat (first | exact Qt | exact Qp | exact Qq | apply Qo | apply Qs | apply Qy | apply Q5 | apply Q6 | apply Qm | apply Q4)) [(3, 32)] [] (fun n J hp => ∃ i, n = p.length - i ∧ i ≤ p.length ∧ J 3 = PV.poly (p.take i) ∧ J 4 = .int .i64 (i : Nat)) p.length ?_ ?_
  · refine ⟨0, rfl, by omega, ?_⟩
    simp +decide (disch := first | omega | rfl | (simp +decide only [go_sem, ↓reduceIte] <;> rfl) | fail) only [go_sem, ↓reduceIte]
    simp
  rintro _ J h ⟨i, rfl, hi, h3, h4⟩
  simp +decide (disch := first | omega | rfl | (simp +decide only [go_sem, ↓reduceIte, h3, h4] <;> rfl) | fail) only [go_sem, ↓reduceIte, h3, h4]
  refine Qb (fun hg => ?_) (fun hg => ?_)
  · have hi' : i < p.length := by omega
    have htp := hp.get hi'
    have htk := Qyt hn hi'
    have hni := hn.take i
    have hbi := hp.take i
    have hll : (p.take i).length ≤ p.length := List.length_take_le' _ _
    generalize hx : p[i] = x at *
    have hml := htp.m.len
    have hok : Qb3 x.2 = true := Qsn htp.m hE htp.l
    have htr : Qcf x.2 = x.2 := Qus htp.l
    have hz := Qve x.2
    rw [htr, hok, if_pos rfl] at hz
    have hcx := htp.c
    simp +decide (disch := first | omega | rfl | (simp +decide only [go_sem, ↓reduceIte, h3, h4, hx] <;> rfl) | fail) only [go_sem, ↓reduceIte, h3, h4, hx]
    refine Qa hP (Qm9 (by omega)) rfl rfl rfl ?_
    rw [htr, if_pos hok]
    simp +decide (disch := first | omega | rfl | (simp +decide only [go_sem, ↓reduceIte, h3, h4, hx] <;> rfl) | fail) only [go_sem, ↓reduceIte, h3, h4, hx]
    refine Qa hP (Qtb (m := x.2) (by omega) (by omega)) rfl rfl rfl ?_
    rw [hz]
    simp +decide (disch := first | omega | rfl | (simp +decide only [go_sem, ↓reduceIte, h3, h4, hx] <;> rfl) | fail) only [go_sem, ↓reduceIte, h3, h4, hx]
    have hadd := Qka (K := K) (E := E) (k := K) hbi hni.s hni.z (Qb4 (q := x.1) (k := K) (by omega)) (by omega) htp.m htp.l (by omega) (by omega) (by omega)
    rw [Qcl, htk] at hadd
    refine Qa hP hadd rfl rfl rfl ?_
    simp +decide (disch := first | omega | rfl | (simp +decide only [go_sem, ↓reduceIte, h3, h4, hx] <;> rfl) | fail) only [go_sem, ↓reduceIte, h3, h4, hx]
    refine Qk (p.length - (i + 1)) (by omega) ⟨i + 1, rfl, by omega, ?_⟩
    simp +decide (disch := first | omega | rfl | (simp +decide only [go_sem, ↓reduceIte] <;> rfl) | fail) only [go_sem, ↓reduceIte]
  · obtain rfl : i = p.length := by omega
    rw [List.take_length] at h3
    simp +decide (disch := first | omega | rfl | (simp +decide only [go_sem, ↓reduceIte, h3] <;> rfl) | fail) only [go_sem, ↓reduceIte, h3]
    exact Qc rfl rfl
theorem Qvo {a : List Int} {v : Int} {E : Nat} (h : MB E a) : Qe Tryz.prog 76 [PV.mono a, .int .i64 v] (· = .int .i64 (eN a (exi v))) := by
  have hl := h.len
  have := Qos (a := a) (v := v) (by omega)
  have e : (if v < 0 then 0 else eN a v.toNat) = eN a (exi v) := by
    unfold exi; split
    · rw [Qb8 (by omega)]
    · rfl
  rwa [e] at this
theorem Qf0 {p : List Tm} {v : Int} {K E : Nat} (hp : PB K E p) (hlp : p.length ≤ 2 ^ 36) : Qe Tryz.prog 23 [PV.poly p, .int .i64 v] (· = .int .i64 (Qaj p (exi v))) := by
  refine Qg Ql Tryz.func23 rfl Qabh (by simp [c23]) fun C hP => ?_; simp only [c23]
  simp +decide (disch := first | omega | rfl | (simp +decide only [go_sem, ↓reduceIte] <;> rfl) | fail) only [go_sem, ↓reduceIte]
  refine Qx (by repeat (first | exact Qt | exact Qp | exact Qq | apply Qo | apply Qs | apply Qy | apply Q5 | apply Q6 | apply Qm | apply Q4)) [(5, 21)] [] (fun n J hp => ∃ i, n = p.length - i ∧ i ≤ p.length ∧ J 5 = .int .i64 (Qaj (p.take i) (exi v)) ∧ J 6 = .int .i64 (i : Nat)) p.length ?_ ?_
  · refine ⟨0, rfl, by omega, ?_⟩
    simp +decide (disch := first | omega | rfl | (simp +decide only [go_sem, ↓reduceIte] <;> rfl) | fail) only [go_sem, ↓reduceIte]
    exact ⟨rfl, rfl⟩
  rintro _ J h ⟨i, rfl, hi, h5, h6⟩
  simp +decide (disch := first | omega | rfl | (simp +decide only [go_sem, ↓reduceIte, h5, h6] <;> rfl) | fail) only [go_sem, ↓reduceIte, h5, h6]
  refine Qb (fun hg => ?_) (fun hg => ?_)
  · have hi' : i < p.length := by omega
    have htp := hp.get hi'
    have htk := Qsr (v := exi v) hi'
    generalize hx : p[i] = x at *
    have hml := htp.m.len
    simp +decide (disch := first | omega | rfl | (simp +decide only [go_sem, ↓reduceIte, h5, h6, hx] <;> rfl) | fail) only [go_sem, ↓reduceIte, h5, h6, hx]
    refine Qa hP (Qvo htp.m) rfl rfl rfl ?_
    simp +decide (disch := first | omega | rfl | (simp +decide only [go_sem, ↓reduceIte, h5, h6, hx] <;> rfl) | fail) only [go_sem, ↓reduceIte, h5, h6, hx]
    refine Qk (p.length - (i + 1)) (by omega) ⟨i + 1, rfl, by omega, ?_⟩
    rw [htk]
    simp +decide (disch := first | omega | rfl | (simp +decide only [go_sem, ↓reduceIte] <;> rfl) | fail) only [go_sem, ↓reduceIte]
  · obtain rfl : i = p.length := by omega
    rw [List.take_length] at h5
    simp +decide (disch := first | omega | rfl | (simp +decide only [go_sem, ↓reduceIte, h5] <;> rfl) | fail) only [go_sem, ↓reduceIte, h5]
    exact Qc rfl rfl
theorem Q8p {v : Int} {i : Nat} (h : i < 64) : ((i : Int) = v) ↔ exi v = i := by unfold exi; split <;> omega
theorem Qqv {a : List Int} {v : Int} {E : Nat} (ha : MB E a) (hE : E ≤ 1048576) : Qe Tryz.prog 138 [PV.mono a, .int .i64 v] (· = PV.mono (Qbm a (exi v))) := by
  have hml := ha.len
  have hok := Q4y ha hE (exi v)
  have hsl : (a.set (exi v) 0).length = a.length := by simp
  refine Qg Ql Tryz.func138 rfl Q72 (by simp [Q4w]) fun C hP => ?_; simp only [Q4w]
  simp +decide (disch := first | omega | rfl | (simp +decide only [go_sem, ↓reduceIte] <;> rfl) | fail) only [go_sem, ↓reduceIte]
  refine Qd6 5 900 1 3 (by omega) (by simp +decide (disch := first | omega | rfl | (simp +decide only [go_sem, ↓reduceIte] <;> rfl) | fail) only [go_sem, ↓reduceIte]) ?_
  refine Qx (by repeat (first | exact Qt | exact Qp | exact Qq | apply Qo | apply Qs | apply Qy | apply Q5 | apply Q6 | apply Qm | apply Q4)) [(5, 25)] [17, 18, 24, 25, 900] (fun n J hp => ∃ i out, n = a.length - i ∧ i ≤ a.length ∧ out = (a.set (exi v) 0).take i ∧ J 5 = .ms 900 out.length ∧ J 6 = .int .i64 (i : Nat) ∧ hp 900 = some ⟨1, 3, Qd4 out, false⟩) a.length ?_ ?_
  · refine ⟨0, [], rfl, by omega, rfl, ?_⟩
    simp +decide (disch := first | omega | rfl | (simp +decide only [go_sem, ↓reduceIte] <;> rfl) | fail) only [go_sem, ↓reduceIte]
    rfl
  rintro _ J h ⟨i, out, rfl, hi, hout, h5, h6, hh⟩
  have hol : out.length = i := by rw [hout, List.length_take]; omega
  simp +decide (disch := first | omega | rfl | (simp +decide only [go_sem, ↓reduceIte, h5, h6] <;> rfl) | fail) only [go_sem, ↓reduceIte, h5, h6]
  refine Qb (fun hg => ?_) (fun hg => ?_)
  · have hi' : i < a.length := by omega
    have htk : (a.set (exi v) 0).take (i + 1) = (a.set (exi v) 0).take i ++ [if exi v = i then 0 else a[i]] := by
      rw [List.take_succ_eq_append_getElem (by omega), List.getElem_set]
    have hiff := Q8p (v := v) (i := i) (by omega)
    generalize hx : a[i] = x at *
    simp +decide (disch := first | omega | rfl | (simp +decide only [go_sem, ↓reduceIte, h5, h6, hx] <;> rfl) | fail) only [go_sem, ↓reduceIte, h5, h6, hx]
    refine Qb (fun hc => ?_) (fun hc => ?_)
    · rw [if_pos (hiff.1 hc)] at htk
      simp +decide (disch := first | omega | rfl | (simp +decide only [go_sem, ↓reduceIte, h5, h6, hx] <;> rfl) | fail) only [go_sem, ↓reduceIte, h5, h6, hx]
      rw [Q9 (f := fun (x : Int) => .int .i64 x) (y := (0 : Int)) (xs := out) (ty' := 3) (fz := false) (by simp +decide (disch := first | omega | rfl | (simp +decide only [go_sem, ↓reduceIte, hh] <;> rfl) | fail) only [go_sem, ↓reduceIte, hh]) (by simp +decide (disch := first | omega | rfl | (simp +decide only [go_sem, ↓reduceIte] <;> rfl) | fail) only [go_sem, ↓reduceIte] <;> rfl) (by omega) rfl (by omega) (by omega)]
      simp +decide (disch := first | omega | rfl | (simp +decide only [go_sem, ↓reduceIte, h5, h6, hx] <;> rfl) | fail) only [go_sem, ↓reduceIte, h5, h6, hx]
      refine Qk (a.length - (i + 1)) (by omega) ⟨i + 1, out ++ [(0 : Int)], rfl, by omega, by rw [htk, hout], ?_⟩
      simp +decide (disch := first | omega | rfl | (simp +decide only [go_sem, ↓reduceIte, List.length_append] <;> rfl) | fail) only [go_sem, ↓reduceIte, List.length_append]
    · rw [if_neg (fun h => hc (hiff.2 h))] at htk
      simp +decide (disch := first | omega | rfl | (simp +decide only [go_sem, ↓reduceIte, h5, h6, hx] <;> rfl) | fail) only [go_sem, ↓reduceIte, h5, h6, hx]
      rw [Q9 (f := fun (x : Int) => .int .i64 x) (y := x) (xs := out) (ty' := 3) (fz := false) (by simp +decide (disch := first | omega | rfl | (simp +decide only [go_sem, ↓reduceIte, hh] <;> rfl) | fail) only [go_sem, ↓reduceIte, hh]) (by simp +decide (disch := first | omega | rfl | (simp +decide only [go_sem, ↓reduceIte] <;> rfl) | fail) only [go_sem, ↓reduceIte] <;> rfl) (by omega) rfl (by omega) (by omega)]
      simp +decide (disch := first | omega | rfl | (simp +decide only [go_sem, ↓reduceIte, h5, h6, hx] <;> rfl) | fail) only [go_sem, ↓reduceIte, h5, h6, hx]
      refine Qk (a.length - (i + 1)) (by omega) ⟨i + 1, out ++ [x], rfl, by omega, by rw [htk, hout], ?_⟩
      simp +decide (disch := first | omega | rfl | (simp +decide only [go_sem, ↓reduceIte, List.length_append] <;> rfl) | fail) only [go_sem, ↓reduceIte, List.length_append]
  · obtain rfl : i = a.length := by omega
    rw [List.take_of_length_le (by omega)] at hout
    subst hout
    simp +decide (disch := first | omega | rfl | (simp +decide only [go_sem, ↓reduceIte, h5, hh] <;> rfl) | fail) only [go_sem, ↓reduceIte, h5, hh]
    refine Qbg hP (Qm9 (a := a.set (exi v) 0) (by omega)) (by simp +decide (disch := first | omega | rfl | (simp +decide only [go_sem, ↓reduceIte, hh, Qd, List.contains_cons, List.contains_nil, List.flatMap_cons, List.flatMap_nil, List.append_nil] <;> rfl) | fail) only [go_sem, ↓reduceIte, hh, Qd, List.contains_cons, List.contains_nil, List.flatMap_cons, List.flatMap_nil, List.append_nil]; simp [List.take_of_length_le]) rfl ?_
    rw [show Qcf (a.set (exi v) 0) = Qbm a (exi v) from rfl, if_pos hok]
    simp +decide (disch := first | omega | rfl | (simp +decide only [go_sem, ↓reduceIte] <;> rfl) | fail) only [go_sem, ↓reduceIte]
    exact Qc rfl rfl
theorem Qnc {p : List Tm} {v n : Int} {K E : Nat} (hp : PB K E p) (np : Nrm p) (hlp : p.length ≤ 2 ^ 36) (hE : E ≤ 1048576) (hK : K ≤ 2 ^ 32) : Qe Tryz.prog 78 [PV.poly p, .int .i64 v, .int .i64 n] (· = PV.poly (Qae p (exi v) n)) := by
  have hcl0 := Qbu p (exi v) n
  refine Qg Ql Tryz.func78 rfl Qabi (by simp [c78]) fun C hP => ?_; simp only [c78]
  simp +decide (disch := first | omega | rfl | (simp +decide only [go_sem, ↓reduceIte] <;> rfl) | fail) only [go_sem, ↓reduceIte]
  refine Qd6 7 900 4 61 (by omega) (by simp +decide (disch := first | omega | rfl | (simp +decide only [go_sem, ↓reduceIte] <;> rfl) | fail) only [go_sem, ↓reduceIte]) ?_
  refine Qx (by repeat (first | exact Qt | exact Qp | exact Qq | apply Qo | apply Qs | apply Qy | apply Q5 | apply Q6 | apply Qm | apply Q4)) [(7, 39)] [38, 39, 900] (fun m J hp => ∃ i, m = p.length - i ∧ i ≤ p.length ∧ J 7 = .ms 900 (Qae (p.take i) (exi v) n).length ∧ J 8 = .int .i64 (i : Nat) ∧ hp 900 = some ⟨4, 61, (Qae (p.take i) (exi v) n).map PV.term, false⟩) p.length ?_ ?_
  · refine ⟨0, rfl, by omega, ?_⟩
    simp +decide (disch := first | omega | rfl | (simp +decide only [go_sem, ↓reduceIte] <;> rfl) | fail) only [go_sem, ↓reduceIte]
    exact ⟨rfl, rfl, rfl⟩
  rintro _ J h ⟨i, rfl, hi, h7, h8, hh⟩
  simp +decide (disch := first | omega | rfl | (simp +decide only [go_sem, ↓reduceIte, h7, h8] <;> rfl) | fail) only [go_sem, ↓reduceIte, h7, h8]
  refine Qb (fun hg => ?_) (fun hg => ?_)
  · have hi' : i < p.length := by omega
    have htp := hp.get hi'
    have hck := Qqn (v := exi v) (n := n) hi'
    have hcl := Qbu (p.take i) (exi v) n
    rw [List.length_take] at hcl
    generalize hx : p[i] = x at *
    have hml := htp.m.len
    simp +decide (disch := first | omega | rfl | (simp +decide only [go_sem, ↓reduceIte, h7, h8, hx] <;> rfl) | fail) only [go_sem, ↓reduceIte, h7, h8, hx]
    refine Qa hP (Qvo htp.m) rfl rfl rfl ?_
    simp +decide (disch := first | omega | rfl | (simp +decide only [go_sem, ↓reduceIte, h7, h8, hx] <;> rfl) | fail) only [go_sem, ↓reduceIte, h7, h8, hx]
    refine Qb (fun hc => ?_) (fun hc => ?_)
    · rw [if_pos hc] at hck
      simp +decide (disch := first | omega | rfl | (simp +decide only [go_sem, ↓reduceIte, h7, h8, hx] <;> rfl) | fail) only [go_sem, ↓reduceIte, h7, h8, hx]
      refine Qa hP (Qqv htp.m hE) rfl rfl rfl ?_
      simp +decide (disch := first | omega | rfl | (simp +decide only [go_sem, ↓reduceIte, h7, h8, hx] <;> rfl) | fail) only [go_sem, ↓reduceIte, h7, h8, hx]
      rw [Q9 (f := PV.term) (y := (x.1, Qbm x.2 (exi v))) (xs := Qae (p.take i) (exi v) n) (ty' := 61) (fz := false) (by simp +decide (disch := first | omega | rfl | (simp +decide only [go_sem, ↓reduceIte, hh] <;> rfl) | fail) only [go_sem, ↓reduceIte, hh]) (by simp +decide (disch := first | omega | rfl | (simp +decide only [go_sem, ↓reduceIte] <;> rfl) | fail) only [go_sem, ↓reduceIte] <;> rfl) (by omega) rfl (by omega) (by omega)]
      simp +decide (disch := first | omega | rfl | (simp +decide only [go_sem, ↓reduceIte, h7, h8, hx] <;> rfl) | fail) only [go_sem, ↓reduceIte, h7, h8, hx]
      refine Qk (p.length - (i + 1)) (by omega) ⟨i + 1, rfl, by omega, ?_⟩
      rw [hck]
      simp +decide (disch := first | omega | rfl | (simp +decide only [go_sem, ↓reduceIte, List.length_append] <;> rfl) | fail) only [go_sem, ↓reduceIte, List.length_append]
    · rw [if_neg hc, List.append_nil] at hck
      simp +decide (disch := first | omega | rfl | (simp +decide only [go_sem, ↓reduceIte, h7, h8, hx] <;> rfl) | fail) only [go_sem, ↓reduceIte, h7, h8, hx]
      refine Qk (p.length - (i + 1)) (by omega) ⟨i + 1, rfl, by omega, ?_⟩
      rw [hck]
      simp +decide (disch := first | omega | rfl | (simp +decide only [go_sem, ↓reduceIte, h7, hh] <;> rfl) | fail) only [go_sem, ↓reduceIte, h7, hh]
  · obtain rfl : i = p.length := by omega
    rw [List.take_length] at h7 hh
    simp +decide (disch := first | omega | rfl | (simp +decide only [go_sem, ↓reduceIte, h7, hh] <;> rfl) | fail) only [go_sem, ↓reduceIte, h7, hh]
    refine Qbg hP (Ql5 (Qel hp (exi v) n) (Qce np (exi v) n) hK hE (by omega)) (by simp +decide (disch := first | omega | rfl | (simp +decide only [go_sem, ↓reduceIte, hh, Qd, List.contains_cons, List.contains_nil, List.flatMap_cons, List.flatMap_nil, List.append_nil] <;> rfl) | fail) only [go_sem, ↓reduceIte, hh, Qd, List.contains_cons, List.contains_nil, List.flatMap_cons, List.flatMap_nil, List.append_nil]; simp [List.take_of_length_le]) rfl ?_
    simp +decide (disch := first | omega | rfl | (simp +decide only [go_sem, ↓reduceIte] <;> rfl) | fail) only [go_sem, ↓reduceIte]
    exact Qc rfl rfl
theorem Qtc {v n : Nat} (hv : v < 64) (hn : n ≤ 1048576) : Qe Tryz.prog 72 [.int .i64 v, .int .i64 n] (· = PV.poly (ppx v n)) := by
  have hlr : v < (List.replicate (v + 1) (0 : Int)).length := by simp
  have hone := Qpa
  refine Qg Ql Tryz.func72 rfl Qabj (by simp [c72]) fun C hP => ?_; simp only [c72]
  simp +decide (disch := first | omega | rfl | (simp +decide only [go_sem, ↓reduceIte] <;> rfl) | fail) only [go_sem, ↓reduceIte]
  refine Q2 (fun h0 => ?_) (fun h0 => ?_)
  · obtain rfl : n = 0 := by omega
    simp +decide (disch := first | omega | rfl | (simp +decide only [go_sem, ↓reduceIte] <;> rfl) | fail) only [go_sem, ↓reduceIte]
    refine Qa hP (Qen (by omega) (by omega)) rfl rfl rfl ?_
    have hC := Qta (k := 4) (Qb4 (q := ((1 : Int) : Rat)) (k := 4) (by rw [show ((1 : Int) : Rat) = 1 from rfl]; omega)) (by omega)
    rw [Qcl] at hC
    simp +decide (disch := first | omega | rfl | (simp +decide only [go_sem, ↓reduceIte] <;> rfl) | fail) only [go_sem, ↓reduceIte]
    refine Qa hP hC rfl rfl rfl ?_
    simp +decide (disch := first | omega | rfl | (simp +decide only [go_sem, ↓reduceIte] <;> rfl) | fail) only [go_sem, ↓reduceIte]
    exact Qc rfl rfl
  simp +decide (disch := first | omega | rfl | (simp +decide only [go_sem, ↓reduceIte] <;> rfl) | fail) only [go_sem, ↓reduceIte]
  refine Qb (fun h1 => by omega) (fun _ => ?_)
  simp +decide (disch := first | omega | rfl | (simp +decide only [go_sem, ↓reduceIte] <;> rfl) | fail) only [go_sem, ↓reduceIte]
  rw [Qpg v n (by omega), Int.toNat_natCast]
  have hxl : (Qa6 v n).length = v + 1 := by simp [Qa6]
  refine Qa hP (Qen (by omega) (by omega)) rfl rfl rfl ?_
  generalize hc : ((1 : Int) : Rat) = c
  have hc1 : c = 1 := hc.symm
  simp +decide (disch := first | omega | rfl | (simp +decide only [go_sem, ↓reduceIte] <;> rfl) | fail) only [go_sem, ↓reduceIte]
  rw [Qqq (p := PV.rat c) (e := 1) (ty := 3) (fz := false) (xs := Qd4 (Qa6 v n)) rfl (by simp +decide (disch := first | omega | rfl | (simp +decide only [go_sem, ↓reduceIte] <;> rfl) | fail) only [go_sem, ↓reduceIte]) (by simp [hxl, Qd4])]
  have hp1 : ppx v n = [(c, Qa6 v n)] := by rw [ppx, if_neg (by omega), hc1]
  have hb1 := Q1d (v := v) (n := n) hv
  have hn1 := Qxb v n
  rw [hp1] at hb1 hn1 ⊢
  simp +decide (disch := first | omega | rfl | (simp +decide only [go_sem, ↓reduceIte] <;> rfl) | fail) only [go_sem, ↓reduceIte]
  refine Qbg hP (Ql5 hb1 hn1 (by omega) hn (by simp)) (by simp +decide (disch := first | omega | rfl | (simp +decide only [go_sem, ↓reduceIte, Qd, List.contains_cons, List.contains_nil, List.flatMap_cons, List.flatMap_nil, List.append_nil] <;> rfl) | fail) only [go_sem, ↓reduceIte, Qd, List.contains_cons, List.contains_nil, List.flatMap_cons, List.flatMap_nil, List.append_nil] <;> rfl) rfl ?_
  simp +decide (disch := first | omega | rfl | (simp +decide only [go_sem, ↓reduceIte] <;> rfl) | fail) only [go_sem, ↓reduceIte]
  exact Qc rfl rfl
end Go.Proofs.YtjkbalanglgoiaaGreat
namespace Go.Proofs.YtjkbalanglgoiaaGreat
open Go Go.FW
set_option linter.unusedSimpArgs false
set_option linter.unusedVariables false
set_option maxRecDepth 100000
theorem Qrv {f g : List Tm} {v d N K E M : Nat} (nf : Nrm f) (ng : Nrm g) (bg : PB K E g) (hv : v < 64) (hg0 : g ≠ []) (hd : Qaj g v = d) (hN : Qaj f v < N) (hfl : Qa2 f = false)
    (hb : ∀ k, k < N → PB K E (dvS g v d f k).1 ∧ PB K E (dvS g v d f k).2) (hgM : g.length ≤ M) (hM : M ≤ 2 ^ 10) (hK : M * (K + K + 2) + (M * (K + K + 2) + (K + 2)) ≤ 2 ^ 31) (hK3 : 4000 * (K + K) + (K + K) ≤ 2 ^ 32) (hK2 : 2 ≤ K) (hM1 : 1 ≤ M) (hE : E ≤ 1048576) (hN1 : 0 < N) (hN2 : N ≤ 2 ^ 30) :
    Qe Tryz.prog 30 [PV.poly f, PV.poly g, .int .i64 v] (· = Qcy g v d N [] f 0) := by
  have hlen : ∀ {p : List Tm}, Qa2 p = false → p.length ≤ 4000 := fun {p} h => by
    unfold Qa2 at h
    simp only [Bool.or_eq_false_iff, decide_eq_false_iff_not] at h
    omega
  have hKM : K + K + 2 ≤ M * (K + K + 2) := by have := Nat.mul_le_mul_right (K + K + 2) hM1; omega
  have hKM2 : M * (K + K) ≤ M * (K + K + 2) := Nat.mul_le_mul_left _ (by omega)
  have hbf : PB K E f := (hb 0 hN1).2
  have hfm : ∀ t ∈ f, MB E t.2 := fun t ht => (hbf t ht).m
  have hfl' := hlen hfl
  have hcl : (Qae g v d).length ≤ M := Nat.le_trans (Qbu _ _ _) hgM
  have hcb := Qel bg v (d : Int)
  have hcn := Qce ng v (d : Int)
  refine Qg Ql Tryz.func30 rfl Qvd (by simp [c30]) fun C hP => ?_; simp only [c30]
  simp +decide (disch := first | omega | rfl | (simp +decide only [go_sem, ↓reduceIte] <;> rfl) | fail) only [go_sem, ↓reduceIte, Qv, Qad]
  refine Q2 (fun h1 => by omega) (fun _ => ?_)
  simp +decide (disch := first | omega | rfl | (simp +decide only [go_sem, ↓reduceIte] <;> rfl) | fail) only [go_sem, ↓reduceIte, Qv, Qad]
  refine Qb (fun h1 => by omega) (fun _ => ?_)
  simp +decide (disch := first | omega | rfl | (simp +decide only [go_sem, ↓reduceIte] <;> rfl) | fail) only [go_sem, ↓reduceIte, Qv, Qad]
  refine Qb (fun h1 => absurd (List.length_eq_zero_iff.1 (by omega)) hg0) (fun _ => ?_)
  simp +decide (disch := first | omega | rfl | (simp +decide only [go_sem, ↓reduceIte] <;> rfl) | fail) only [go_sem, ↓reduceIte, Qv, Qad]
  refine Qa hP (Qh2 hfm (by omega)) rfl rfl rfl ?_
  rw [hfl]
  simp +decide (disch := first | omega | rfl | (simp +decide only [go_sem, ↓reduceIte] <;> rfl) | fail) only [go_sem, ↓reduceIte, Qv, Qad]
  refine Qa hP (Qf0 bg (by omega)) rfl rfl rfl ?_
  rw [Qdl, hd]
  simp +decide (disch := first | omega | rfl | (simp +decide only [go_sem, ↓reduceIte] <;> rfl) | fail) only [go_sem, ↓reduceIte, Qv, Qad]
  refine Qa hP (Qnc bg ng (by omega) hE (by omega)) rfl rfl rfl ?_
  rw [Qdl]
  simp +decide (disch := first | omega | rfl | (simp +decide only [go_sem, ↓reduceIte] <;> rfl) | fail) only [go_sem, ↓reduceIte, Qv, Qad]
  refine Qfi 12 4 (by simp +decide (disch := first | omega | rfl | (simp +decide only [go_sem, ↓reduceIte] <;> rfl) | fail) only [go_sem, ↓reduceIte, Qv, Qad]) ?_
  refine Qx (by repeat (first | exact Qt | exact Qp | exact Qq | apply Qo | apply Qs | apply Qy | apply Q5 | apply Q6 | apply Qm | apply Q4)) [(6, 9), (12, 16), (36, 78)] [] (fun m J hp => ∃ k, m = N - k ∧ k ≤ N ∧ ((dvS g v d f k).2 ≠ [] → Qaj (dvS g v d f k).2 v < N - k) ∧ (∃ K' E', PB K' E' (dvS g v d f k).2 ∧ E' ≤ 2 ^ 30) ∧ Qa2 (dvS g v d f k).1 = false ∧ Qa2 (dvS g v d f k).2 = false ∧ Qcy g v d (N - k) (dvS g v d f k).1 (dvS g v d f k).2 k = Qcy g v d N [] f 0 ∧
    J 12 = PV.poly (dvS g v d f k).1 ∧ J 13 = PV.poly (dvS g v d f k).2 ∧ J 14 = .int .i64 (k : Nat)) N ?_ ?_
  · refine ⟨0, rfl, by omega, fun _ => by simpa [dvS] using hN, ⟨K, E, hbf, by omega⟩, rfl, hfl, rfl, ?_⟩
    simp +decide (disch := first | omega | rfl | (simp +decide only [go_sem, ↓reduceIte] <;> rfl) | fail) only [go_sem, ↓reduceIte, Qv, Qad]
    exact ⟨rfl, rfl, rfl⟩
  rintro _ J h ⟨k, rfl, hk, hdk, ⟨K', E', hbr, hE'⟩, hl1, hl2, hres, h12, h13, h14⟩
  obtain ⟨n1, n2⟩ := Qrs (v := v) (d := d) nf ng k
  have hst : dvS g v d f (k + 1) = (dvQ (dvS g v d f k).1 (dvS g v d f k).2 g v (Qaj (dvS g v d f k).2 v).toNat d, dvR (dvS g v d f k).2 g v (Qaj (dvS g v d f k).2 v).toNat d) := rfl
  have hbk := hb k
  generalize (dvS g v d f k).1 = q at *
  generalize (dvS g v d f k).2 = r at *
  have hql := hlen hl1
  have hrl := hlen hl2
  simp +decide (disch := first | omega | rfl | (simp +decide only [go_sem, ↓reduceIte, h12, h13, h14] <;> rfl) | fail) only [go_sem, ↓reduceIte, Qv, Qad, h12, h13, h14]
  refine Qal (fun hg => ?_) (fun hg => ?_)
  · have hr0 : r ≠ [] := fun h => by rw [h] at hg; simp at hg
    have hrange := Qg7 hbr hr0 v
    have hdk' := hdk hr0
    have hkN : k < N := by omega
    obtain ⟨b1, b2⟩ := hbk hkN
    obtain ⟨n, hn⟩ : ∃ n : Nat, Qaj r v = n := ⟨(Qaj r v).toNat, by omega⟩
    have hnE : n ≤ E := by have := (Qg7 b2 hr0 v).2; omega
    simp +decide (disch := first | omega | rfl | (simp +decide only [go_sem, ↓reduceIte, h12, h13, h14] <;> rfl) | fail) only [go_sem, ↓reduceIte, Qv, Qad, h12, h13, h14]
    refine Qa hP (Qf0 b2 (by omega)) rfl rfl rfl ?_
    rw [Qdl, hn]
    simp +decide (disch := first | omega | rfl | (simp +decide only [go_sem, ↓reduceIte, h12, h13, h14] <;> rfl) | fail) only [go_sem, ↓reduceIte, Qv, Qad, h12, h13, h14]
    refine Qb (fun hc => ?_) (fun hc => ?_)
    · have hdn : d ≤ n := by omega
      have e1 : (n : Int) - (d : Int) = ((n - d : Nat) : Int) := by omega
      have hdeg := Q1c n2 ng b2 hr0 hd (by omega)
      rw [hn, Int.toNat_natCast] at hst hdeg
      obtain ⟨q1, q2, q3, q4, q5, q6, q7, q8⟩ := Qvj (n := n) (d := d) b1 b2 bg hgM hv hnE
      have hpn := Qce n2 v (n : Int)
      have hpb := Qel b2 v (n : Int)
      have hpl := Qbu r v (n : Int)
      have nb : Nrm (dvB r v n d) := Qfk hpn v (n - d)
      have hKr : r.length * (K + K) ≤ 4000 * (K + K) := Nat.mul_le_mul_right _ hrl
      have hKq : q.length * (K + K) ≤ 4000 * (K + K) := Nat.mul_le_mul_right _ hql
      have hKg : g.length * (K + 2 + (K + 2)) ≤ M * (K + K + 2) + M * 2 := by
        have := Nat.mul_le_mul_right (K + 2 + (K + 2)) hgM
        have e : K + 2 + (K + 2) = K + K + 2 + 2 := by omega
        rw [e] at this ⊢
        rw [← Nat.mul_add]; exact this
      have hl1 : r.length * (Qae g v d).length ≤ 4000 * 2 ^ 10 := Nat.mul_le_mul hrl (by omega)
      have hl2 : q.length * (Qae g v d).length ≤ 4000 * 2 ^ 10 := Nat.mul_le_mul hql (by omega)
      have hl3 : g.length * (dvB r v n d).length ≤ 2 ^ 10 * 4000 := Nat.mul_le_mul (by omega) (by omega)
      have hl4 : M * r.length ≤ 2 ^ 10 * 4000 := Nat.mul_le_mul (by omega) hrl
      have hl5 : M * q.length ≤ 2 ^ 10 * 4000 := Nat.mul_le_mul (by omega) hql
      have hl6 : r.length * M ≤ 4000 * 2 ^ 10 := Nat.mul_le_mul hrl hM
      have hB : Qcs (Qae r v n) v (n - d) = dvB r v n d := rfl
      have pl := Q76 v (n - d)
      have pb := Q1d (v := v) (n := n - d) hv
      have pn := Qxb v (n - d)
      have hpe := Q1e hpn v (n - d)
      have hpow := Qtc hv (n := n - d) (by omega)
      generalize ppx v (n - d) = y at *
      simp +decide (disch := first | omega | rfl | (simp +decide only [go_sem, ↓reduceIte, h12, h13, h14] <;> rfl) | fail) only [go_sem, ↓reduceIte, Qv, Qad, h12, h13, h14]
      refine Qa hP (Qf0 b2 (by omega)) rfl rfl rfl ?_
      rw [Qdl, hn]
      simp +decide (disch := first | omega | rfl | (simp +decide only [go_sem, ↓reduceIte, h12, h13, h14] <;> rfl) | fail) only [go_sem, ↓reduceIte, Qv, Qad, h12, h13, h14]
      refine Qa hP (Qnc b2 n2 (by omega) hE (by omega)) rfl rfl rfl ?_
      rw [Qdl]
      simp +decide (disch := first | omega | rfl | (simp +decide only [go_sem, ↓reduceIte, h12, h13, h14, e1] <;> rfl) | fail) only [go_sem, ↓reduceIte, Qv, Qad, h12, h13, h14, e1]
      refine Qa hP hpow rfl rfl rfl ?_
      simp +decide (disch := first | omega | rfl | (simp +decide only [go_sem, ↓reduceIte, h12, h13, h14] <;> rfl) | fail) only [go_sem, ↓reduceIte, Qv, Qad, h12, h13, h14]
      refine Qa hP (Qhg hpb (pb.mono hK2 (by omega)) hpn.z pn.z (by omega) (by omega) (by omega) (by rw [pl]; omega) (by rw [pl]; omega)) rfl rfl rfl ?_
      rw [Qlz hpn pn, hpe, hB]
      simp +decide (disch := first | omega | rfl | (simp +decide only [go_sem, ↓reduceIte, h12, h13, h14] <;> rfl) | fail) only [go_sem, ↓reduceIte, Qv, Qad, h12, h13, h14]
      refine Qa hP (Qhg hcb b1 hcn.z n1.z (by omega) (by omega) (by omega) (by omega) (by omega)) rfl rfl rfl ?_
      rw [Qlz hcn n1]
      simp +decide (disch := first | omega | rfl | (simp +decide only [go_sem, ↓reduceIte, h12, h13, h14] <;> rfl) | fail) only [go_sem, ↓reduceIte, Qv, Qad, h12, h13, h14]
      refine Qa hP (Qex (K := M * (K + K + 2)) (E := E + E) (q3.mono (by omega) (Nat.le_refl _)) (q1.mono (by omega) (Nat.le_refl _)) (by omega) (by omega) (by omega) (by omega)) rfl rfl rfl ?_
      rw [show Q3 (Qay (Qae g v d) q) (dvB r v n d) = dvQ q r g v n d from rfl]
      simp +decide (disch := first | omega | rfl | (simp +decide only [go_sem, ↓reduceIte, h12, h13, h14] <;> rfl) | fail) only [go_sem, ↓reduceIte, Qv, Qad, h12, h13, h14]
      refine Qa hP (Qhg hcb b2 hcn.z n2.z (by omega) (by omega) (by omega) (by omega) (by omega)) rfl rfl rfl ?_
      rw [Qlz hcn n2]
      simp +decide (disch := first | omega | rfl | (simp +decide only [go_sem, ↓reduceIte, h12, h13, h14] <;> rfl) | fail) only [go_sem, ↓reduceIte, Qv, Qad, h12, h13, h14]
      refine Qa hP (Qhg (q1.mono (Nat.le_refl _) (by omega)) (bg.mono (K' := K + 2) (E' := E + E) (by omega) (by omega)) nb.z ng.z (by omega) (by omega) (by omega) (by omega) (by omega)) rfl rfl rfl ?_
      rw [Qlz nb ng]
      simp +decide (disch := first | omega | rfl | (simp +decide only [go_sem, ↓reduceIte, h12, h13, h14] <;> rfl) | fail) only [go_sem, ↓reduceIte, Qv, Qad, h12, h13, h14]
      refine Qa hP (Qwj (K := M * (K + K + 2)) (E := E + E + E) (q5.mono (by omega) (by omega)) q7 (Qcb nb.s ng.s).z (by omega) (by omega) (by omega) (by omega) (by omega)) rfl rfl rfl ?_
      rw [show Qfz (Qay (Qae g v d) r) (Qay (dvB r v n d) g) = dvR r g v n d from rfl]
      have bQ : PB (M * (K + K) + (K + 2)) (E + E) (dvQ q r g v n d) := Qf3 _ _ q3 q1
      have lQ : (dvQ q r g v n d).length ≤ 2 ^ 33 := Nat.le_trans (Qc7 _ _) (by omega)
      have bR : PB (M * (K + K) + (M * (K + K + 2) + 2)) (E + E + E) (dvR r g v n d) := Qf3 _ _ (q5.mono (Nat.le_refl _) (by omega)) (Qkq q7)
      have lR : (dvR r g v n d).length ≤ 2 ^ 33 := Nat.le_trans (Qc7 _ _) (by have := Qdj (Qay (dvB r v n d) g) (-1); have e : (Qiw (Qay (dvB r v n d) g)).length = (Qbt (Qay (dvB r v n d) g) (-1)).length := rfl; omega)
      have hns : ¬ (r = [] ∨ Qaj r v < d) := fun h => h.elim hr0 (fun h => by omega)
      have hd1 := Ql2 (g := g) (k := k) (q := q) (fuel := N - (k + 1)) hns
      have hd2 := Qj7 (g := g) (k := k) (q := q) (fuel := N - (k + 1)) hns
      rw [show N - (k + 1) + 1 = N - k by omega, hn, Int.toNat_natCast, hres] at hd1 hd2
      generalize dvQ q r g v n d = q' at *
      generalize dvR r g v n d = r' at *
      simp +decide (disch := first | omega | rfl | (simp +decide only [go_sem, ↓reduceIte, h12, h13, h14] <;> rfl) | fail) only [go_sem, ↓reduceIte, Qv, Qad, h12, h13, h14]
      refine Qa hP (Qh2 (fun t ht => (bQ t ht).m) (by omega)) rfl rfl rfl ?_
      cases hlq : Qa2 q'
      · simp +decide (disch := first | omega | rfl | (simp +decide only [go_sem, ↓reduceIte, h12, h13, h14] <;> rfl) | fail) only [go_sem, ↓reduceIte, Qv, Qad, h12, h13, h14]
        refine Qa hP (Qh2 (fun t ht => (bR t ht).m) (by omega)) rfl rfl rfl ?_
        cases hlr : Qa2 r'
        · have hd1' := hd1 (by simp [hlq, hlr])
          simp +decide (disch := first | omega | rfl | (simp +decide only [go_sem, ↓reduceIte, h12, h13, h14] <;> rfl) | fail) only [go_sem, ↓reduceIte, Qv, Qad, h12, h13, h14]
          refine Qk (N - (k + 1)) (by omega) ⟨k + 1, rfl, by omega, ?_⟩
          rw [hst]
          refine ⟨fun _ => ?_, ⟨_, _, bR, by omega⟩, hlq, hlr, hd1'.symm, ?_⟩
          · show Qaj r' v < (N : Int) - ((k + 1 : Nat) : Int)
            omega
          simp +decide (disch := first | omega | rfl | (simp +decide only [go_sem, ↓reduceIte] <;> rfl) | fail) only [go_sem, ↓reduceIte, Qv, Qad]
        · have hd2' := hd2 (.inr hlr)
          simp +decide (disch := first | omega | rfl | (simp +decide only [go_sem, ↓reduceIte] <;> rfl) | fail) only [go_sem, ↓reduceIte, Qv, Qad]
          exact Qgk hd2' rfl rfl rfl rfl Qa7 Qa7 (Qn _) (Qn _)
      · have hd2' := hd2 (.inl hlq)
        simp +decide (disch := first | omega | rfl | (simp +decide only [go_sem, ↓reduceIte] <;> rfl) | fail) only [go_sem, ↓reduceIte, Qv, Qad]
        exact Qgk hd2' rfl rfl rfl rfl Qa7 Qa7 (Qn _) (Qn _)
    · have hd1 := Qgl (g := g) (q := q) (k := k) (show r = [] ∨ Qaj r v < d from .inr (by omega)) (N - k)
      rw [hres] at hd1
      simp +decide (disch := first | omega | rfl | (simp +decide only [go_sem, ↓reduceIte, h12, h13, h14] <;> rfl) | fail) only [go_sem, ↓reduceIte, Qv, Qad, h12, h13, h14]
      exact Qgk hd1 rfl rfl rfl rfl (Qn _) (Qn _) (Qn _) (Qn _)
  · have hr0 : r = [] := List.length_eq_zero_iff.1 (by omega)
    have hd1 := Qgl (g := g) (q := q) (k := k) (show r = [] ∨ Qaj r v < d from .inl hr0) (N - k)
    rw [hres] at hd1
    simp +decide (disch := first | omega | rfl | (simp +decide only [go_sem, ↓reduceIte, h12, h13, h14] <;> rfl) | fail) only [go_sem, ↓reduceIte, Qv, Qad, h12, h13, h14]
    exact Qgk hd1 rfl rfl rfl rfl (Qn _) (Qn _) (Qn _) (Qn _)
end Go.Proofs.YtjkbalanglgoiaaGreat
namespace Go.FW
open Go
def Qg8 (a b : List Int) : Bool := (List.range a.length).all fun i => decide (eN a i ≤ eN b i)
theorem Q5m {k : Nat} {a b : List Int} (hb : MB k b) : Qg8 a b = true ↔ ∀ i, eN a i ≤ eN b i := by
  unfold Qg8
  rw [List.all_eq_true]
  constructor
  · intro h i
    by_cases hi : i < a.length
    · exact of_decide_eq_true (h i (List.mem_range.2 hi))
    · rw [Qb8 (by omega)]; exact (hb.eN i).1
  · intro h i _
    exact decide_eq_true (h i)
theorem Qyx {a b : List Int} {i : Nat} (hi : i < a.length) (h : ¬ eN a i ≤ eN b i) : Qg8 a b = false := by
  unfold Qg8
  rw [List.all_eq_false]
  exact ⟨i, List.mem_range.2 hi, by simpa using h⟩
theorem Q1i {a b : List Int} (h : ∀ i, i < a.length → eN a i ≤ eN b i) : Qg8 a b = true := by
  unfold Qg8
  rw [List.all_eq_true]
  intro i hi
  exact decide_eq_true (h i (List.mem_range.1 hi))
def Qh3 (a b : List Int) : List Int := Qcf (Qez (· - ·) a b)
theorem Qxe (a b : List Int) (i : Nat) : eN (Qh3 a b) i = eN a i - eN b i := by rw [Qh3, Qg0, Qrk (by simp)]
theorem Qss (a b : List Int) : (Qh3 a b).getLast? ≠ some 0 := Qgi _
theorem Q8q {k : Nat} {a b : List Int} {l : Nat} (ha : MB k a) (hb : MB l b) (h : Qg8 b a = true) : MB k (Qh3 a b) := by
  have hd := (Q5m ha).1 h
  have hl : (Qh3 a b).length ≤ 64 := by
    have h1 := Qd7 (Qez (· - ·) a b)
    rw [Qby] at h1
    have := ha.len
    have := hb.len
    unfold Qh3; omega
  have key : ∀ x ∈ Qh3 a b, ∃ i, x = eN a i - eN b i := fun x hx => by
    obtain ⟨i, hi, rfl⟩ := List.getElem_of_mem hx
    exact ⟨i, by rw [← Qxe, Qcm hi]⟩
  refine ⟨hl, fun x hx => ?_, fun x hx => ?_⟩
  all_goals
    obtain ⟨i, rfl⟩ := key x hx
    have := hd i
    have := ha.eN i
    have := hb.eN i
    omega
theorem Q5n {k l : Nat} {a b : List Int} (ha : MB k a) (hb : MB l b) (hl : a.getLast? ≠ some 0) (h : Qg8 b a = true) : Qar (Qh3 a b) b = a :=
  Qdy (Qc6 _ _) hl fun i => by rw [Qcp, Qxe]; omega
theorem Qqw (x y : Int) (hy : y ≠ 0) : mkRat (zv (decide (x < 0) != decide (y < 0)) (dig x.natAbs)) y.natAbs = (x : Rat) / (y : Rat) := by
  rw [Rat.mkRat_eq_div, Qgh, ← Rat.intCast_natCast]
  have h3 : (y : Rat) ≠ 0 := by rw [Ne, Rat.intCast_eq_zero_iff]; exact hy
  by_cases hy0 : y < 0
  · have e2 : (((y.natAbs : Nat) : Int) : Rat) = - (y : Rat) := by rw [← Rat.intCast_neg]; congr 1; omega
    have e1 : (if (decide (x < 0) != decide (y < 0)) = true then -(x.natAbs : Int) else x.natAbs) = -x := by
      by_cases hx : x < 0 <;> simp [hx, hy0] <;> omega
    rw [e1, e2, Rat.intCast_neg]
    grind
  · have e2 : (((y.natAbs : Nat) : Int) : Rat) = (y : Rat) := by congr 1; omega
    have e1 : (if (decide (x < 0) != decide (y < 0)) = true then -(x.natAbs : Int) else x.natAbs) = x := by
      by_cases hx : x < 0 <;> simp [hx, hy0] <;> omega
    rw [e1, e2]
theorem Qab7 {n m : Bool} {a d b c : List Nat} (hd : val d ≠ 0) (hc : val c ≠ 0) (hb : zv m b ≠ 0) : ((zv n a * (val c : Int) : Int) : Rat) / ((zv m b * (val d : Int) : Int) : Rat) = rv n a d / rv m b c := by
  have h1 : ((val d : Int) : Rat) ≠ 0 := by rw [Ne, Rat.intCast_eq_zero_iff]; omega
  have h2 : ((val c : Int) : Rat) ≠ 0 := by rw [Ne, Rat.intCast_eq_zero_iff]; omega
  have h3 : ((zv m b : Int) : Rat) ≠ 0 := by rw [Ne, Rat.intCast_eq_zero_iff]; exact hb
  unfold rv
  rw [Rat.mkRat_eq_div, Rat.mkRat_eq_div, Rat.intCast_mul, Rat.intCast_mul]
  rw [← Rat.intCast_natCast, ← Rat.intCast_natCast]
  grind
end Go.FW
