/- MatrixEquations holds, for arguments of bulk at most 1048576. -/
import Derived.Test.YtmnkngmmfnncoaaGreatMatrixEquationsPart13
set_option linter.unusedSimpArgs false
set_option linter.unnecessarySimpa false
set_option linter.unusedVariables false
namespace Go.Proofs.YtmnkngmmfnncoaaGreat
open Go Go.FW
set_option linter.unusedSimpArgs false
set_option linter.unusedVariables false
set_option maxRecDepth 100000
end Go.Proofs.YtmnkngmmfnncoaaGreat
namespace Go.Proofs.YtmnkngmmfnncoaaGreat
open Go Go.FW
set_option linter.unusedSimpArgs false
set_option linter.unusedVariables false
set_option maxRecDepth 100000
end Go.Proofs.YtmnkngmmfnncoaaGreat
namespace Go.Proofs.YtmnkngmmfnncoaaGreat
open Go Go.FW
set_option linter.unusedSimpArgs false
set_option linter.unusedVariables false
set_option maxRecDepth 100000
end Go.Proofs.YtmnkngmmfnncoaaGreat
namespace Go.Proofs.YtmnkngmmfnncoaaGreat
open Go Go.FW
set_option linter.unusedSimpArgs false
set_option linter.unusedVariables false
set_option maxRecDepth 100000
end Go.Proofs.YtmnkngmmfnncoaaGreat
namespace Go.Proofs.YtmnkngmmfnncoaaGreat
open Go Go.FW
set_option linter.unusedSimpArgs false
set_option linter.unusedVariables false
set_option maxRecDepth 100000
end Go.Proofs.YtmnkngmmfnncoaaGreat
namespace Go.Proofs.YtmnkngmmfnncoaaGreat
open Go Go.FW
set_option linter.unusedSimpArgs false
set_option linter.unusedVariables false
set_option maxRecDepth 100000
end Go.Proofs.YtmnkngmmfnncoaaGreat
namespace Go.Proofs.YtmnkngmmfnncoaaGreat
open Go Go.FW
set_option linter.unusedSimpArgs false
set_option linter.unusedVariables false
set_option maxRecDepth 100000
theorem Qve {l : List Rat} {k : Nat} (hl : l.length <= 1048576) (hk : k <= 1048576) (hs : ∀ q ∈ l, rs q <= k) : Qca (l.map qR) := ⟨by rw [List.length_map]; exact hl, RRk.of fun q hq => Nat.le_trans (hs q hq) hk⟩
end Go.Proofs.YtmnkngmmfnncoaaGreat
namespace Go.Proofs.YtmnkngmmfnncoaaGreat
open Go Go.FW
set_option linter.unusedSimpArgs false
set_option linter.unusedVariables false
set_option maxRecDepth 100000
def Qbk (l : List Rat) : Nat -> Rat := fun i => l.getD i 0
theorem Qnh (l : List Rat) : Qr PV.rat (Qbk l) l.length = l.map PV.rat := by
 refine List.ext_getElem (by simp [Qr]) fun j h1 h2 => ?_
 rw [Qc9, List.getElem_map]
 unfold Qbk
 rw [List.getD_eq_getElem?_getD, List.getElem?_eq_getElem (by simpa using h2)]; rfl
theorem Qmd {l : List Rat} {k : Nat} (hk : 1 <= k) (h : ∀ q ∈ l, rs q <= k) (i : Nat) : rs (Qbk l i) <= k := by
 unfold Qbk
 rw [List.getD_eq_getElem?_getD]
 cases hq : l[i]? with
 | none => have := Qo8; show rs 0 <= k; omega
 | some q => exact h q (List.mem_of_getElem? hq)
end Go.Proofs.YtmnkngmmfnncoaaGreat
namespace Go.Proofs.YtmnkngmmfnncoaaGreat
open Go Go.FW
set_option linter.unusedSimpArgs false
set_option linter.unusedVariables false
set_option maxRecDepth 100000
def c40 : SFn := ⟨96, [.t 4, .t 5], Zr (Zo (.box 2 3 24 (.t 0)) <|
 Zo (.mv 4 (.c .nilS)) <|
 Zc 5 0 .nil) <| .seq (Zr (Zh 13 3 2 <|
 Zq 14 false 25 [.t 13] <|
 Zu 15 14 <|
 Zm 16 15 <|
 Zg 16 false (.mv 17 (.t 1)) <|
 Zg 16 false (.call (some 18) false (.c (.fn 89 [] [])) [.t 17]) <|
 Zg 16 false (.un 19 .not (.t 18)) <|
 Zo (.pick 20 (.t 16) (.c (.bool true)) (.t 19)) .nil) <| .cond (.t 20) (Zr (Zo (.mv 4 (.c .nilS)) <|
 Zc 5 1 .nil) .ret) .skip) <| .seq (Zr (Zm 21 1 <|
 Zn 22 21 <|
 Zf 23 0 2 <|
 Zl 24 1 23 <|
 Zb 25 .neq 22 24 .nil) <| .cond (.t 25) (Zr (Zo (.mv 4 (.c .nilS)) <|
 Zc 5 16 .nil) .ret) .skip) <| Zr (Zh 26 3 2 <|
 Zq 27 false 78 [.t 26] <|
 Zm 6 27 .nil) <| .seq (Zr (Zm 28 6 <|
 Zn 29 28 <|
 Zc 30 0 .nil) <| .block 0 <| .loop <| Zr (Zb 31 .lss 30 29 .nil) <| .seq (.cond (.t 31) .skip (.exit 0)) <| .seq (.block 1 <| Zr (Zm 32 30 <|
 Zm 7 32 .nil) <| .rg (Zm 33 6 <|
 Zm 34 7 <|
 Zm 35 6 <|
 Zm 36 7 <|
 Zi 37 1 35 36 <|
 Zl 38 1 37 <|
 Zm 39 1 <|
 Zm 40 7 <|
 Zi 41 3 39 40 <|
 Zh 42 3 41 <|
 Zo (.bs 43 3 32 [.t 42]) <|
 Zo (.app 44 3 56 32 (.t 38) (.t 43)) <|
 Zi 45 1 33 34 <|
 Zs 1 45 44 .nil)) <| .rg (Zk 46 .add 30 1 <|
 Zm 30 46 .nil)) <| Zr (Zm 47 6 <|
 Zf 48 1 2 <|
 Zl 49 1 48 <|
 Zq 50 false 77 [.t 47, .t 49] <|
 Zo (.alloc 8 5 93 (.agg [.nilS, .nilS, .bool false, .nilS, .nilS])) <|
 Zs 5 8 50 .nil) <| .seq (Zr (Zf 51 1 8 <|
 Zl 52 1 51 <|
 Zn 53 52 <|
 Zm 9 53 .nil) <| .block 2 <| .loop <| .seq (Zr (Zm 54 9 <|
 Zf 55 0 2 <|
 Zl 56 1 55 <|
 Zb 57 .lss 54 56 .nil) <| .cond (.t 57) .skip (.exit 2)) <| .seq (.block 3 <| Zr (Zf 60 0 8 <|
 Zl 61 1 60 <|
 Zm 62 9 <|
 Zi 63 1 61 62 <|
 Zl 64 1 63 <|
 Zf 65 1 2 <|
 Zl 66 1 65 <|
 Zi 67 3 64 66 <|
 Zh 68 3 67 <|
 Zq 69 false 36 [.t 68] <|
 Zk 70 .neq 69 0 .nil) <| .cond (.t 70) (Zr (Zo (.mv 4 (.c .nilS)) <|
 Zc 5 13 .nil) .ret) .skip) <| .rg (Zm 58 9 <|
 Zk 59 .add 58 1 <|
 Zm 9 59 .nil)) <| Zr (Zf 71 1 2 <|
 Zl 72 1 71 <|
 Zq 73 false 116 [.t 72] <|
 .wk <| Zm 10 73 .nil) <| .seq (Zr (Zf 74 1 8 <|
 Zl 75 1 74 <|
 Zn 76 75 <|
 Zc 77 0 .nil) <| .block 4 <| .loop <| Zr (Zb 78 .lss 77 76 .nil) <| .seq (.cond (.t 78) .skip (.exit 4)) <| .seq (.block 5 <| Zr (Zm 79 77 <|
 Zi 80 1 75 77 <|
 Zl 81 1 80 <|
 Zm 11 79 <|
 Zm 12 81 .nil) <| .rg (Zm 82 10 <|
 Zm 83 12 <|
 Zf 84 0 8 <|
 Zl 85 1 84 <|
 Zm 86 11 <|
 Zi 87 1 85 86 <|
 Zl 88 1 87 <|
 Zf 89 1 2 <|
 Zl 90 1 89 <|
 Zi 91 3 88 90 <|
 Zh 92 3 91 <|
 Zi 93 3 82 83 <|
 Zs 3 93 92 .nil)) <| .rg (Zk 94 .add 77 1 <|
 Zm 77 94 .nil)) <| Zr (Zm 95 10 <|
 Zm 4 95 <|
 Zc 5 0 .nil) .ret⟩
theorem Qql : Qe Tryz.prog Tryz.f40 = some c40.strip := by kernel_rfl
def Qbp (M : MF) (x : Nat -> Rat) (m : Nat) : MF := fun r c => if c = m then x r else M r c
def Qf3 (E : MF) (piv : List Nat) (m : Nat) : Nat -> (Nat -> Rat)
 | 0 => fun _ => 0
 | j + 1 => fun c => if c = piv.getD j 0 then E j m else Qf3 E piv m j c
def Qme (E : Ech) (R m : Nat) : PV := if (∀ r, r < R -> E.piv.length <= r -> E.M r m = 0) then .tup [.sl 3 (Qr PV.rat (Qf3 E.M E.piv m E.piv.length) m), .int .i64 0] else .tup [PV.rats [], .int .i64 13]
theorem Qabe {M : MF} {x : Nat -> Rat} {m r : Nat} : Qr PV.rat (M r) m ++ [PV.rat (x r)] = Qr PV.rat (Qbp M x m r) (m + 1) := by
 refine List.ext_getElem (by simp [Qr]) fun j h1 h2 => ?_
 have hj : j < m + 1 := by simpa [Qr] using h2
 rw [Qc9]
 unfold Qbp
 by_cases e : j = m
 ·subst e; rw [if_pos rfl, List.getElem_append_right (by simp [Qr])]; simp
 ·rw [if_neg e, List.getElem_append_left (by simp [Qr]; omega), Qc9]
theorem Qabf {γ i ty m B n : Nat} {L : Nat -> Nat} {e0 ty0 : Nat} {xs0 : List PV} {fr : Fr} {hp : HP} {K : Qf} (h : i < n) :
  stX (.nst γ 1 ty ((Q5 (rws B n L)).set i .undef)) (some ⟨e0, ty0, xs0, false⟩) (some [.ms (B + i) m]) γ 1 i 0 fr hp K = K (upd (Qc0 γ fr) γ (.nst γ 1 ty (Q5 (rws B n fun j => if j = i then m else L j)))) hp := by
 have hl : i < ((Q5 (rws B n L)).set i .undef).length := by simpa [Q5, rws] using h
 simp only [stX, hl, exists_true_left, true_and, Nat.le_refl, Nat.zero_add, Option.some.injEq, exists_eq_left', List.length_cons, List.length_nil]
 rw [<- Q9o (L := L) (L' := fun j => if j = i then m else L j) fun j _ => rfl]
 simp [Qc2, Qg8, Q5, PV.ncells, PV.cells, List.map_set]
theorem Qabg {R m K : Nat} {l b : List Rat} (hl : l.length = R * m) (hlb : b.length = R) (hR : 0 < R) (hR2 : R <= 40) (hm : m <= 39) (hs : ∀ q ∈ l, rs q <= 1048576) (hsb : ∀ q ∈ b, rs q <= 1048576) (hK : K <= 2 ^ 20) (hB : Ql8 K R (m + 1) m (Qbp (Q4 l m) (Qbk b) m)) :
  Qd Tryz.prog 40 [PV.mat R m l, PV.rats b] (· = Qme (Q8 R (Qbp (Q4 l m) (Qbk b) m) m) R m) := by
 have hEp := Qct R (Qbp (Q4 l m) (Qbk b) m) m
 have hEb := (hB m (Nat.le_refl _)).1
 have c1 := Qg5 hl hR2 (show m <= 40 by omega) hs
 have hfree : ∀ (hp : HP), (∀ x, 5 <= x -> hp x = none) -> ∀ x, nmR R x = true -> hp x = none := fun hp h x hx => h x (by have := Qht hx; omega)
 obtain ⟨X, hX⟩ : ∃ X, Qbk b = X := ⟨_, rfl⟩
 have hrx : PV.rats b = .sl 3 (Qr PV.rat X R) := by rw [PV.rats, <- hX, <- hlb, Qnh]
 have hnm : Qd Tryz.prog 89 [.sl 3 (Qr PV.rat X R)] (· = .bool true) := by
  have := Qgk (l := b.map qR) (Qve (by omega) (k := 1048576) (by omega) hsb)
  rw [<- Qh7, hrx] at this
  have e : (b.map qR).all Qcf = true := by
   rw [List.all_eq_true]
   intro y hy
   obtain ⟨q, _, rfl⟩ := List.mem_map.1 hy
   exact Qut q
  rw [e] at this; exact this
 rw [hX] at hEp hEb hB ⊢
 rw [hrx]
 have hrl : (Qr PV.rat X R).length = R := Qal _ _ _
 refine Qeu Qt Tryz.func40 rfl Qql (by simp [c40]) fun C hP => ?_; simp only [c40, Zo, Zg, Zm, Zc, Zf, Zl, Zh, Zs, Zi, Zb, Zk, Zn, Zu, Zq, Zr, Zz]
 simp +decide (disch := first | exact D0 | fail) only [go_sem, ↓reduceIte]
 refine Qa hP c1 rfl rfl rfl ?_
 simp +decide (disch := first | exact D0 | fail) only [go_sem, ↓reduceIte]
 refine Qa hP hnm rfl rfl rfl ?_
 simp +decide (disch := first | exact D1 hrl | fail) only [go_sem, ↓reduceIte, hrl]
 refine Qj6 hP hl hR hR2 (by omega) (by omega) (hfree _ (fun x hx => by simp +decide (disch := first | exact D1 (show ¬ x = 2 from by omega) | fail) only [go_sem, ↓reduceIte, show ¬ x = 2 from by omega] <;> rfl)) ?_
 simp +decide (disch := first | omega | rfl | (simp +decide only [go_sem, ↓reduceIte, Qa8, Qc1, Qaw] <;> rfl) | fail) only [go_sem, ↓reduceIte, Qa8, Qc1, Qaw]
 refine Qbn (by repeat (first | exact Qw | exact Qn | exact Qo | exact Qp | exact Qq | apply Qm | apply Qv | apply Q3 | apply Qaa | apply Qab | apply Ql | apply Qx)) [(6, 7), (30, 46), (2000000, 2000000)] [43, 44] (fun q J hp => ∃ i, q = R - i /\ i <= R /\ J 6 = .nso 2000000 0 R /\ J 30 = .int .i64 (i : Nat) /\ J 2000000 = .nst 2000000 1 22 (Q5 (rws 3000000 R fun r => if r < i then m + 1 else m)) /\ hp 2 = some ⟨3, 24, [PV.mat R m l], false⟩ /\ hp 2000000 = some ⟨1, 22, [], false⟩ /\
   (∀ r, r < i -> hp (3000000 + r) = some ⟨3, 32, Qr PV.rat (Qbp (Q4 l m) X m r) (m + 1), false⟩) /\ ∀ r, i <= r -> r < R -> hp (3000000 + r) = some ⟨3, 32, Qr PV.rat (Q4 l m r) m, false⟩) R ?_ ?_
 ·refine ⟨0, rfl, by omega, ?_⟩
  simp +decide (disch := first | omega | rfl | (simp +decide only [go_sem, ↓reduceIte, Qa8, Qc1, Qaw, Qf1] <;> rfl) | fail) only [go_sem, ↓reduceIte, Qa8, Qc1, Qaw, Qf1]
  refine ⟨rfl, ?_, (fun r hr => by omega), fun r _ hr => by simp +decide (disch := first | omega | rfl | (simp +decide only [go_sem, ↓reduceIte, Qec] <;> rfl) | fail) only [go_sem, ↓reduceIte, Qec]⟩
  rw [<- Qyn]
  have : (fun r => if r < 0 then m + 1 else m) = fun _ => m := by funext r; rw [if_neg (by omega)]
  rw [this]
 rintro _ J h ⟨i, rfl, hi, h6, h30, hg, h2, hh, hr1, hr2⟩
 simp +decide (disch := first | exact D2 h6 h30 | fail) only [go_sem, ↓reduceIte, h6, h30]
 refine Qb (fun hc => ?_) (fun hc => ?_)
 ·have hi' : i < R := by omega
  have hld := fun (K : Qf) (fr : Fr) (hp : HP) d (h : fr 2000000 = .nst 2000000 1 22 (Q5 (rws 3000000 R fun r => if r < i then m + 1 else m))) => Qac1 (K := K) (d := d) (hp := hp) h hi'
  have er := hr2 i (Nat.le_refl _) hi'
  have hii : (if i < i then m + 1 else m) = m := if_neg (by omega)
  simp +decide (disch := first | exact D6 h6 h30 hg hh hld hii | fail) only [go_sem, ↓reduceIte, h6, h30, hg, hh, hld, hii]
  rw [Qwz (xs := Qr PV.rat (Q4 l m i) m) (y := PV.rat (X i)) (ty' := 32) (fz := false) (T1 er) T0 (by omega) (Qal _ _ _).symm (by omega) (by omega) (by omega)]
  have htk := Q1i (γ := 2000000) (e := 1) (ty := 22) (L := fun r => if r < i then m + 1 else m) (B := 3000000) hi' (by omega)
  rw [Qabe]
  simp +decide (disch := first | exact D5 h6 h30 hg hh htk | fail) only [go_sem, ↓reduceIte, h6, h30, hg, hh, htk]
  have hL : (fun j => if j = i then m + 1 else if j < i then m + 1 else m) = fun r => if r < i + 1 then m + 1 else m := by
   funext r
   by_cases e : r = i
   ·rw [if_pos e, if_pos (by omega)]
   ·rw [if_neg e]
    by_cases e2 : r < i
    ·rw [if_pos e2, if_pos (by omega)]
    ·rw [if_neg e2, if_neg (by omega)]
  rw [Qabf hi', hL]
  simp +decide (disch := first | exact D2 h6 h30 | fail) only [go_sem, ↓reduceIte, h6, h30]
  refine Qa7 (R - (i + 1)) (by omega) ⟨i + 1, rfl, by omega, ?_⟩
  simp +decide (disch := first | exact D3 h6 h2 hh | fail) only [go_sem, ↓reduceIte, h6, h2, hh]
  refine ⟨fun r hr => ?_, fun r hr hr3 => ?_⟩
  ·by_cases e : r = i
   ·subst e; rw [if_pos rfl]
   ·rw [if_neg e]; exact hr1 r (by omega)
  ·rw [if_neg (by omega)]; exact hr2 r (by omega) hr3
 obtain rfl : R = i := by omega
 have hW : Q5 (rws 3000000 R fun r => if r < R then m + 1 else m) = Q5 (Qar 3000000 R (m + 1) id) := by
  rw [<- Qyn]
  refine congrArg Q5 (List.ext_getElem (by simp [rws]) fun j h1 h2 => ?_)
  have hj : j < R := by simpa [rws] using h1
  rw [Qfy, Qfy, if_pos hj]
 rw [hW] at hg
 simp +decide (disch := first | exact D3 h6 h2 h30 | fail) only [go_sem, ↓reduceIte, h6, h2, h30]
 refine Qkq (K := K) (M := Qbp (Q4 l m) X m) (ty := 22) (tyr := 32) hP hR hR2 (show m + 1 <= 40 by omega) (show m <= m + 1 by omega) hK hB (T1 hg) (T1 hh) hr1 ?_
 obtain ⟨E, hE⟩ : ∃ E, Q8 R (Qbp (Q4 l m) X m) m = E := ⟨_, rfl⟩
 rw [hE] at hEp hEb ⊢
 have hEl : Qhs E.M R (m + 1) = Qr (PV.rowD (m + 1)) E.M R := rfl
 rw [Qu9, Qva Q2l]
 simp +decide (disch := first | omega | rfl | (simp +decide only [go_sem, ↓reduceIte, hEl, h2, Qa8, Qc1] <;> rfl) | fail) only [go_sem, ↓reduceIte, hEl, h2, Qa8, Qc1]
 have hE8 : ∀ r, r = R -> PV.ech r (m + 1) E = .agg [.sl 1 (Qr (PV.rowD (m + 1)) E.M R), .sl 1 (Qgd E.piv), .bool (decide (E.det.num < 0)), PV.num E.det.num.natAbs, PV.num E.det.den] := fun r h => by subst h; rfl
 refine Qbn (by repeat (first | exact Qw | exact Qn | exact Qo | exact Qp | exact Qq | apply Qm | apply Qv | apply Q3 | apply Qaa | apply Qab | apply Ql | apply Qx)) [(4, 5), (9, 9), (54, 70)] [] (fun q J hp => ∃ r, q = R - r /\ E.piv.length <= r /\ r <= R /\ (∀ j, E.piv.length <= j -> j < r -> E.M j m = 0) /\ J 9 = .int .i64 (r : Nat) /\ hp 2 = some ⟨3, 24, [PV.mat R m l], false⟩ /\ hp 8 = some ⟨5, 93, [.agg [.sl 1 (Qr (PV.rowD (m + 1)) E.M R), .sl 1 (Qgd E.piv), .bool (decide (E.det.num < 0)), PV.num E.det.num.natAbs, PV.num E.det.den]], false⟩ /\ hp 2000000 = none) (R - E.piv.length) ?_ ?_
 ·refine ⟨E.piv.length, rfl, Nat.le_refl _, by omega, fun j h1 h2 => by omega, ?_⟩
  simp +decide (disch := first | omega | rfl | (simp +decide only [go_sem, ↓reduceIte, h2, hE8, Qa8, Qc1] <;> rfl) | fail) only [go_sem, ↓reduceIte, h2, hE8, Qa8, Qc1]
 rintro _ J2 hp2 ⟨r, rfl, hr, hrR, hz, i9, i2, i8, iN⟩
 simp +decide (disch := first | exact D2 i9 i2 | fail) only [go_sem, ↓reduceIte, i9, i2]
 refine Qb (fun hc2 => ?_) (fun hc2 => ?_)
 ·have hr' : r < R := by omega
  simp +decide (disch := first | exact D3 i9 i2 i8 | fail) only [go_sem, ↓reduceIte, i9, i2, i8]
  have hb1 := hEb r hr' m (by omega)
  refine Qa hP (Qlc (a := E.M r m) (by omega)) rfl rfl rfl ?_
  simp +decide (disch := first | exact D1 i9 | fail) only [go_sem, ↓reduceIte, i9]
  refine Qb (fun hq => ?_) (fun hq => ?_)
  ·have hq0 : ¬ E.M r m = 0 := fun e => hq (Qcz.2 e)
   have hres : Qme E R m = .tup [PV.rats [], .int .i64 13] := if_neg fun h => hq0 (h r hr' hr)
   simp +decide (disch := first | exact D0 | fail) only [go_sem, ↓reduceIte]
   refine Qd8 (Qcq ?_)
   simp +decide (disch := first | exact D1 hres | fail) only [go_sem, ↓reduceIte, hres]
   exact Qc5 rfl rfl rfl (show PV.le .nilS (.sl 3 []) from trivial) (Qz _)
  ·have hq0 : E.M r m = 0 := Decidable.byContradiction fun e => hq fun h => e (Qcz.1 h)
   simp +decide (disch := first | exact D1 i9 | fail) only [go_sem, ↓reduceIte, i9]
   refine Qa7 (R - (r + 1)) (by omega) ⟨r + 1, rfl, by omega, by omega, fun j h1 h2 => ?_, ?_⟩
   ·by_cases e : j = r
    ·rw [e]; exact hq0
    ·exact hz j h1 (by omega)
   simp +decide (disch := first | exact D3 i2 i8 iN | fail) only [go_sem, ↓reduceIte, i2, i8, iN]
 ·obtain rfl : R = r := by omega
  simp +decide (disch := first | exact D1 i2 | fail) only [go_sem, ↓reduceIte, i2]
  refine Qri hP (Qkr (n := m) (by omega)) iN (by intro x hx γ e ty xs; rw [List.mem_singleton.1 hx]; intro h; cases h) rfl (by simp) ?_
  simp +decide (disch := first | exact D0 | fail) only [go_sem, ↓reduceIte]
  refine Qdg (Wk.refl _ _) ?_
  simp +decide (disch := first | exact D1 i8 | fail) only [go_sem, ↓reduceIte, i8]
  refine Qbn (by repeat (first | exact Qw | exact Qn | exact Qo | exact Qp | exact Qq | apply Qm | apply Qv | apply Q3 | apply Qaa | apply Qab | apply Ql | apply Qx)) [(10, 12), (77, 94)] [] (fun q J hp => ∃ j, q = E.piv.length - j /\ j <= E.piv.length /\ J 10 = .mso 2000000 0 m /\ J 77 = .int .i64 (j : Nat) /\ hp 2 = some ⟨3, 24, [PV.mat R m l], false⟩ /\ hp 8 = some ⟨5, 93, [.agg [.sl 1 (Qr (PV.rowD (m + 1)) E.M R), .sl 1 (Qgd E.piv), .bool (decide (E.det.num < 0)), PV.num E.det.num.natAbs, PV.num E.det.den]], false⟩ /\ hp 2000000 = some ⟨3, 32, Qr PV.rat (Qf3 E.M E.piv m j) m, false⟩) E.piv.length ?_ ?_
  ·refine ⟨0, rfl, by omega, ?_⟩
   have e0 : (fun _ => (0 : Rat)) = Qf3 E.M E.piv m 0 := rfl
   simp +decide (disch := first | exact D3 i2 i8 e0 | fail) only [go_sem, ↓reduceIte, i2, i8, e0]
   rfl
  rintro _ J3 hp3 ⟨j, rfl, hj, k10, k77, k2, k8, kx⟩
  simp +decide (disch := first | exact D1 k77 | fail) only [go_sem, ↓reduceIte, k77]
  refine Qb (fun hc3 => ?_) (fun hc3 => ?_)
  ·have hj' : j < E.piv.length := by omega
   have hRj : j < R := by omega
   have hpj : E.piv[j] < m := hEp.2.2 _ (List.getElem_mem hj')
   simp +decide (disch := first | exact D5 k10 k77 k2 k8 kx | fail) only [go_sem, ↓reduceIte, k10, k77, k2, k8, kx]
   rw [Qiz (v := E.M j m) hpj]
   have e1 : (fun c => if c = E.piv[j] then E.M j m else Qf3 E.M E.piv m j c) = Qf3 E.M E.piv m (j + 1) := by
    funext c
    show _ = if c = E.piv.getD j 0 then _ else _
    rw [List.getD_eq_getElem?_getD, List.getElem?_eq_getElem hj', Option.getD_some]
   simp +decide (disch := first | exact D1 k77 | fail) only [go_sem, ↓reduceIte, k77]
   refine Qa7 (E.piv.length - (j + 1)) (by omega) ⟨j + 1, rfl, by omega, ?_⟩
   simp +decide (disch := first | exact D4 k10 k2 k8 e1 | fail) only [go_sem, ↓reduceIte, k10, k2, k8, e1]
  ·obtain rfl : j = E.piv.length := by omega
   simp +decide (disch := first | exact D1 k10 | fail) only [go_sem, ↓reduceIte, k10]
   refine Qd8 (Qcq ?_)
   simp +decide (disch := first | exact D1 kx | fail) only [go_sem, ↓reduceIte, kx]
   have hsn : Q6 hp3 (.mso 2000000 0 m) = .sl 3 (Qr PV.rat (Qf3 E.M E.piv m E.piv.length) m) := by
    simp only [Q6, Qaq, kx]
    rw [if_neg (by decide), List.drop_zero, List.take_of_length_le (by rw [Qal]; omega)]
   have hres : Qme E R m = .tup [.sl 3 (Qr PV.rat (Qf3 E.M E.piv m E.piv.length) m), .int .i64 0] := if_pos fun r h1 h2 => hz r h2 h1
   rw [hsn, hres]
   exact Qc5 rfl rfl rfl (Qz _) (Qz _)
theorem Q66 {m : Nat} {M : MF} (hm : m <= 40) : Qd Tryz.prog 40 [PV.mat 0 m [], PV.rats []] (· = Qme (Q8 0 M m) 0 m) := by
 have c1 := Qg5 (l := []) (R := 0) (m := m) (by simp) (by omega) (show m <= 40 by omega) (by intro q hq; cases hq)
 have hnm : Qd Tryz.prog 89 [PV.rats []] (· = .bool true) := Qgk (l := ([] : List Rat).map qR) (Qve (by simp) (k := 3) (by omega) (by intro q hq; cases hq))
 have c2 := Qko (l := []) (R := 0) (m := m) (by simp) (by omega) (by omega)
 have c3 : Qd Tryz.prog 77 [.sl 1 (Qhs (Q4 [] m) 0 m), .int .i64 (m : Nat)] (· = PV.ech 0 m (Q8 0 M m)) := Qmc (M := M) (w := m) (n := m) (by omega)
 rw [show Qhs (Q4 [] m) 0 m = [] from rfl] at c2 c3
 have hEp := Qct 0 M m
 obtain ⟨E, hE⟩ : ∃ E, Q8 0 M m = E := ⟨_, rfl⟩
 rw [hE] at c3 hEp ⊢
 have hpl : E.piv.length = 0 := by omega
 have hres : Qme E 0 m = .tup [.sl 3 (Qr PV.rat (fun _ => 0) m), .int .i64 0] := by
  unfold Qme
  rw [if_pos fun r h => absurd h (by omega), hpl]
  rfl
 rw [hres]
 refine Qeu Qt Tryz.func40 rfl Qql (by simp [c40]) fun C hP => ?_; simp only [c40, Zo, Zg, Zm, Zc, Zf, Zl, Zh, Zs, Zi, Zb, Zk, Zn, Zu, Zq, Zr, Zz]
 simp +decide (disch := first | exact D0 | fail) only [go_sem, ↓reduceIte]
 refine Qa hP c1 rfl rfl rfl ?_
 simp +decide (disch := first | exact D0 | fail) only [go_sem, ↓reduceIte]
 refine Qa hP hnm rfl rfl rfl ?_
 simp +decide (disch := first | exact D0 | fail) only [go_sem, ↓reduceIte]
 refine Qa hP c2 rfl rfl rfl ?_
 simp +decide (disch := first | exact D0 | fail) only [go_sem, ↓reduceIte]
 refine Qbn (by repeat (first | exact Qw | exact Qn | exact Qo | exact Qp | exact Qq | apply Qm | apply Qv | apply Q3 | apply Qaa | apply Qab | apply Ql | apply Qx)) [(7, 7), (30, 46)] [43, 44] (fun q J hp => J 30 = .int .i64 0 /\ J 6 = .sl 1 [] /\ hp 2 = some ⟨3, 24, [PV.mat 0 m []], false⟩ /\ hp 2000000 = none) 0 ?_ ?_
 ·simp +decide (disch := first | exact D0 | fail) only [go_sem, ↓reduceIte]
 rintro _ J h ⟨j30, j6, h2, hN⟩
 simp +decide (disch := first | exact D3 j30 j6 h2 | fail) only [go_sem, ↓reduceIte, j30, j6, h2]
 refine Qa hP c3 rfl rfl rfl ?_
 have hE8 : PV.ech 0 m E = .agg [.sl 1 [], .sl 1 (Qgd E.piv), .bool (decide (E.det.num < 0)), PV.num E.det.num.natAbs, PV.num E.det.den] := rfl
 have hpl2 : (Qgd E.piv).length = 0 := by simp [Qgd, hpl]
 simp +decide (disch := first | exact D2 h2 hpl | fail) only [go_sem, ↓reduceIte, h2, hpl]
 refine Qbn (by repeat (first | exact Qw | exact Qn | exact Qo | exact Qp | exact Qq | apply Qm | apply Qv | apply Q3 | apply Qaa | apply Qab | apply Ql | apply Qx)) [(4, 5), (9, 9), (54, 70)] [] (fun q J hp => J 9 = .int .i64 0 /\ hp 2 = some ⟨3, 24, [PV.mat 0 m []], false⟩ /\ hp 8 = some ⟨5, 93, [.agg [.sl 1 [], .sl 1 (Qgd E.piv), .bool (decide (E.det.num < 0)), PV.num E.det.num.natAbs, PV.num E.det.den]], false⟩ /\ hp 2000000 = none) 0 ?_ ?_
 ·simp +decide (disch := first | exact D3 hE8 h2 hN | fail) only [go_sem, ↓reduceIte, hE8, h2, hN]
  rfl
 rintro _ J2 hp2 ⟨i9, i2, i8, iN⟩
 simp +decide (disch := first | exact D2 i9 i2 | fail) only [go_sem, ↓reduceIte, i9, i2]
 refine Qri hP (Qkr (n := m) (by omega)) iN (by intro x hx γ e ty xs; rw [List.mem_singleton.1 hx]; intro h; cases h) rfl (by simp) ?_
 simp +decide (disch := first | exact D0 | fail) only [go_sem, ↓reduceIte]
 refine Qdg (Wk.refl _ _) ?_
 simp +decide (disch := first | exact D2 i8 hpl2 | fail) only [go_sem, ↓reduceIte, i8, hpl2]
 refine Qbn (by repeat (first | exact Qw | exact Qn | exact Qo | exact Qp | exact Qq | apply Qm | apply Qv | apply Q3 | apply Qaa | apply Qab | apply Ql | apply Qx)) [(10, 12), (77, 94)] [] (fun q J hp => J 10 = .mso 2000000 0 m /\ J 77 = .int .i64 0 /\ hp 2000000 = some ⟨3, 32, Qr PV.rat (fun _ => 0) m, false⟩) 0 ?_ ?_
 ·simp +decide (disch := first | exact D0 | fail) only [go_sem, ↓reduceIte]
 rintro _ J3 hp3 ⟨k10, k77, kx⟩
 simp +decide (disch := first | exact D2 k77 k10 | fail) only [go_sem, ↓reduceIte, k77, k10]
 refine Qd8 (Qcq ?_)
 have hsn : Q6 hp3 (.mso 2000000 0 m) = .sl 3 (Qr PV.rat (fun _ => (0 : Rat)) m) := by
  simp only [Q6, Qaq, kx]
  rw [if_neg (by decide), List.drop_zero, List.take_of_length_le (by rw [Qal]; omega)]
 simp +decide (disch := first | exact D0 | fail) only [go_sem, ↓reduceIte]
 rw [hsn]
 exact Qc5 rfl rfl rfl (Qz _) (Qz _)
end Go.Proofs.YtmnkngmmfnncoaaGreat
namespace Go.Proofs.YtmnkngmmfnncoaaGreat
open Go Go.FW
set_option linter.unusedSimpArgs false
set_option linter.unusedVariables false
set_option maxRecDepth 100000
theorem Qh8 {x x' y y' : Nat -> Rat} : ∀ n, (∀ c, c < n -> x c = x' c /\ y c = y' c) -> Qan x y n = Qan x' y' n
 | 0, _ => rfl
 | n + 1, h => by
  simp only [Qan]
  rw [Qh8 n fun c hc => h c (by omega), (h n (by omega)).1, (h n (by omega)).2]
theorem Qvf {x y : Nat -> Rat} : ∀ n, (∀ c, c < n -> x c = 0) -> Qan x y n = 0
 | 0, _ => rfl
 | n + 1, h => by
  simp only [Qan]
  rw [Qvf n fun c hc => h c (by omega), h n (by omega)]; grind
theorem Qni {x : Nat -> Rat} : ∀ n, Qan x (fun _ => 0) n = 0
 | 0 => rfl
 | n + 1 => by
  simp only [Qan]
  rw [Qni n]; grind
theorem Qxc {f x : Nat -> Rat} {p : Rat} (hp : p ≠ 0) : ∀ n, Qan (fun c => f c / p) x n * p = Qan f x n
 | 0 => by simp only [Qan]; grind
 | n + 1 => by
  have := Qxc (f := f) (x := x) hp n
  simp only [Qan]
  rw [<- this]
  grind
theorem Qxd {f g x : Nat -> Rat} {q : Rat} : ∀ n, Qan (fun c => f c - q * g c) x n = Qan f x n - q * Qan g x n
 | 0 => by simp only [Qan]; grind
 | n + 1 => by
  have := Qxd (f := f) (g := g) (x := x) (q := q) n
  simp only [Qan]
  rw [this]
  grind
theorem Qrj {y x : Nat -> Rat} {a : Nat} {v : Rat} : ∀ n, Qan y (fun c => if c = a then v else x c) n = Qan y x n + (if a < n then y a * (v - x a) else 0)
 | 0 => by simp only [Qan]; grind
 | n + 1 => by
  have h := Qrj (y := y) (x := x) (a := a) (v := v) n
  simp only [Qan]
  rw [h]
  by_cases e : n = a
  ·subst e
   rw [if_pos rfl, if_neg (by omega), if_pos (by omega)]; grind
  ·rw [if_neg e]
   by_cases e2 : a < n
   ·rw [if_pos e2, if_pos (by omega)]; grind
   ·rw [if_neg e2, if_neg (by omega)]; grind
def Qpb (M : MF) (R w : Nat) (x : Nat -> Rat) : Prop := ∀ r, r < R -> Qan (M r) x w = 0
theorem Q67 {R w k : Nat} {E : Ech} {x : Nat -> Rat} (hn : E.piv.length <= R) : Qpb (Qde R E k).M R w x ↔ Qpb E.M R w x := by
 unfold Qde
 split
 ·exact Iff.rfl
 rename_i hp
 have hle := Qk9 E.M k (R - E.piv.length) E.piv.length
 have hne := Qn3 E.M k (R - E.piv.length) E.piv.length
 have hi1 : E.piv.length <= Qcs E.M R k E.piv.length := hle.1
 have hi2 : Qcs E.M R k E.piv.length < R := by
  have : Qcs E.M R k E.piv.length <= E.piv.length + (R - E.piv.length) := hle.2
  omega
 have hp0 : E.M (Qcs E.M R k E.piv.length) k ≠ 0 := hne (by
  show Qcs E.M R k E.piv.length < _
  omega)
 generalize hi : Qcs E.M R k E.piv.length = i at *
 generalize hn' : E.piv.length = n at *
 generalize hpp : E.M i k = p at *
 have hN : ∀ r, Qan (Qbi (Qax E.M i n) n p r) x w * (if r = n then p else 1) = Qan (if r = n then E.M i else if r = i then E.M n else E.M r) x w := by
  intro r
  by_cases e : r = n
  ·subst e
   rw [if_pos rfl, if_pos rfl]
   have : Qbi (Qax E.M i r) r p r = fun c => E.M i c / p := by funext c; simp [Qbi, Qax]
   rw [this]
   exact Qxc hp0 w
  ·rw [if_neg e, if_neg e]
   have : Qbi (Qax E.M i n) n p r = if r = i then E.M n else E.M r := by
    funext c; simp [Qbi, Qax, e]
   rw [this]; grind
 have hL : ∀ r, Qan (Qfz (Qbi (Qax E.M i n) n p) n k r) x w = if r = n then Qan (Qbi (Qax E.M i n) n p n) x w else Qan (Qbi (Qax E.M i n) n p r) x w - Qbi (Qax E.M i n) n p r k * Qan (Qbi (Qax E.M i n) n p n) x w := by
  intro r
  by_cases e : r = n
  ·subst e; rw [if_pos rfl]
   refine Qh8 w fun c _ => ⟨by simp [Qfz], rfl⟩
  ·rw [if_neg e, <- Qxd]
   refine Qh8 w fun c _ => ⟨by simp [Qfz, e], rfl⟩
 generalize Qbi (Qax E.M i n) n p = N at *
 constructor
 ·intro h
  have h1 : Qan (N n) x w = 0 := by have := h n (by omega); rwa [hL, if_pos rfl] at this
  have h2 : ∀ r, r < R -> Qan (N r) x w = 0 := fun r hr => by
   by_cases e : r = n
   ·rw [e]; exact h1
   ·have := h r hr
    rw [hL, if_neg e, h1] at this; grind
  have h3 : ∀ r, r < R -> Qan (if r = n then E.M i else if r = i then E.M n else E.M r) x w = 0 := fun r hr => by
   rw [<- hN r, h2 r hr]; grind
  intro r hr
  by_cases e : r = i
  ·have := h3 n (by omega)
   rw [if_pos rfl] at this; rw [e]; exact this
  ·by_cases e2 : r = n
   ·have := h3 i hi2
    by_cases e3 : i = n
    ·omega
    ·rw [if_neg e3, if_pos rfl] at this; rw [e2]; exact this
   ·have := h3 r hr
    rw [if_neg e2, if_neg e] at this; exact this
 ·intro h
  have h3 : ∀ r, r < R -> Qan (if r = n then E.M i else if r = i then E.M n else E.M r) x w = 0 := fun r hr => by
   split
   ·exact h i hi2
   ·split
    ·exact h n (by omega)
    ·exact h r hr
  have h2 : ∀ r, r < R -> Qan (N r) x w = 0 := fun r hr => by
   have := hN r
   rw [h3 r hr] at this
   by_cases e : r = n
   ·rw [if_pos e] at this; grind
   ·rw [if_neg e] at this; grind
  intro r hr
  show Qan (Qfz N n k r) x w = 0
  rw [hL]
  split
  ·exact h2 n (by omega)
  ·rw [h2 r hr, h2 n (by omega)]; grind
theorem Qmf {R w : Nat} {M : MF} {x : Nat -> Rat} : ∀ k, Qpb (Q8 R M k).M R w x ↔ Qpb M R w x
 | 0 => Iff.rfl
 | k + 1 => (Q67 (Qct R M k).2.1).trans (Qmf k)
def Qy9 (R k : Nat) (E : Ech) : Prop := (∀ j (hj : j < E.piv.length), ∀ r, r < R -> E.M r E.piv[j] = if r = j then 1 else 0) /\ ∀ r, E.piv.length <= r -> r < R -> ∀ c, c < k -> E.M r c = 0
theorem Q2n {R k : Nat} {E : Ech} (hn : E.piv.length <= R) (hpk : ∀ x ∈ E.piv, x < k) (h : Qy9 R k E) : Qy9 R (k + 1) (Qde R E k) := by
 obtain ⟨hu, hz⟩ := h
 unfold Qde
 split
 ·rename_i hp
  refine ⟨hu, fun r h1 h2 c hc => ?_⟩
  by_cases e : c = k
  ·subst e
   exact Qsd E.M c (R - E.piv.length) E.piv.length r h1 (by
    show r < Qcs E.M R c E.piv.length
    omega)
  ·exact hz r h1 h2 c (by omega)
 rename_i hp
 have hle := Qk9 E.M k (R - E.piv.length) E.piv.length
 have hne := Qn3 E.M k (R - E.piv.length) E.piv.length
 have hi1 : E.piv.length <= Qcs E.M R k E.piv.length := hle.1
 have hi2 : Qcs E.M R k E.piv.length < R := by
  have : Qcs E.M R k E.piv.length <= E.piv.length + (R - E.piv.length) := hle.2
  omega
 have hp0 : E.M (Qcs E.M R k E.piv.length) k ≠ 0 := hne (by
  show Qcs E.M R k E.piv.length < _
  omega)
 generalize hi : Qcs E.M R k E.piv.length = i at *
 obtain ⟨n, hn'⟩ : ∃ n, n = E.piv.length := ⟨_, rfl⟩
 rw [<- hn'] at hz hi1 hi hn ⊢
 generalize hpp : E.M i k = p at *
 have hN : ∀ r c, Qbi (Qax E.M i n) n p r c = if r = n then E.M i c / p else if r = i then E.M n c else E.M r c := by
  intro r c
  by_cases e : r = n
  ·rw [if_pos e]; simp [Qbi, Qax, e]
  ·rw [if_neg e]
   simp only [Qbi, Qax]
   rw [if_neg e, if_neg e]
   by_cases e2 : r = i
   ·rw [if_pos e2, if_pos e2]
   ·rw [if_neg e2, if_neg e2]
 have hNu : ∀ j (hj : j < n) r, r < R -> Qbi (Qax E.M i n) n p r (E.piv[j]'(by omega)) = if r = j then 1 else 0 := by
  intro j hj r hr
  have hj2 : j < E.piv.length := by omega
  rw [hN]
  by_cases e : r = n
  ·have h1 := hu j (by omega) i hi2
   rw [if_neg (by omega)] at h1
   rw [if_pos e, h1, if_neg (by omega)]; grind
  ·rw [if_neg e]
   by_cases e2 : r = i
   ·rw [if_pos e2, hu j (by omega) n (by omega), if_neg (by omega), if_neg (by omega)]
   ·rw [if_neg e2]; exact hu j (by omega) r hr
 have hNz : ∀ r, n <= r -> r < R -> ∀ c, c < k -> Qbi (Qax E.M i n) n p r c = 0 := by
  intro r h1 h2 c hc
  rw [hN]
  split
  ·rw [hz i hi1 hi2 c hc]; grind
  ·split
   ·exact hz n (by omega) (by omega) c hc
   ·exact hz r h1 h2 c hc
 have hNk : Qbi (Qax E.M i n) n p n k = 1 := by rw [hN, if_pos rfl, hpp]; grind
 have hE : ∀ r c, Qfz (Qbi (Qax E.M i n) n p) n k r c = if r = n then Qbi (Qax E.M i n) n p n c else Qbi (Qax E.M i n) n p r c - Qbi (Qax E.M i n) n p r k * Qbi (Qax E.M i n) n p n c := fun r c => rfl
 generalize Qbi (Qax E.M i n) n p = N at *
 have hlen : (E.piv ++ [k]).length = n + 1 := by simp [hn']
 refine ⟨fun j hj r hr => ?_, fun r h1 h2 c hc => ?_⟩
 ·simp only [hlen] at hj
  show Qfz N n k r ((E.piv ++ [k])[j]) = _
  rw [hE]
  by_cases e : j = n
  ·have : (E.piv ++ [k])[j]'(by rw [hlen]; omega) = k := by
    rw [List.getElem_append_right (by omega)]; simp
   rw [this, hNk, e]
   by_cases e2 : r = n
   ·rw [if_pos e2, if_pos e2]
   ·rw [if_neg e2, if_neg e2]; grind
  ·have hj' : j < n := by omega
   have : (E.piv ++ [k])[j]'(by rw [hlen]; omega) = E.piv[j]'(by omega) := List.getElem_append_left (by omega)
   rw [this, hNu j hj' n (by omega), if_neg (by omega : ¬ n = j)]
   by_cases e2 : r = n
   ·rw [if_pos e2, if_neg (by omega)]
   ·rw [if_neg e2, hNu j hj' r hr]; grind
 ·rw [hlen] at h1
  show Qfz N n k r c = 0
  rw [hE, if_neg (by omega)]
  by_cases e : c = k
  ·rw [e, hNk]; grind
  ·rw [hNz r (by omega) h2 c (by omega), hNz n (by omega) (by omega) c (by omega)]; grind
theorem Qj8 {R : Nat} {M : MF} : ∀ k, Qy9 R k (Q8 R M k)
 | 0 => ⟨fun j hj => by simp [Q8] at hj, fun r _ _ c hc => by omega⟩
 | k + 1 => Q2n (Qct R M k).2.1 (Qct R M k).2.2 (Qj8 k)
def Qjl (piv : List Nat) (x : Nat -> Rat) (val : Nat -> Rat) : Nat -> (Nat -> Rat)
 | 0 => x
 | j + 1 => fun c => if c = piv.getD j 0 then val j else Qjl piv x val j c
theorem Qvg {piv : List Nat} {x val : Nat -> Rat} {c : Nat} : ∀ j, j <= piv.length -> (∀ i (hi : i < piv.length), i < j -> piv[i] ≠ c) -> Qjl piv x val j c = x c
 | 0, _, _ => rfl
 | j + 1, hj, h => by
  have e : piv.getD j 0 = piv[j]'(by omega) := by rw [List.getD_eq_getElem?_getD, List.getElem?_eq_getElem (by omega), Option.getD_some]
  simp only [Qjl]
  rw [e, if_neg fun e2 => h j (by omega) (by omega) e2.symm]
  exact Qvg j (by omega) fun i hi hij => h i hi (by omega)
theorem Qrk {R w : Nat} {E : Ech} {x val : Nat -> Rat} (hs : E.piv.Pairwise (· < ·)) (hu : Qy9 R w E) (hw : ∀ y ∈ E.piv, y < w) (hx : ∀ y ∈ E.piv, x y = 0) {r : Nat} (hr : r < R) : ∀ j, j <= E.piv.length -> Qan (E.M r) (Qjl E.piv x val j) w = Qan (E.M r) x w + if r < j then val r else 0
 | 0, _ => by
  rw [if_neg (by omega)]
  simp only [Qjl]; grind
 | j + 1, hj => by
  have hj' : j < E.piv.length := by omega
  have h := Qrk (val := val) hs hu hw hx hr j (by omega)
  have e : E.piv.getD j 0 = E.piv[j] := by rw [List.getD_eq_getElem?_getD, List.getElem?_eq_getElem (by omega), Option.getD_some]
  have hm : E.piv[j] ∈ E.piv := List.getElem_mem hj'
  have h0 : Qjl E.piv x val j E.piv[j] = 0 := by
   rw [Qvg j (by omega) fun i hi hij => by have := Qvb hs hij hj'; omega]
   exact hx _ hm
  simp only [Qjl]
  rw [e, Qrj, h, if_pos (hw _ hm), h0, hu.1 j hj' r hr]
  by_cases e1 : r = j
  ·subst e1
   rw [if_pos rfl, if_neg (by omega), if_pos (by omega)]; grind
  ·rw [if_neg e1]
   by_cases e2 : r < j
   ·rw [if_pos e2, if_pos (by omega)]; grind
   ·rw [if_neg e2, if_neg (by omega)]; grind
theorem Qvh {E : MF} {piv : List Nat} {k : Nat} : ∀ j, Qg6 E piv k j = Qjl piv (fun c => if c = k then 1 else 0) (fun j => -(E j k)) j
 | 0 => rfl
 | j + 1 => by simp only [Qg6, Qjl]; rw [Qvh j]
theorem Qvi {E : MF} {piv : List Nat} {m : Nat} : ∀ j, Qf3 E piv m j = Qjl piv (fun _ => 0) (fun j => E j m) j
 | 0 => rfl
 | j + 1 => by simp only [Qf3, Qjl]; rw [Qvi j]
theorem Qabh {R m k : Nat} {M : MF} (hk : k < m) (hf : k ∉ (Q8 R M m).piv) : Qpb M R m (Qg6 (Q8 R M m).M (Q8 R M m).piv k (Q8 R M m).piv.length) := by
 rw [<- Qmf (k := m)]
 intro r hr
 have hp := Qct R M m
 have hu := Qj8 (R := R) (M := M) m
 rw [Qvh, Qrk (Qhu R M m) hu hp.2.2 (fun y hy => if_neg fun e => hf (by rw [<- e]; exact hy)) hr _ (Nat.le_refl _)]
 have hd : Qan ((Q8 R M m).M r) (fun c => if c = k then 1 else 0) m = (Q8 R M m).M r k := by
  rw [Qrj (x := fun _ => 0), Qni, if_pos hk]; grind
 rw [hd]
 split
 ·grind
 ·rw [hu.2 r (by omega) hr k hk]; grind
theorem Qxe {M : MF} {b y : Nat -> Rat} {v : Rat} {m r : Nat} : Qan (Qbp M b m r) (fun c => if c = m then v else y c) (m + 1) = Qan (M r) y m + b r * v := by
 simp only [Qan]
 rw [Qh8 (x' := M r) (y' := y) m fun c hc => ⟨by simp only [Qbp]; rw [if_neg (by omega)], by rw [if_neg (by omega)]⟩]
 simp [Qbp]
theorem Qxf {E : MF} {y : Nat -> Rat} {v : Rat} {m r : Nat} : Qan (E r) (fun c => if c = m then v else y c) (m + 1) = Qan (E r) y m + E r m * v := by
 simp only [Qan]
 rw [Qh8 (x' := E r) (y' := y) m fun c hc => ⟨rfl, by rw [if_neg (by omega)]⟩]
 simp
theorem Qabi {R m : Nat} {M : MF} {b : Nat -> Rat} (h : ∀ r, r < R -> (Q8 R (Qbp M b m) m).piv.length <= r -> (Q8 R (Qbp M b m) m).M r m = 0) : ∀ r, r < R -> Qan (M r) (Qf3 (Q8 R (Qbp M b m) m).M (Q8 R (Qbp M b m) m).piv m (Q8 R (Qbp M b m) m).piv.length) m = b r := by
 have hp := Qct R (Qbp M b m) m
 have hu := Qj8 (R := R) (M := Qbp M b m) m
 have hs := Qhu R (Qbp M b m) m
 have hS : Qpb (Qbp M b m) R (m + 1) (fun c => if c = m then -1 else Qf3 (Q8 R (Qbp M b m) m).M (Q8 R (Qbp M b m) m).piv m (Q8 R (Qbp M b m) m).piv.length c) := by
  rw [<- Qmf (k := m)]
  intro r hr
  rw [Qxf, Qvi, Qrk hs hu hp.2.2 (fun y hy => rfl) hr _ (Nat.le_refl _), Qni]
  split
  ·grind
  ·rw [h r hr (by omega)]; grind
 intro r hr
 have := hS r hr
 rw [Qxe] at this
 grind
theorem Qaeq {R m : Nat} {M : MF} {b y : Nat -> Rat} (h : ∀ r, r < R -> Qan (M r) y m = b r) : ∀ r, r < R -> (Q8 R (Qbp M b m) m).piv.length <= r -> (Q8 R (Qbp M b m) m).M r m = 0 := by
 have hS : Qpb (Qbp M b m) R (m + 1) (fun c => if c = m then -1 else y c) := fun r hr => by
  rw [Qxe, h r hr]; grind
 rw [<- Qmf (k := m)] at hS
 intro r hr hl
 have := hS r hr
 rw [Qxf, Qvf m fun c hc => (Qj8 m).2 r hl hr c hc] at this
 grind
end Go.Proofs.YtmnkngmmfnncoaaGreat
namespace Go.Proofs.YtmnkngmmfnncoaaGreat
open Go Go.FW
set_option linter.unusedSimpArgs false
set_option linter.unusedVariables false
set_option maxRecDepth 100000
theorem Qrl : PV.le .nilS (PV.rqs []) := trivial
end Go.Proofs.YtmnkngmmfnncoaaGreat
namespace Go.Proofs.YtmnkngmmfnncoaaGreat
open Go Go.FW
set_option linter.unusedSimpArgs false
set_option linter.unusedVariables false
set_option maxRecDepth 100000
theorem Qpc {R m k : Nat} {l : List Rat} {x : Nat -> Rat} (hl : l.length = R * m) (hR2 : R <= 40) (hm : m <= 40) (hs : ∀ q ∈ l, rs q <= k) (hx : ∀ i, i < m -> rs (x i) <= k) (h1 : 1 <= k) (hk : k <= 2 ^ 24) :
  Qd Tryz.prog 35 [PV.mat R m l, .sl 3 (Qr PV.rat x m)] (· = .sl 3 (Qr PV.rat (fun r => Qan (Q4 l m r) x m) R)) := by
 refine Qh Qt Tryz.func35 rfl Qadz (by simp [c35]) fun C hP => ?_; simp only [c35, Zo, Zg, Zm, Zc, Zf, Zl, Zh, Zs, Zi, Zb, Zk, Zn, Zu, Zq, Zr, Zz]
 simp +decide (disch := first | exact D0 | fail) only [go_sem, ↓reduceIte]
 refine Qgi 5 900 3 32 (by omega) T0 ?_
 refine Qah (by repeat (first | exact Qw | exact Qn | exact Qo | exact Qp | exact Qq | apply Qm | apply Qv | apply Q3 | apply Qaa | apply Qab | apply Ql | apply Qx)) [(5, 29)] [28, 29, 900] (fun n J hp => ∃ i, n = R - i /\ i <= R /\ J 5 = .ms 900 i /\ J 6 = .int .i64 (i : Nat) /\ hp 2 = some ⟨3, 24, [PV.mat R m l], false⟩ /\ hp 900 = some ⟨3, 32, ((List.range i).map fun r => Qan (Q4 l m r) x m).map PV.rat, false⟩) R ?_ ?_
 ·refine ⟨0, rfl, by omega, ?_⟩
  simp +decide (disch := first | exact D0 | fail) only [go_sem, ↓reduceIte]
  exact ⟨rfl, rfl⟩
 rintro _ J h ⟨i, rfl, hi, h5, h6, h2, hh⟩
 simp +decide (disch := first | exact D3 h5 h6 h2 | fail) only [go_sem, ↓reduceIte, h5, h6, h2]
 refine Qb (fun hg => ?_) (fun hg => ?_)
 ·have hi' : i < R := by omega
  have hb1 : (i + 1) * m <= R * m := Nat.mul_le_mul_right _ hi'
  have hb2 : i * m <= (i + 1) * m := Nat.mul_le_mul_right _ (by omega)
  have e1 : (i : Int) * (m : Int) = ((i * m : Nat) : Int) := by rw [Int.natCast_mul]
  have e2 : ((i : Int) + 1) * (m : Int) = (((i + 1) * m : Nat) : Int) := by rw [Int.natCast_mul]; rfl
  have hcr := Qsb hl hi'
  have hRm : R * m <= 40 * 40 := Nat.mul_le_mul hR2 hm
  have d1 := Qaed (x := Q4 l m i) (y := x) (w := m) (k := k) (by omega) (fun c _ => Qn6 h1 hs) hx hk
  simp +decide (disch := first | exact D5 h5 h6 h2 e1 e2 | fail) only [go_sem, ↓reduceIte, h5, h6, h2, e1, e2]
  rw [hcr]
  refine Qa hP d1 rfl rfl rfl ?_
  generalize hy : Qan (Q4 l m i) x m = y at *
  simp +decide (disch := first | exact D3 h5 h6 h2 | fail) only [go_sem, ↓reduceIte, h5, h6, h2]
  rw [Qb8 (f := PV.rat) (y := y) (xs := (List.range i).map fun r => Qan (Q4 l m r) x m) (ty' := 32) (fz := false) (T1 hh) Tr0 (by omega) (by simp) (by omega) (by omega)]
  simp +decide (disch := first | exact D3 h5 h6 h2 | fail) only [go_sem, ↓reduceIte, h5, h6, h2]
  refine Qae (R - (i + 1)) (by omega) ⟨i + 1, rfl, by omega, ?_⟩
  simp +decide (disch := first | exact D1 h2 | fail) only [go_sem, ↓reduceIte, h2]
  rw [List.map_append (l₁ := List.range i), List.map_cons, List.map_nil, hy]
 ·obtain rfl : i = R := by omega
  simp +decide (disch := first | exact E2 h5 hh | fail) only [go_sem, ↓reduceIte, h5, hh, Q9, List.contains_cons, List.contains_nil, List.flatMap_cons, List.flatMap_nil, List.append_nil]
  refine Qc ?_ rfl
  rw [List.take_of_length_le (by simp), Qmb]
theorem Q68 {R : Nat} (hR2 : R <= 40) : Qd Tryz.prog 44 [.int .i64 (R : Nat)] (· = .sl 3 (Qr PV.rat (fun _ => 0) R)) := by
 obtain ⟨z, hz⟩ : ∃ z : Rat, ((0 : Int) : Rat) = z := ⟨_, rfl⟩
 rw [show (fun _ : Nat => (0 : Rat)) = fun _ => z from by rw [<- hz]; rfl]
 refine Qh Qt Tryz.func44 rfl Qad0 (by simp [c44]) fun C hP => ?_; simp only [c44, Zo, Zg, Zm, Zc, Zf, Zl, Zh, Zs, Zi, Zb, Zk, Zn, Zu, Zq, Zr, Zz]
 simp +decide (disch := first | exact D0 | fail) only [go_sem, ↓reduceIte]
 refine Qgi 3 900 3 32 (by omega) T0 ?_
 refine Qah (by repeat (first | exact Qw | exact Qn | exact Qo | exact Qp | exact Qq | apply Qm | apply Qv | apply Q3 | apply Qaa | apply Qab | apply Ql | apply Qx)) [(3, 13)] [12, 13, 900] (fun n J hp => ∃ i, n = R - i /\ i <= R /\ J 3 = .ms 900 i /\ J 4 = .int .i64 (i : Nat) /\ hp 900 = some ⟨3, 32, ((List.range i).map fun _ => z).map PV.rat, false⟩) R ?_ ?_
 ·refine ⟨0, rfl, by omega, ?_⟩
  simp +decide (disch := first | exact D0 | fail) only [go_sem, ↓reduceIte]
  exact ⟨rfl, rfl⟩
 rintro _ J h ⟨i, rfl, hi, h3, h4, hh⟩
 simp +decide (disch := first | exact D2 h3 h4 | fail) only [go_sem, ↓reduceIte, h3, h4]
 refine Qb (fun hg => ?_) (fun hg => ?_)
 ·have hi' : i < R := by omega
  simp +decide (disch := first | exact D2 h3 h4 | fail) only [go_sem, ↓reduceIte, h3, h4]
  refine Qa hP (Qip (x := 0) (by omega) (by omega)) rfl rfl rfl ?_
  rw [hz]
  simp +decide (disch := first | exact D2 h3 h4 | fail) only [go_sem, ↓reduceIte, h3, h4]
  rw [Qb8 (f := PV.rat) (y := z) (xs := (List.range i).map fun _ => z) (ty' := 32) (fz := false) (T1 hh) Tr0 (by omega) (by simp) (by omega) (by omega)]
  simp +decide (disch := first | exact D2 h3 h4 | fail) only [go_sem, ↓reduceIte, h3, h4]
  refine Qae (R - (i + 1)) (by omega) ⟨i + 1, rfl, by omega, ?_⟩
  simp +decide (disch := first | exact D0 | fail) only [go_sem, ↓reduceIte]
  rw [List.map_append (l₁ := List.range i), List.map_cons, List.map_nil]
 ·obtain rfl : i = R := by omega
  simp +decide (disch := first | exact E2 h3 hh | fail) only [go_sem, ↓reduceIte, h3, hh, Q9, List.contains_cons, List.contains_nil, List.flatMap_cons, List.flatMap_nil, List.append_nil]
  refine Qc ?_ rfl
  rw [List.take_of_length_le (by simp), Qmb]
theorem Qj9 {x : Nat -> Rat} {n : Nat} : PV.sl 3 (Qr PV.rat x n) = PV.rats ((List.range n).map x) := by rw [PV.rats, Qmb]
theorem Qsj {x y : Nat -> Rat} {n k : Nat} (h : ∀ i, i < n -> x i = y i) (hx : ∀ i, i < n -> rs (x i) <= k) (hn : n <= 100) (h1 : 1 <= k) (hk : k <= 2 ^ 24) : Qd Tryz.prog 33 [.sl 3 (Qr PV.rat x n), .sl 3 (Qr PV.rat y n)] (· = .bool true) := by
 have e : (List.range n).map y = (List.range n).map x := List.map_congr_left fun i hi => (h i (List.mem_range.1 hi)).symm
 rw [Qj9, Qj9, e, Qh7]
 have hr : RRk k (((List.range n).map x).map qR) := RRk.of fun q hq => by
  obtain ⟨i, hi, rfl⟩ := List.mem_map.1 hq
  exact hx i (List.mem_range.1 hi)
 have := Qos hr hr (by omega) (by simp; omega) (by simp; omega)
 rwa [decide_eq_true rfl] at this
theorem Qwf {r c : Int} {l x : List RQ} (hl : Qca l) (hx : Qca x) (h : (Qbs r c l && x.all Qcf) = false) : Qd Tryz.prog 40 [PV.rmat r c l, PV.rqs x] (· = .tup [PV.rqs [], .int .i64 1]) := by
 refine Qeu Qt Tryz.func40 rfl Qql (by simp [c40]) fun C hP => ?_; simp only [c40, Zo, Zg, Zm, Zc, Zf, Zl, Zh, Zs, Zi, Zb, Zk, Zn, Zu, Zq, Zr, Zz]
 simp +decide (disch := first | exact D0 | fail) only [go_sem, ↓reduceIte]
 refine Qa hP (Qrg hl) rfl rfl rfl ?_
 cases hq : Qbs r c l
 ·simp +decide (disch := first | exact D0 | fail) only [go_sem, ↓reduceIte]
  refine Qd8 (Qcq ?_)
  simp +decide (disch := first | exact D0 | fail) only [go_sem, ↓reduceIte]
  exact Qc5 rfl rfl rfl Qrl (Qz _)
 ·rw [hq, Bool.true_and] at h
  simp +decide (disch := first | exact D0 | fail) only [go_sem, ↓reduceIte]
  refine Qa hP (Qgk hx) rfl rfl rfl ?_
  rw [h]
  simp +decide (disch := first | exact D0 | fail) only [go_sem, ↓reduceIte]
  refine Qd8 (Qcq ?_)
  simp +decide (disch := first | exact D0 | fail) only [go_sem, ↓reduceIte]
  exact Qc5 rfl rfl rfl Qrl (Qz _)
theorem Qza {r c : Int} {l x : List RQ} (hl : Qca l) (hx : Qca x) (h1 : Qbs r c l = true) (h2 : x.all Qcf = true) (hne : ¬ (x.length : Int) = r) : Qd Tryz.prog 40 [PV.rmat r c l, PV.rqs x] (· = .tup [PV.rqs [], .int .i64 16]) := by
 have hxl := hx.1
 refine Qeu Qt Tryz.func40 rfl Qql (by simp [c40]) fun C hP => ?_; simp only [c40, Zo, Zg, Zm, Zc, Zf, Zl, Zh, Zs, Zi, Zb, Zk, Zn, Zu, Zq, Zr, Zz]
 simp +decide (disch := first | exact D0 | fail) only [go_sem, ↓reduceIte]
 refine Qa hP (Qrg hl) rfl rfl rfl ?_
 rw [h1]
 simp +decide (disch := first | exact D0 | fail) only [go_sem, ↓reduceIte]
 refine Qa hP (Qgk hx) rfl rfl rfl ?_
 rw [h2]
 simp +decide (disch := first | exact D1 hne | fail) only [go_sem, ↓reduceIte, hne]
 refine Qd8 (Qcq ?_)
 simp +decide (disch := first | exact D0 | fail) only [go_sem, ↓reduceIte]
 exact Qc5 rfl rfl rfl Qrl (Qz _)
end Go.Proofs.YtmnkngmmfnncoaaGreat
namespace Go.Proofs.YtmnkngmmfnncoaaGreat
open Go Go.FW
set_option linter.unusedSimpArgs false
set_option linter.unusedVariables false
set_option maxRecDepth 100000
end Go.Proofs.YtmnkngmmfnncoaaGreat
namespace Go.Proofs.YtmnkngmmfnncoaaGreat
open Go Go.FW
set_option linter.unusedSimpArgs false
set_option linter.unusedVariables false
set_option maxRecDepth 100000
theorem Qzb {m : Nat} {L : List (Nat -> Rat)} : PV.rowsL m L = .sl 1 (Qr (PV.rowD m) (fun i => L.getD i fun _ => 0) L.length) := by
 have e : L.map (PV.rowD m) = Qr (PV.rowD m) (fun i => L.getD i fun _ => 0) L.length := by
  refine List.ext_getElem (by simp [Qr]) fun j h1 h2 => ?_
  have hj : j < L.length := by rw [List.length_map] at h1; exact h1
  rw [Qc9, List.getElem_map, List.getD_eq_getElem?_getD, List.getElem?_eq_getElem hj, Option.getD_some]
 rw [PV.rowsL, e]
theorem Qn7 {r c : Int} {l x : List RQ} (hl : Qca l) (hx : Qca x) (h : (Qcw l 25 && Qbs r c l && Qcw x 8) = false) : Qd Tryz.prog 8 [PV.rmat r c l, PV.rqs x] (· = .bool true) := by
 have hsm := Qu7 (l := [⟨r, c, l⟩]) (by simpa using hl) (by simp)
 simp only [List.all_cons, List.all_nil, Bool.and_true] at hsm
 have hsx := Qpa (n := 8) hx
 have hr := Qu6 (r := r) (c := c) hl
 cases h1 : Qcw l 25
 ·rw [h1] at hsm
  refine Qh Qt Tryz.func8 rfl Qsz (by simp [c8]) fun C hP => ?_; simp only [c8, Zo, Zg, Zm, Zc, Zf, Zl, Zh, Zs, Zi, Zb, Zk, Zn, Zu, Zq, Zr, Zz]
  simp +decide (disch := first | exact D0 | fail) only [go_sem, ↓reduceIte]
  refine Qcx hP hsm Ur0 rfl ?_
  simp +decide (disch := first | exact E0 | fail) only [go_sem, ↓reduceIte, Q9, List.contains_cons, List.contains_nil, List.flatMap_cons, List.flatMap_nil, List.append_nil]
  refine Qa hP Qhj rfl rfl rfl ?_
  simp +decide (disch := first | exact E0 | fail) only [go_sem, ↓reduceIte, Q9, List.contains_cons, List.contains_nil, List.flatMap_cons, List.flatMap_nil, List.append_nil]
  exact Qc rfl rfl
 rw [h1] at hsm
 cases h2 : Qbs r c l
 ·rw [h2] at hr
  refine Qh Qt Tryz.func8 rfl Qsz (by simp [c8]) fun C hP => ?_; simp only [c8, Zo, Zg, Zm, Zc, Zf, Zl, Zh, Zs, Zi, Zb, Zk, Zn, Zu, Zq, Zr, Zz]
  simp +decide (disch := first | exact D0 | fail) only [go_sem, ↓reduceIte]
  refine Qcx hP hsm Ur0 rfl ?_
  simp +decide (disch := first | exact E0 | fail) only [go_sem, ↓reduceIte, Q9, List.contains_cons, List.contains_nil, List.flatMap_cons, List.flatMap_nil, List.append_nil]
  refine Qa hP hr rfl rfl rfl ?_
  simp +decide (disch := first | exact E0 | fail) only [go_sem, ↓reduceIte, Q9, List.contains_cons, List.contains_nil, List.flatMap_cons, List.flatMap_nil, List.append_nil]
  refine Qa hP Qhj rfl rfl rfl ?_
  simp +decide (disch := first | exact E0 | fail) only [go_sem, ↓reduceIte, Q9, List.contains_cons, List.contains_nil, List.flatMap_cons, List.flatMap_nil, List.append_nil]
  exact Qc rfl rfl
 rw [h1, h2, Bool.true_and, Bool.true_and] at h
 rw [h2] at hr
 rw [h] at hsx
 refine Qh Qt Tryz.func8 rfl Qsz (by simp [c8]) fun C hP => ?_; simp only [c8, Zo, Zg, Zm, Zc, Zf, Zl, Zh, Zs, Zi, Zb, Zk, Zn, Zu, Zq, Zr, Zz]
 simp +decide (disch := first | exact D0 | fail) only [go_sem, ↓reduceIte]
 refine Qcx hP hsm Ur0 rfl ?_
 simp +decide (disch := first | exact E0 | fail) only [go_sem, ↓reduceIte, Q9, List.contains_cons, List.contains_nil, List.flatMap_cons, List.flatMap_nil, List.append_nil]
 refine Qa hP hr rfl rfl rfl ?_
 simp +decide (disch := first | exact E0 | fail) only [go_sem, ↓reduceIte, Q9, List.contains_cons, List.contains_nil, List.flatMap_cons, List.flatMap_nil, List.append_nil]
 refine Qa hP hsx rfl rfl rfl ?_
 simp +decide (disch := first | exact E0 | fail) only [go_sem, ↓reduceIte, Q9, List.contains_cons, List.contains_nil, List.flatMap_cons, List.flatMap_nil, List.append_nil]
 refine Qa hP Qhj rfl rfl rfl ?_
 simp +decide (disch := first | exact E0 | fail) only [go_sem, ↓reduceIte, Q9, List.contains_cons, List.contains_nil, List.flatMap_cons, List.flatMap_nil, List.append_nil]
 exact Qc rfl rfl
theorem Qem {R m n : Nat} {l x W : List RQ} {LF : MF} {e : Int} (hl : Qca l) (hx : Qca x) (h1 : Qcw l 25 = true) (h2 : Qbs R m l = true) (h3 : Qcw x 8 = true) (hn : n <= 40)
    (hker : Qd Tryz.prog 42 [PV.rmat R m l] (· = .tup [.sl 1 (Qr (PV.rowD m) LF n), .int .i64 0]))
    (ht : ∀ i, i < n -> Qd Tryz.prog 35 [PV.rmat R m l, .sl 3 (Qr PV.rat (LF i) m)] (· = .sl 3 (Qr PV.rat (fun _ => 0) R)))
    (hm0 : Qd Tryz.prog 44 [.int .i64 (R : Nat)] (· = .sl 3 (Qr PV.rat (fun _ => 0) R)))
    (hz : Qd Tryz.prog 33 [.sl 3 (Qr PV.rat (fun _ => 0) R), .sl 3 (Qr PV.rat (fun _ => 0) R)] (· = .bool true))
    (hsol : Qd Tryz.prog 40 [PV.rmat R m l, PV.rqs x] (· = .tup [PV.rqs W, .int .i64 e]))
    (he : e = 0 -> W.length = m /\ Qd Tryz.prog 35 [PV.rmat R m l, PV.rqs W] (· = PV.rqs x) /\ Qd Tryz.prog 33 [PV.rqs x, PV.rqs x] (· = .bool true))
    (hbad : x.all Qcf = false -> e = 1)
    (hprod : x.all Qcf = true -> x.length = m -> ∃ T Y : List RQ, Qd Tryz.prog 35 [PV.rmat R m l, PV.rqs x] (· = PV.rqs T) /\ Qd Tryz.prog 40 [PV.rmat R m l, PV.rqs T] (· = .tup [PV.rqs Y, .int .i64 0]) /\ Y.length = m /\ Qd Tryz.prog 35 [PV.rmat R m l, PV.rqs Y] (· = PV.rqs T) /\ Qd Tryz.prog 33 [PV.rqs T, PV.rqs T] (· = .bool true)) :
    Qd Tryz.prog 8 [PV.rmat R m l, PV.rqs x] (· = .bool true) := by
  have hsm := Qu7 (l := [⟨(R : Int), (m : Int), l⟩]) (by simpa using hl) (by simp)
  simp only [List.all_cons, List.all_nil, Bool.and_true] at hsm
  have hsx := Qpa (n := 8) hx
  have hr := Qu6 (r := R) (c := m) hl
  rw [h1] at hsm
  rw [h2] at hr
  rw [h3] at hsx
  have hxl := hx.1
  obtain ⟨zr, hzr⟩ : ∃ zr, Qr PV.rat (fun _ => (0 : Rat)) R = zr := ⟨_, rfl⟩
  rw [hzr] at hz hm0
  rw [hzr] at ht
  refine Qh Qt Tryz.func8 rfl Qsz (by simp [c8]) fun C hP => ?_; simp only [c8, Zo, Zg, Zm, Zc, Zf, Zl, Zh, Zs, Zi, Zb, Zk, Zn, Zu, Zq, Zr, Zz]
  simp +decide (disch := first | exact D0 | fail) only [go_sem, ↓reduceIte]
  refine Qcx hP hsm Ur0 rfl ?_
  simp +decide (disch := first | exact E0 | fail) only [go_sem, ↓reduceIte, Q9, List.contains_cons, List.contains_nil, List.flatMap_cons, List.flatMap_nil, List.append_nil]
  refine Qa hP hr rfl rfl rfl ?_
  simp +decide (disch := first | exact E0 | fail) only [go_sem, ↓reduceIte, Q9, List.contains_cons, List.contains_nil, List.flatMap_cons, List.flatMap_nil, List.append_nil]
  refine Qa hP hsx rfl rfl rfl ?_
  simp +decide (disch := first | exact E0 | fail) only [go_sem, ↓reduceIte, Q9, List.contains_cons, List.contains_nil, List.flatMap_cons, List.flatMap_nil, List.append_nil]
  refine Qa hP hker rfl rfl rfl ?_
  simp +decide (disch := first | exact E0 | fail) only [go_sem, ↓reduceIte, Q9, List.contains_cons, List.contains_nil, List.flatMap_cons, List.flatMap_nil, List.append_nil]
  refine Qah (by repeat (first | exact Qw | exact Qn | exact Qo | exact Qp | exact Qq | apply Qm | apply Qv | apply Q3 | apply Qaa | apply Qab | apply Ql | apply Qx)) [(4, 4), (7, 7), (35, 61)] [] (fun q J hp => ∃ i, q = n - i /\ i <= n /\ J 7 = .int .i64 (i : Nat) /\ hp 2 = some ⟨3, 24, [PV.rmat R m l], false⟩) n ?_ ?_
  · refine ⟨0, rfl, by omega, ?_⟩
    simp +decide (disch := first | exact D0 | fail) only [go_sem, ↓reduceIte]
    exact ⟨rfl, rfl⟩
  rintro _ J h ⟨i, rfl, hi, h7, hb2⟩
  have hrn : (Qr (PV.rowD m) LF n).length = n := Qal _ _ _
  simp +decide (disch := first | exact D2 h7 hrn | fail) only [go_sem, ↓reduceIte, h7, hrn]
  refine Qb (fun hc => ?_) (fun hc => ?_)
  · have hi' : i < n := by omega
    have hrl : (Qr PV.rat (LF i) m).length = m := Qal _ _ _
    have ht1 := ht i hi'
    simp +decide (disch := first | exact D3 h7 hb2 hrl | fail) only [go_sem, ↓reduceIte, h7, hb2, hrl]
    refine Qa hP ht1 rfl rfl rfl ?_
    simp +decide (disch := first | exact D2 h7 hb2 | fail) only [go_sem, ↓reduceIte, h7, hb2]
    refine Qa hP hm0 rfl rfl rfl ?_
    simp +decide (disch := first | exact D2 h7 hb2 | fail) only [go_sem, ↓reduceIte, h7, hb2]
    refine Qa hP hz rfl rfl rfl ?_
    simp +decide (disch := first | exact D1 h7 | fail) only [go_sem, ↓reduceIte, h7]
    refine Qae (n - (i + 1)) (by omega) ⟨i + 1, rfl, by omega, ?_⟩
    simp +decide (disch := first | exact D1 hb2 | fail) only [go_sem, ↓reduceIte, hb2]
  obtain rfl : n = i := by omega
  simp +decide (disch := first | exact D1 hb2 | fail) only [go_sem, ↓reduceIte, hb2]
  refine Qa hP hsol rfl rfl rfl ?_
  simp +decide (disch := first | exact D0 | fail) only [go_sem, ↓reduceIte]
  by_cases e0 : e = 0
  case' pos =>
    obtain ⟨w1, w2, w3⟩ := he e0
    simp +decide (disch := first | exact D3 e0 w1 hb2 | fail) only [go_sem, ↓reduceIte, e0, w1, hb2]
    refine Qa hP w2 rfl rfl rfl ?_
    simp +decide (disch := first | exact D0 | fail) only [go_sem, ↓reduceIte]
    refine Qa hP w3 rfl rfl rfl ?_
    simp +decide (disch := first | exact D0 | fail) only [go_sem, ↓reduceIte]
  case' neg =>
    simp +decide (disch := first | exact D1 e0 | fail) only [go_sem, ↓reduceIte, e0]
  all_goals
    refine Qah (by repeat (first | exact Qw | exact Qn | exact Qo | exact Qp | exact Qq | apply Qm | apply Qv | apply Q3 | apply Qaa | apply Qab | apply Ql | apply Qx)) [(4, 4), (10, 10), (85, 101)] [] (fun q J hp => ∃ i, q = x.length - i /\ i <= x.length /\ (∀ j (h : j < x.length), j < i -> Qcf x[j] = true) /\ J 10 = .int .i64 (i : Nat) /\ hp 2 = some ⟨3, 24, [PV.rmat R m l], false⟩) x.length ?_ ?_
    · refine ⟨0, rfl, by omega, by omega, ?_⟩
      simp +decide (disch := first | exact D1 hb2 | fail) only [go_sem, ↓reduceIte, hb2]
      rfl
    rintro _ J2 h ⟨i, rfl, hi, h1, h10, hb2⟩
    simp +decide (disch := first | exact D1 h10 | fail) only [go_sem, ↓reduceIte, h10]
    refine Qb (fun hg => ?_) (fun hg => ?_)
    · have hi' : i < x.length := by omega
      have hbt := hx.2 _ (List.getElem_mem hi')
      have hmem := List.getElem_mem hi'
      have hadd : Qcf x[i] = true -> ∀ j (h : j < x.length), j < i + 1 -> Qcf x[j] = true := fun h j hj hji => by
        by_cases e : j = i
        · subst e; exact h
        · exact h1 j hj (by omega)
      have hbad2 : Qcf x[i] = false -> e = 1 := fun h => hbad (by rw [List.all_eq_false]; exact ⟨x[i], hmem, by simp [h]⟩)
      generalize hx1 : x[i] = y at *
      simp +decide (disch := first | exact D2 h10 hx1 | fail) only [go_sem, ↓reduceIte, h10, hx1]
      refine Qa hP (Qmn hbt (by omega)) rfl rfl rfl ?_
      have hs0 : Qcf y = Qfx y.n y.a y.d := rfl
      simp +decide (disch := first | omega | rfl | (simp +decide only [go_sem, ↓reduceIte, h10, <- hs0] <;> rfl) | fail) only [go_sem, ↓reduceIte, h10, <- hs0]
      cases hs : Qcf y
      · have e1 := hbad2 hs
        first
          | (exfalso; omega)
          | (simp +decide (disch := first | exact D2 hs e1 | fail) only [go_sem, ↓reduceIte, hs, e1]
             refine Qa hP Qhj rfl rfl rfl ?_
             simp +decide (disch := first | exact E0 | fail) only [go_sem, ↓reduceIte, Q9, List.contains_cons, List.contains_nil, List.flatMap_cons, List.flatMap_nil, List.append_nil]
             exact Qc rfl rfl)
      · simp +decide (disch := first | exact D2 h10 hs | fail) only [go_sem, ↓reduceIte, h10, hs]
        refine Qae (x.length - (i + 1)) (by omega) ⟨i + 1, rfl, by omega, hadd hs, ?_⟩
        simp +decide (disch := first | exact D1 hb2 | fail) only [go_sem, ↓reduceIte, hb2]
    obtain rfl : i = x.length := by omega
    have hall : x.all Qcf = true := by
      rw [List.all_eq_true]
      intro t ht
      obtain ⟨j, hj, rfl⟩ := List.getElem_of_mem ht
      exact h1 j hj hj
    by_cases hxm : x.length = m
    · obtain ⟨T, Y, y1, y2, y3, y4, y5⟩ := hprod hall hxm
      simp +decide (disch := first | exact D2 hxm hb2 | fail) only [go_sem, ↓reduceIte, hxm, hb2]
      refine Qa hP y1 rfl rfl rfl ?_
      simp +decide (disch := first | exact D0 | fail) only [go_sem, ↓reduceIte]
      refine Qa hP y2 rfl rfl rfl ?_
      simp +decide (disch := first | exact D2 hb2 y3 | fail) only [go_sem, ↓reduceIte, hb2, y3]
      refine Qa hP y4 rfl rfl rfl ?_
      simp +decide (disch := first | exact D0 | fail) only [go_sem, ↓reduceIte]
      refine Qa hP y1 rfl rfl rfl ?_
      simp +decide (disch := first | exact D0 | fail) only [go_sem, ↓reduceIte]
      refine Qa hP y5 rfl rfl rfl ?_
      simp +decide (disch := first | exact D0 | fail) only [go_sem, ↓reduceIte]
      refine Qa hP Qhj rfl rfl rfl ?_
      simp +decide (disch := first | exact E0 | fail) only [go_sem, ↓reduceIte, Q9, List.contains_cons, List.contains_nil, List.flatMap_cons, List.flatMap_nil, List.append_nil]
      exact Qc rfl rfl
    · simp +decide (disch := first | exact D2 (show ¬ (x.length : Int) = (m : Int) from by omega) hb2 | fail) only [go_sem, ↓reduceIte, show ¬ (x.length : Int) = (m : Int) from by omega, hb2]
      refine Qa hP Qhj rfl rfl rfl ?_
      simp +decide (disch := first | exact E0 | fail) only [go_sem, ↓reduceIte, Q9, List.contains_cons, List.contains_nil, List.flatMap_cons, List.flatMap_nil, List.append_nil]
      exact Qc rfl rfl
end Go.Proofs.YtmnkngmmfnncoaaGreat
namespace Go.Proofs.YtmnkngmmfnncoaaGreat
open Go Go.FW
set_option linter.unusedSimpArgs false
set_option linter.unusedVariables false
set_option maxRecDepth 100000
theorem Qxg {E : MF} {piv : List Nat} {k K R : Nat} (hK : 1 <= K) (hE : ∀ r, r < R -> rs (E r k) <= K) : ∀ j, j <= R -> ∀ c, rs (Qg6 E piv k j c) <= K
 | 0, _, c => by
  have h0 := Qo8
  have h1 := Qq8
  simp only [Qg6]
  split <;> omega
 | j + 1, hj, c => by
  simp only [Qg6]
  split
  ·rw [Qm4]; exact hE j (by omega)
  ·exact Qxg hK hE j (by omega) c
theorem Qxh {E : MF} {piv : List Nat} {m K R : Nat} (hK : 1 <= K) (hE : ∀ r, r < R -> rs (E r m) <= K) : ∀ j, j <= R -> ∀ c, rs (Qf3 E piv m j c) <= K
 | 0, _, c => by
  have h0 := Qo8
  simp only [Qf3]; omega
 | j + 1, hj, c => by
  simp only [Qf3]
  split
  ·exact hE j (by omega)
  ·exact Qxh hK hE j (by omega) c
theorem Qabj {M : MF} {x : Nat -> Rat} {m k : Nat} (hM : ∀ r c, rs (M r c) <= k) (hx : ∀ r, rs (x r) <= k) (r c : Nat) : rs (Qbp M x m r c) <= k := by
 unfold Qbp; split
 ·exact hx r
 ·exact hM r c
theorem Qou {R m k : Nat} {l b : List Rat} (hl : l.length = R * m) (hlb : b.length = R) (h25 : R * m <= 25) (hR : R <= 40) (hm : m <= 40) (hs : ∀ q ∈ l, rs q <= k) (hsb : ∀ q ∈ b, rs q <= k) (h1 : 1 <= k) (hk : k <= 300) :
  Qd Tryz.prog 40 [PV.mat R m l, PV.rats b] (· = Qme (Q8 R (Qbp (Q4 l m) (Qbk b) m) m) R m) /\ MBd (k * 3125) R (m + 1) (Q8 R (Qbp (Q4 l m) (Qbk b) m) m).M := by
 have hB : Ql8 (k * 3125) R (m + 1) m (Qbp (Q4 l m) (Qbk b) m) := Qxa h1 (fun r _ c _ => Qabj (fun r c => Qn6 h1 hs) (Qmd h1 hsb) r c) (by omega) (Qxb h25)
 refine ⟨?_, (hB m (Nat.le_refl _)).1⟩
 by_cases hR0 : R = 0
 ·subst hR0
  obtain rfl : l = [] := List.eq_nil_of_length_eq_zero (by omega)
  obtain rfl : b = [] := List.eq_nil_of_length_eq_zero (by omega)
  exact Q66 hm
 ·have hm25 : m <= 25 := by
   have : 1 * m <= R * m := Nat.mul_le_mul_right _ (by omega)
   omega
  exact Qabg hl hlb (by omega) hR (by omega) (fun q hq => by have := hs q hq; omega) (fun q hq => by have := hsb q hq; omega) (by omega) hB
theorem Qvj {R m k : Nat} {l b : List Rat} (hl : l.length = R * m) (hlb : b.length = R) (h25 : R * m <= 25) (hR : R <= 40) (hm : m <= 40) (hs : ∀ q ∈ l, rs q <= k) (hsb : ∀ q ∈ b, rs q <= k) (h1 : 1 <= k) (hk : k <= 300)
  (hc : ∀ r, r < R -> (Q8 R (Qbp (Q4 l m) (Qbk b) m) m).piv.length <= r -> (Q8 R (Qbp (Q4 l m) (Qbk b) m) m).M r m = 0) :
  ∃ W : List RQ, W.length = m /\ Qd Tryz.prog 40 [PV.mat R m l, PV.rats b] (· = .tup [PV.rqs W, .int .i64 0]) /\ Qd Tryz.prog 35 [PV.mat R m l, PV.rqs W] (· = PV.rats b) /\ Qd Tryz.prog 33 [PV.rats b, PV.rats b] (· = .bool true) := by
 obtain ⟨c1, c2⟩ := Qou hl hlb h25 hR hm hs hsb h1 hk
 have hp := Qct R (Qbp (Q4 l m) (Qbk b) m) m
 have hso := Qabi hc
 rw [Qme, if_pos hc] at c1
 have hv := Qxh (E := (Q8 R (Qbp (Q4 l m) (Qbk b) m) m).M) (piv := (Q8 R (Qbp (Q4 l m) (Qbk b) m) m).piv) (m := m) (K := k * 3125) (R := R) (by omega) (fun r hr => c2 r hr m (by omega)) (Q8 R (Qbp (Q4 l m) (Qbk b) m) m).piv.length hp.2.1
 generalize Qf3 (Q8 R (Qbp (Q4 l m) (Qbk b) m) m).M (Q8 R (Qbp (Q4 l m) (Qbk b) m) m).piv m (Q8 R (Qbp (Q4 l m) (Qbk b) m) m).piv.length = V at *
 have hb : PV.rats b = .sl 3 (Qr PV.rat (Qbk b) R) := by rw [PV.rats, <- hlb, Qnh]
 have ht := Qpc (k := k * 3125) hl hR hm (fun q hq => by have := hs q hq; omega) (fun i _ => hv i) (by omega) (by omega)
 have e : Qr PV.rat (fun r => Qan (Q4 l m r) V m) R = Qr PV.rat (Qbk b) R := Qb0 hso
 rw [e, <- hb] at ht
 have hsm := Qsj (x := Qbk b) (y := Qbk b) (n := R) (k := k) (fun i _ => rfl) (fun i _ => Qmd h1 hsb i) (by omega) h1 (by omega)
 rw [<- hb] at hsm
 rw [Qj9, Qh7 ((List.range m).map V)] at c1 ht
 exact ⟨_, by simp, c1, ht, hsm⟩
theorem Qmp {r c : Int} {l x : List RQ} (h : I64' r /\ I64' c /\ Qca l) (hx : Qca x) : Qd Tryz.prog 8 [PV.rmat r c l, PV.rqs x] (· = .bool true) := by
 have hl := h.2.2
 cases hq : (Qcw l 25 && Qbs r c l && Qcw x 8)
 ·exact Qn7 hl hx hq
 rw [Bool.and_eq_true, Bool.and_eq_true] at hq
 obtain ⟨⟨h1, h2⟩, h3⟩ := hq
 obtain ⟨R, m, la, rfl, rfl, hR, hm, hla, hlen, hmat⟩ := Q94 hl h2
 obtain ⟨l25, sl⟩ := Qvd hl h1
 obtain ⟨lx8, sx⟩ := Qvd hx h3
 rw [<- hla] at sl
 have sl' : ∀ q ∈ la, rs q <= 1048576 := fun q hq => by have := sl q hq; omega
 have h25 : R * m <= 25 := by
  rw [<- hlen, hla, List.length_map]; exact l25
 have hB : Ql8 (3 * 3125) R m m (Q4 la m) := Qxa (by omega) (fun r _ c _ => Qn6 (by omega) sl) (Nat.le_refl _) (Qxb h25)
 have hEp := Qct R (Q4 la m) m
 have hker := Q63 hlen hR hm sl' (by omega) hB
 rw [Qzb] at hker
 have hkl : (Qfb (Q8 R (Q4 la m) m).M (Q8 R (Q4 la m) m).piv m).length <= 40 := by
  unfold Qfb Qe2
  rw [List.length_map]
  have := List.length_filter_le (fun c => !(Q8 R (Q4 la m) m).piv.contains c) (List.range m)
  rw [List.length_range] at this
  omega
 have ht : ∀ i, i < (Qfb (Q8 R (Q4 la m) m).M (Q8 R (Q4 la m) m).piv m).length -> Qd Tryz.prog 35 [PV.mat R m la, .sl 3 (Qr PV.rat ((Qfb (Q8 R (Q4 la m) m).M (Q8 R (Q4 la m) m).piv m).getD i fun _ => 0) m)] (· = .sl 3 (Qr PV.rat (fun _ => 0) R)) := fun i hi => by
  rw [List.getD_eq_getElem?_getD, List.getElem?_eq_getElem hi, Option.getD_some]
  have hmem := List.getElem_mem hi
  generalize (Qfb (Q8 R (Q4 la m) m).M (Q8 R (Q4 la m) m).piv m)[i] = V at *
  obtain ⟨k, hk, rfl⟩ := List.mem_map.1 hmem
  unfold Qe2 at hk
  rw [List.mem_filter, List.mem_range] at hk
  have hkp : k ∉ (Q8 R (Q4 la m) m).piv := fun h => by
   have := List.contains_iff_mem.2 h
   rw [this] at hk; exact absurd hk.2 (by decide)
  have hso := Qabh (R := R) (M := Q4 la m) hk.1 hkp
  have hv := Qxg (E := (Q8 R (Q4 la m) m).M) (piv := (Q8 R (Q4 la m) m).piv) (k := k) (K := 3 * 3125) (R := R) (by omega) (fun r hr => (hB m (Nat.le_refl _)).1 r hr k hk.1) (Q8 R (Q4 la m) m).piv.length hEp.2.1
  have := Qpc (k := 3 * 3125) hlen hR hm (fun q hq => by have := sl q hq; omega) (fun i _ => hv i) (by omega) (by omega)
  rwa [Qb0 (g := fun _ => 0) hso] at this
 have hm0 := Q68 hR
 have hz := Qsj (x := fun _ => (0 : Rat)) (y := fun _ => 0) (n := R) (k := 1) (fun i _ => rfl) (fun i _ => Qo8) (by omega) (by omega) (by omega)
 rw [<- hmat] at hker ht
 have z0 : (([] : List RQ).length : Nat) = 0 := rfl
 cases o2 : x.all Qcf
 ·have o3 : (Qbs R m l && x.all Qcf) = false := by rw [o2, Bool.and_false]
  exact Qem hl hx h1 h2 h3 hkl hker ht hm0 hz (Qwf hl hx o3) (fun e => absurd e (by decide)) (fun _ => rfl) (fun e => by rw [o2] at e; cases e)
 have hxr := Q1r hx o2
 have hprod : x.all Qcf = true -> x.length = m -> ∃ T Y : List RQ, Qd Tryz.prog 35 [PV.rmat R m l, PV.rqs x] (· = PV.rqs T) /\ Qd Tryz.prog 40 [PV.rmat R m l, PV.rqs T] (· = .tup [PV.rqs Y, .int .i64 0]) /\ Y.length = m /\ Qd Tryz.prog 35 [PV.rmat R m l, PV.rqs Y] (· = PV.rqs T) /\ Qd Tryz.prog 33 [PV.rqs T, PV.rqs T] (· = .bool true) := fun _ hxm => by
  rw [hmat, hxr]
  generalize hbs : x.map rqV = bs at *
  have hbl : bs.length = m := by rw [<- hbs, List.length_map]; exact hxm
  have hb : PV.rats bs = .sl 3 (Qr PV.rat (Qbk bs) m) := by rw [PV.rats, <- hbl, Qnh]
  have ht1 := Qpc (k := 3) hlen hR hm sl (fun i _ => Qmd (by omega) sx i) (by omega) (by omega)
  rw [<- hb, Qj9] at ht1
  have hT : ∀ q ∈ (List.range R).map fun r => Qan (Q4 la m r) (Qbk bs) m, rs q <= 72 := fun q hq => by
   obtain ⟨r, _, rfl⟩ := List.mem_map.1 hq
   have := Qrh (x := Q4 la m r) (y := Qbk bs) (k := 3) m fun c _ => ⟨Qn6 (by omega) sl, Qmd (by omega) sx c⟩
   have b5 : (m + 1) * (2 * 3 + 2) <= 9 * 8 := Nat.mul_le_mul_right _ (by omega)
   omega
  have hTl : ((List.range R).map fun r => Qan (Q4 la m r) (Qbk bs) m).length = R := by simp
  have hTf : ∀ r, r < R -> Qan (Q4 la m r) (Qbk bs) m = Qbk ((List.range R).map fun r => Qan (Q4 la m r) (Qbk bs) m) r := fun r hr => by
   unfold Qbk
   rw [List.getD_eq_getElem?_getD, List.getElem?_eq_getElem (by simpa using hr), Option.getD_some, List.getElem_map, List.getElem_range]
  generalize ((List.range R).map fun r => Qan (Q4 la m r) (Qbk bs) m) = T at *
  obtain ⟨W, w1, w2, w3, w4⟩ := Qvj hlen hTl h25 hR hm (fun q hq => by have := sl q hq; omega) hT (by omega) (by omega) (Qaeq hTf)
  rw [Qh7 T] at ht1 w2 w3 w4
  exact ⟨_, W, ht1, w2, w1, w3, w4⟩
 by_cases hxl : x.length = R
 ·generalize hbs : x.map rqV = bs at *
  have hbl : bs.length = R := by rw [<- hbs, List.length_map]; exact hxl
  by_cases hc : ∀ r, r < R -> (Q8 R (Qbp (Q4 la m) (Qbk bs) m) m).piv.length <= r -> (Q8 R (Qbp (Q4 la m) (Qbk bs) m) m).M r m = 0
  ·obtain ⟨W, w1, w2, w3, w4⟩ := Qvj hlen hbl h25 hR hm sl sx (by omega) (by omega) hc
   rw [<- hmat, <- hxr] at w2 w3
   rw [<- hxr] at w4
   exact Qem hl hx h1 h2 h3 hkl hker ht hm0 hz w2 (fun _ => ⟨w1, w3, w4⟩) (fun e => by rw [o2] at e; cases e) hprod
  ·have c1 := (Qou hlen hbl h25 hR hm sl sx (by omega) (by omega)).1
   rw [Qme, if_neg hc, <- hmat, <- hxr, Qh7] at c1
   exact Qem hl hx h1 h2 h3 hkl hker ht hm0 hz c1 (fun e => absurd e (by decide)) (fun e => by rw [o2] at e; cases e) hprod
 ·have c1 := Qza hl hx h2 o2 (by omega)
  exact Qem hl hx h1 h2 h3 hkl hker ht hm0 hz c1 (fun e => absurd e (by decide)) (fun e => by rw [o2] at e; cases e) hprod
end Go.Proofs.YtmnkngmmfnncoaaGreat
namespace Go.Proofs.YtmnkngmmfnncoaaGreat
open Go Go.FW Go.ChangeShapes Go.WideShapes Go.ChangeAt Go.RowKit
set_option linter.unusedSimpArgs false
set_option linter.unusedVariables false
set_option maxRecDepth 100000
theorem Qjm (H : Type) (enc : TypeId × Value -> H) (W : World) (base : Nat) (args : Array Value) (ds gs : List (DataW H)) (before : List MemPlace)
  (Qcp : ∀ (j : Nat) t v, Tryz.f8.params[j]? = some t -> args[j]? = some v -> Value.okWide Tryz.prog W .any base t v)
  (hW : DataW.Whole enc Tryz.prog Tryz.f8.params.toList Rows.matrixEquationsSpec.vars false W args.toList ds gs before) (hk : Rows.uptoSmall H (ds ++ gs) = true) :
  Calls Tryz.prog 8 args W fun e W' => ∃ v, e = .returned v /\ Rows.matrixEquationsSpec.post enc Tryz.prog Tryz.f8 false true false false W args v W' := by
 have hW' := hW
 obtain ⟨p, q, hA0, hV, rfl, hfz, hnd⟩ := hW
 have hA : DataW.TrodAll enc Tryz.prog W 0 (fun _ => true) true Tryz.f8.params.toList args.toList ds p := hA0
 rw [Tryz.params8] at hA Qcp
 obtain ⟨v0, vs0, e0, ds0, p0, q0, hargs, rfl, rfl, h0, r0⟩ := trodAll_cons hA
 obtain ⟨v1, vs1, e1, ds1, p1, q1, rfl, rfl, rfl, h1, r1⟩ := trodAll_cons r0
 obtain ⟨rfl, rfl, rfl⟩ := trodAll_nil r1
 obtain rfl : args = #[v0, v1] := by cases args; simp_all
 obtain ⟨rfl, rfl⟩ := trodVars_none hV
 have hb := Q5w hk
 simp only [List.append_nil, Rows.uptoBulkAll] at hb
 obtain ⟨r0, c0, l0, g0, b0⟩ := Qyq (Qcp 0 _ v0 rfl rfl) h0 (by omega)
 obtain ⟨a1, g1, b1⟩ := Q5x (Qcp 1 _ v1 rfl rfl) h1 (by omega)
 exact Q1u hW' rfl (by kernel_rfl) (by kernel_rfl) rfl (Qmp b0 b1) rfl
  (Q5y (vs := [v0, v1]) (by
   intro i x hx v hv
   match i, hx, hv with
   | 0, hx, hv => simp at hx hv; subst hx hv; exact g0
   | 1, hx, hv => simp at hx hv; subst hx hv; exact g1
   | i + 2, hx, hv => simp at hx) rfl)
theorem Qks (os : Os) (started : os.Started) (H : Type) (enc : TypeId × Value -> H) (F : Stop.Interp) :
  ReturnsInHanded {} Tryz.checked os 8 .any ((Rows.OpenSpec.upto Rows.matrixEquationsSpec).pre6 enc Tryz.prog Tryz.f8 Rows.matrixEquationsUptoRow.domain false) (((Rows.OpenSpec.upto Rows.matrixEquationsSpec).at F).post enc Tryz.prog Tryz.f8 false true false false) := by
 refine returnsInHanded_of_cond (C := Tryz.checked) (s := Rows.OpenSpec.upto Rows.matrixEquationsSpec) (k := Rows.uptoSmall) rfl own started (by kernel_rfl) Tryz.func8
  (OpenSpec.witness (enc := enc) (C := Tryz.checked) (s := Rows.OpenSpec.upto Rows.matrixEquationsSpec) (k := Rows.uptoSmall) rfl false ⟨#[], #[.agg #[.int .i64 0, .int .i64 0, .slice none 0 0], .slice none 0 0], []⟩ 8 (by kernel_rfl) (by kernel_rfl) (by kernel_rfl)
   (x := ([.agg [.lit (.int .i64 0), .lit (.int .i64 0), .nil], .nil], [], [])) (by kernel_rfl) rfl (by kernel_rfl)) ?_
 intro W base args ds gs before Qcp hW _ hk _
 exact Qjm H enc W base args ds gs before Qcp hW hk
theorem matrixEquations_proved : Rows.MatrixEquationsUptoSaid :=
 OpenClaim.holds_of_cond 8 Tryz.f8 rfl rfl rfl rfl rfl rfl rfl ⟨rfl, rfl, rfl, rfl, rfl⟩ rfl rfl rfl rfl rfl (by kernel_rfl) Tryz.func8 (by kernel_rfl)
  (of_decide_eq_true (by kernel_rfl)) (by unfold Func.isWrapper; first | (rw [if_pos (by decide +kernel)]; kernel_rfl) | (rw [if_neg (by decide +kernel)]; exact ⟨rfl, rfl⟩))
  (fun os started H enc _ F => Qks os started H enc F)
end Go.Proofs.YtmnkngmmfnncoaaGreat
