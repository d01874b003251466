/- Part 5 of the proof of PseudoEquation: P8, CS2, CS3, CU, FwSE, FwSF, FwSG, FwSH, FwSI, FwSJ, FwSK, FwSL, FwUA, FwUB. Own lemmas; no conditions. -/
import Derived.Test.YtmnkngmmfnncoaaGreatPseudoEquationPart4
set_option linter.unusedSimpArgs false
set_option linter.unnecessarySimpa false
set_option linter.unusedVariables false
namespace Go.Proofs.YtmnkngmmfnncoaaGreat
open Go Go.FW
set_option linter.unusedSimpArgs false
set_option linter.unusedVariables false
set_option maxRecDepth 100000
theorem Qrp {p : List Tm} {f : Nat} {g : Tm -> Bool} (hf : ∀ t ∈ p, Qe Tryz.prog f [PV.term t] (· = .bool (g t))) (hlp : p.length <= 2 ^ 36) :
  Qe Tryz.prog 225 [PV.poly p, .fn f [] []] (· = .int .i64 (Qkj g p)) := by
 refine Qg Qk Tryz.func225 rfl Qab3 (by simp [Q65]) fun C hP => ?_; simp only [Q65]
 simp +decide (disch := first | omega | rfl | (simp +decide only [go_sem, ↓reduceIte] <;> rfl) | fail) only [go_sem, ↓reduceIte]
 refine Qy (by repeat (first | exact Qv | exact Qp | exact Qq | exact Qr | apply Qo | apply Qu | apply Qz | apply Q8 | apply Q9 | apply Qn)) [(4, 5), (8, 18)] [] (fun n J hp => ∃ i, n = p.length - i /\ i <= p.length /\ (∀ j (h : j < p.length), j < i -> g p[j] = false) /\ J 8 = .int .i64 (i : Nat)) p.length ?_ ?_
 ·refine ⟨0, rfl, by omega, by omega, ?_⟩
  simp +decide (disch := first | omega | rfl | (simp +decide only [go_sem, ↓reduceIte] <;> rfl) | fail) only [go_sem, ↓reduceIte]
  rfl
 rintro _ J h ⟨i, rfl, hi, h1, h8⟩
 simp +decide (disch := first | omega | rfl | (simp +decide only [go_sem, ↓reduceIte, h8] <;> rfl) | fail) only [go_sem, ↓reduceIte, h8]
 refine Qb (fun hg => ?_) (fun hg => ?_)
 ·have hi' : i < p.length := by omega
  have hfi := hf _ (List.getElem_mem hi')
  have hat := fun h => Qwh (g := g) hi' h h1
  have hadd : g p[i] = false -> ∀ j (h : j < p.length), j < i + 1 -> g p[j] = false := fun h j hj hji => by
   by_cases e : j = i
   ·subst e; exact h
   ·exact h1 j hj (by omega)
  generalize hx : p[i] = x at *
  simp +decide (disch := first | omega | rfl | (simp +decide only [go_sem, ↓reduceIte, h8, hx] <;> rfl) | fail) only [go_sem, ↓reduceIte, h8, hx]
  refine Qa hP hfi rfl rfl rfl ?_
  simp +decide (disch := first | omega | rfl | (simp +decide only [go_sem, ↓reduceIte, h8, hx] <;> rfl) | fail) only [go_sem, ↓reduceIte, h8, hx]
  cases hgx : g x
  ·simp +decide (disch := first | omega | rfl | (simp +decide only [go_sem, ↓reduceIte, h8] <;> rfl) | fail) only [go_sem, ↓reduceIte, h8]
   refine Ql (p.length - (i + 1)) (by omega) ⟨i + 1, rfl, by omega, hadd hgx, ?_⟩
   simp +decide (disch := first | omega | rfl | (simp +decide only [go_sem, ↓reduceIte] <;> rfl) | fail) only [go_sem, ↓reduceIte]
  ·simp +decide (disch := first | omega | rfl | (simp +decide only [go_sem, ↓reduceIte, h8] <;> rfl) | fail) only [go_sem, ↓reduceIte, h8]
   exact Qc (by rw [hat hgx]) rfl
 ·obtain rfl : i = p.length := by omega
  simp +decide (disch := first | omega | rfl | (simp +decide only [go_sem, ↓reduceIte] <;> rfl) | fail) only [go_sem, ↓reduceIte]
  exact Qc (by rw [Qro (fun j hj => h1 j hj hj)]) rfl
theorem Qrq {p : List Int} {f : Nat} {g : Int -> Bool} (hf : ∀ t ∈ p, Qe Tryz.prog f [.int .i64 t] (· = .bool (g t))) (hlp : p.length <= 2 ^ 36) :
  Qe Tryz.prog 226 [PV.mono p, .fn f [] []] (· = .int .i64 (Qkj g p)) := by
 refine Qg Qk Tryz.func226 rfl Qab4 (by simp [Q66]) fun C hP => ?_; simp only [Q66]
 simp +decide (disch := first | omega | rfl | (simp +decide only [go_sem, ↓reduceIte] <;> rfl) | fail) only [go_sem, ↓reduceIte]
 refine Qy (by repeat (first | exact Qv | exact Qp | exact Qq | exact Qr | apply Qo | apply Qu | apply Qz | apply Q8 | apply Q9 | apply Qn)) [(4, 5), (8, 18)] [] (fun n J hp => ∃ i, n = p.length - i /\ i <= p.length /\ (∀ j (h : j < p.length), j < i -> g p[j] = false) /\ J 8 = .int .i64 (i : Nat)) p.length ?_ ?_
 ·refine ⟨0, rfl, by omega, by omega, ?_⟩
  simp +decide (disch := first | omega | rfl | (simp +decide only [go_sem, ↓reduceIte] <;> rfl) | fail) only [go_sem, ↓reduceIte]
  rfl
 rintro _ J h ⟨i, rfl, hi, h1, h8⟩
 simp +decide (disch := first | omega | rfl | (simp +decide only [go_sem, ↓reduceIte, h8] <;> rfl) | fail) only [go_sem, ↓reduceIte, h8]
 refine Qb (fun hg => ?_) (fun hg => ?_)
 ·have hi' : i < p.length := by omega
  have hfi := hf _ (List.getElem_mem hi')
  have hat := fun h => Qwh (g := g) hi' h h1
  have hadd : g p[i] = false -> ∀ j (h : j < p.length), j < i + 1 -> g p[j] = false := fun h j hj hji => by
   by_cases e : j = i
   ·subst e; exact h
   ·exact h1 j hj (by omega)
  generalize hx : p[i] = x at *
  simp +decide (disch := first | omega | rfl | (simp +decide only [go_sem, ↓reduceIte, h8, hx] <;> rfl) | fail) only [go_sem, ↓reduceIte, h8, hx]
  refine Qa hP hfi rfl rfl rfl ?_
  simp +decide (disch := first | omega | rfl | (simp +decide only [go_sem, ↓reduceIte, h8, hx] <;> rfl) | fail) only [go_sem, ↓reduceIte, h8, hx]
  cases hgx : g x
  ·simp +decide (disch := first | omega | rfl | (simp +decide only [go_sem, ↓reduceIte, h8] <;> rfl) | fail) only [go_sem, ↓reduceIte, h8]
   refine Ql (p.length - (i + 1)) (by omega) ⟨i + 1, rfl, by omega, hadd hgx, ?_⟩
   simp +decide (disch := first | omega | rfl | (simp +decide only [go_sem, ↓reduceIte] <;> rfl) | fail) only [go_sem, ↓reduceIte]
  ·simp +decide (disch := first | omega | rfl | (simp +decide only [go_sem, ↓reduceIte, h8] <;> rfl) | fail) only [go_sem, ↓reduceIte, h8]
   exact Qc (by rw [hat hgx]) rfl
 ·obtain rfl : i = p.length := by omega
  simp +decide (disch := first | omega | rfl | (simp +decide only [go_sem, ↓reduceIte] <;> rfl) | fail) only [go_sem, ↓reduceIte]
  exact Qc (by rw [Qro (fun j hj => h1 j hj hj)]) rfl
theorem Qnw {p : List Tm} {f : Nat} {g : Tm -> Bool} (hf : ∀ t ∈ p, Qe Tryz.prog f [PV.term t] (· = .bool (g t))) (hlp : p.length <= 2 ^ 36) :
  Qe Tryz.prog 202 [PV.poly p, .fn f [] []] (· = .bool (p.any g)) := by
 refine Qg Qk Tryz.func202 rfl Qab1 (by simp [Q63]) fun C hP => ?_; simp only [Q63]
 simp +decide (disch := first | omega | rfl | (simp +decide only [go_sem, ↓reduceIte] <;> rfl) | fail) only [go_sem, ↓reduceIte]
 refine Qa hP (Qrp hf hlp) rfl rfl rfl ?_
 simp +decide (disch := first | omega | rfl | (simp +decide only [go_sem, ↓reduceIte] <;> rfl) | fail) only [go_sem, ↓reduceIte]
 exact Qc (congrArg PV.bool (Qtu g p)) rfl
theorem Qnx {p : List Int} {f : Nat} {g : Int -> Bool} (hf : ∀ t ∈ p, Qe Tryz.prog f [.int .i64 t] (· = .bool (g t))) (hlp : p.length <= 2 ^ 36) :
  Qe Tryz.prog 204 [PV.mono p, .fn f [] []] (· = .bool (p.any g)) := by
 refine Qg Qk Tryz.func204 rfl Qab2 (by simp [Q64]) fun C hP => ?_; simp only [Q64]
 simp +decide (disch := first | omega | rfl | (simp +decide only [go_sem, ↓reduceIte] <;> rfl) | fail) only [go_sem, ↓reduceIte]
 refine Qa hP (Qrq hf hlp) rfl rfl rfl ?_
 simp +decide (disch := first | omega | rfl | (simp +decide only [go_sem, ↓reduceIte] <;> rfl) | fail) only [go_sem, ↓reduceIte]
 exact Qc (congrArg PV.bool (Qtu g p)) rfl
theorem Qwi (x : Int) : Qe Tryz.prog 205 [.int .i64 x] (· = .bool (decide (1048576 < x))) := by
 refine Qg Qk Tryz.func205 rfl Qabz (by simp [Q61]) fun C hP => ?_; simp only [Q61]
 simp +decide (disch := first | omega | rfl | (simp +decide only [go_sem, ↓reduceIte] <;> rfl) | fail) only [go_sem, ↓reduceIte]
 exact Qc rfl rfl
theorem Qxh {t : Tm} (h : t.2.length <= 2 ^ 36) : Qe Tryz.prog 203 [PV.term t] (· = .bool (t.2.any fun x => decide (1048576 < x))) := by
 refine Qg Qk Tryz.func203 rfl Qaby (by simp [Q60]) fun C hP => ?_; simp only [Q60]
 simp +decide (disch := first | omega | rfl | (simp +decide only [go_sem, ↓reduceIte] <;> rfl) | fail) only [go_sem, ↓reduceIte]
 refine Qa hP (Qnx (fun x _ => Qwi x) h) rfl rfl rfl ?_
 simp +decide (disch := first | omega | rfl | (simp +decide only [go_sem, ↓reduceIte] <;> rfl) | fail) only [go_sem, ↓reduceIte]
 exact Qc rfl rfl
theorem Qwj {p : List Tm} {E : Nat} (hp : ∀ t ∈ p, MB E t.2) (hlp : p.length <= 2 ^ 36) : Qe Tryz.prog 150 [PV.poly p] (· = .bool (Qba p)) := by
 refine Qg Qk Tryz.func150 rfl Qabx (by simp [Q6z]) fun C hP => ?_; simp only [Q6z]
 simp +decide (disch := first | omega | rfl | (simp +decide only [go_sem, ↓reduceIte] <;> rfl) | fail) only [go_sem, ↓reduceIte]
 refine Q6 (fun h => ?_) (fun h => ?_)
 ·simp +decide (disch := first | omega | rfl | (simp +decide only [go_sem, ↓reduceIte] <;> rfl) | fail) only [go_sem, ↓reduceIte]
  exact Qc (congrArg PV.bool (by rw [Qba, decide_eq_true (by omega), Bool.true_or])) rfl
 ·simp +decide (disch := first | omega | rfl | (simp +decide only [go_sem, ↓reduceIte] <;> rfl) | fail) only [go_sem, ↓reduceIte]
  refine Qa hP (Qnw (fun t ht => Qxh (by have := (hp t ht).len; omega)) hlp) rfl rfl rfl ?_
  simp +decide (disch := first | omega | rfl | (simp +decide only [go_sem, ↓reduceIte] <;> rfl) | fail) only [go_sem, ↓reduceIte]
  exact Qc (congrArg PV.bool (by rw [Qba, decide_eq_false (by omega), Bool.false_or])) rfl
theorem Qtv {a : Rat} {k : Nat} (h : rs a <= k) (hk : k < 2 ^ 36) : Qe Tryz.prog 123 [PV.rat a] (· = PV.poly (Qd8 a)) := by
 have := Qwc (Qb9 h) hk
 rwa [Qc0] at this
def Qzz (p : List Tm) (n : Nat) : PV := if Qiy p n = true then .tup [PV.poly [], .int .i64 4] else .tup [PV.poly (Qb6 p n), .int .i64 0]
theorem Qz0 {p : List Tm} {n K E L : Nat} (hn : n <= 4000) (hp : PB K E p) (hb : ∀ i, i <= n -> PB K E (Qb6 p i) /\ (Qb6 p i).length <= L) (hlp : p.length <= L) (hL : L <= 2 ^ 17) (hE : E <= 2 ^ 37) (hK : L * (K + K) <= 2 ^ 33) (hK2 : K <= 2 ^ 33) :
  Qe Tryz.prog 74 [PV.poly p, .int .i64 n] (· = Qzz p n) := by
 have h1 := Qsq
 refine Qg Qk Tryz.func74 rfl Qafm (by simp [c74]) fun C hP => ?_; simp only [c74]
 simp +decide (disch := first | omega | rfl | (simp +decide only [go_sem, ↓reduceIte] <;> rfl) | fail) only [go_sem, ↓reduceIte]
 refine Q6 (fun h => by omega) (fun _ => ?_)
 simp +decide (disch := first | omega | rfl | (simp +decide only [go_sem, ↓reduceIte] <;> rfl) | fail) only [go_sem, ↓reduceIte]
 refine Qb (fun h => by omega) (fun _ => ?_)
 simp +decide (disch := first | omega | rfl | (simp +decide only [go_sem, ↓reduceIte] <;> rfl) | fail) only [go_sem, ↓reduceIte]
 refine Qa hP (Qie (x := 1) (by omega) (by omega)) rfl rfl rfl ?_
 simp +decide (disch := first | omega | rfl | (simp +decide only [go_sem, ↓reduceIte] <;> rfl) | fail) only [go_sem, ↓reduceIte]
 refine Qa hP (Qtv (a := ((1 : Int) : Rat)) (k := 1) (by have : ((1 : Int) : Rat) = 1 := rfl; rw [this]; exact h1) (by omega)) rfl rfl rfl ?_
 rw [show Qd8 ((1 : Int) : Rat) = Qb6 p 0 from rfl]
 simp +decide (disch := first | omega | rfl | (simp +decide only [go_sem, ↓reduceIte] <;> rfl) | fail) only [go_sem, ↓reduceIte]
 refine Qy (by repeat (first | exact Qv | exact Qp | exact Qq | exact Qr | apply Qo | apply Qu | apply Qz | apply Q8 | apply Q9 | apply Qn)) [(4, 6), (16, 23)] [] (fun m J hp => ∃ i, m = n - i /\ i <= n /\ Qiy p i = false /\ J 6 = PV.poly (Qb6 p i) /\ J 16 = .int .i64 (i : Nat)) n ?_ ?_
 ·refine ⟨0, rfl, by omega, rfl, ?_⟩
  simp +decide (disch := first | omega | rfl | (simp +decide only [go_sem, ↓reduceIte] <;> rfl) | fail) only [go_sem, ↓reduceIte]
  rfl
 rintro _ J h ⟨i, rfl, hi, hl, h6, h16⟩
 simp +decide (disch := first | omega | rfl | (simp +decide only [go_sem, ↓reduceIte, h6, h16] <;> rfl) | fail) only [go_sem, ↓reduceIte, h6, h16]
 refine Qb (fun hg => ?_) (fun hg => ?_)
 ·have hi' : i < n := by omega
  obtain ⟨b1, b2⟩ := hb i (by omega)
  obtain ⟨b3, b4⟩ := hb (i + 1) (by omega)
  have hs := Qrn p i
  rw [hl, Bool.false_or] at hs
  have hm1 : (Qb6 p i).length * p.length <= 2 ^ 17 * 2 ^ 17 := Nat.mul_le_mul (by omega) (by omega)
  have hm2 : min (Qb6 p i).length p.length * (K + K) <= L * (K + K) := Nat.mul_le_mul_right _ (by omega)
  have hof : Qba (Qb6 p (i + 1)) = true -> Qiy p n = true := fun h => Q7a hi' h
  simp +decide (disch := first | omega | rfl | (simp +decide only [go_sem, ↓reduceIte, h6, h16] <;> rfl) | fail) only [go_sem, ↓reduceIte, h6, h16]
  refine Qa hP (Qb4 b1 hp hE (by omega) (by omega) (by omega) (by omega) hK2) rfl rfl rfl ?_
  rw [show Qad (Qb6 p i) p = Qb6 p (i + 1) from rfl]
  simp +decide (disch := first | omega | rfl | (simp +decide only [go_sem, ↓reduceIte, h6, h16] <;> rfl) | fail) only [go_sem, ↓reduceIte, h6, h16]
  refine Qa hP (Qwj (fun t ht => (b3 t ht).m) (by omega)) rfl rfl rfl ?_
  simp +decide (disch := first | omega | rfl | (simp +decide only [go_sem, ↓reduceIte, h6, h16] <;> rfl) | fail) only [go_sem, ↓reduceIte, h6, h16]
  cases hlg : Qba (Qb6 p (i + 1))
  ·simp +decide (disch := first | omega | rfl | (simp +decide only [go_sem, ↓reduceIte, h16] <;> rfl) | fail) only [go_sem, ↓reduceIte, h16]
   refine Ql (n - (i + 1)) (by omega) ⟨i + 1, rfl, by omega, by rw [hs, hlg], ?_⟩
   simp +decide (disch := first | omega | rfl | (simp +decide only [go_sem, ↓reduceIte] <;> rfl) | fail) only [go_sem, ↓reduceIte]
  ·simp +decide (disch := first | omega | rfl | (simp +decide only [go_sem, ↓reduceIte] <;> rfl) | fail) only [go_sem, ↓reduceIte]
   exact Qfe (by rw [Qzz, if_pos (hof hlg)]) rfl rfl Qc4 (Qt _)
 ·obtain rfl : i = n := by omega
  simp +decide (disch := first | omega | rfl | (simp +decide only [go_sem, ↓reduceIte, h6] <;> rfl) | fail) only [go_sem, ↓reduceIte, h6]
  exact Qfe (by rw [Qzz, if_neg (by simp [hl])]) rfl rfl (Qt _) (Qt _)
end Go.Proofs.YtmnkngmmfnncoaaGreat
namespace Go.Proofs.YtmnkngmmfnncoaaGreat
open Go Go.FW
set_option maxRecDepth 100000
def Q7b : SFn := ⟨39, [.t 2], .seq (.rg (.o none (.mv 2 (.c (.bool false))) .nil)) <| .seq (.seq (.rg (.o none (.mv 4 (.t 0)) <|
 .o none (.len 5 (.t 4)) <|
 .o none (.bin 6 .gtr false (.t 5) (.c (.int .i64 64))) <|
 .o none (.mv 7 (.t 6)) <|
 .o (some (7, false)) (.mv 8 (.t 0)) <|
 .o (some (7, false)) (.len 9 (.t 8)) <|
 .o (some (7, false)) (.bin 10 .gtr false (.t 9) (.c (.int .i64 0))) <|
 .o (some (7, false)) (.mv 11 (.t 10)) <|
 .o (some (11, true)) (.mv 12 (.t 0)) <|
 .o (some (11, true)) (.mv 13 (.t 0)) <|
 .o (some (11, true)) (.len 14 (.t 13)) <|
 .o (some (11, true)) (.bin 15 .sub false (.t 14) (.c (.int .i64 1))) <|
 .o (some (11, true)) (.idx 16 1 (.t 12) (.t 15)) <|
 .o (some (11, true)) (.ld 17 1 false (.t 16)) <|
 .o (some (11, true)) (.bin 18 .eql false (.t 17) (.c (.int .i64 0))) <|
 .o (some (7, false)) (.pick 19 (.t 11) (.t 18) (.c (.bool false))) <|
 .o none (.pick 20 (.t 7) (.c (.bool true)) (.t 19)) .nil)) <| .cond (.t 20) (.seq (.rg (.o none (.mv 2 (.c (.bool false))) .nil)) <| .ret) (.skip)) <| .seq (.seq (.rg (.o none (.mv 3 (.c (.int .i64 0))) .nil)) <| .block 0 (.loop (.seq (.seq (.rg (.o none (.mv 21 (.t 3)) <|
 .o none (.mv 22 (.t 0)) <|
 .o none (.len 23 (.t 22)) <|
 .o none (.bin 24 .lss false (.t 21) (.t 23)) .nil)) <| .cond (.t 24) (.skip) (.exit 0)) <| .seq (.block 1 (.seq (.rg (.o none (.mv 27 (.t 0)) <|
 .o none (.mv 28 (.t 3)) <|
 .o none (.idx 29 1 (.t 27) (.t 28)) <|
 .o none (.ld 30 1 false (.t 29)) <|
 .o none (.bin 31 .lss false (.t 30) (.c (.int .i64 0))) <|
 .o none (.mv 32 (.t 31)) <|
 .o (some (32, false)) (.mv 33 (.t 0)) <|
 .o (some (32, false)) (.mv 34 (.t 3)) <|
 .o (some (32, false)) (.idx 35 1 (.t 33) (.t 34)) <|
 .o (some (32, false)) (.ld 36 1 false (.t 35)) <|
 .o (some (32, false)) (.bin 37 .gtr false (.t 36) (.c (.int .i64 1048576))) <|
 .o none (.pick 38 (.t 32) (.c (.bool true)) (.t 37)) .nil)) <| .cond (.t 38) (.seq (.rg (.o none (.mv 2 (.c (.bool false))) .nil)) <| .ret) (.skip))) <| .rg (.o none (.mv 25 (.t 3)) <|
 .o none (.bin 26 .add false (.t 25) (.c (.int .i64 1))) <|
 .o none (.mv 3 (.t 26)) .nil)))) <| .seq (.rg (.o none (.mv 2 (.c (.bool true))) .nil)) <| .ret⟩
theorem Qab6 : Qf Tryz.prog Tryz.f179 = some Q7b := by kernel_rfl
def Q7c : SFn := ⟨24, [.t 2], .seq (.rg (.o none (.mv 2 (.c .nilS)) .nil)) <| .seq (.rg (.o none (.mv 5 (.t 0)) <|
 .o none (.len 6 (.t 5)) <|
 .o none (.mv 3 (.t 6)) .nil)) <| .seq (.block 0 (.loop (.seq (.seq (.rg (.o none (.mv 7 (.t 3)) <|
 .o none (.bin 8 .gtr false (.t 7) (.c (.int .i64 0))) <|
 .o none (.mv 9 (.t 8)) <|
 .o (some (9, true)) (.mv 10 (.t 0)) <|
 .o (some (9, true)) (.mv 11 (.t 3)) <|
 .o (some (9, true)) (.bin 12 .sub false (.t 11) (.c (.int .i64 1))) <|
 .o (some (9, true)) (.idx 13 1 (.t 10) (.t 12)) <|
 .o (some (9, true)) (.ld 14 1 false (.t 13)) <|
 .o (some (9, true)) (.bin 15 .eql false (.t 14) (.c (.int .i64 0))) <|
 .o none (.pick 16 (.t 9) (.t 15) (.c (.bool false))) .nil)) <| .cond (.t 16) (.skip) (.exit 0)) <| .block 1 (.rg (.o none (.mv 17 (.t 3)) <|
 .o none (.bin 18 .sub false (.t 17) (.c (.int .i64 1))) <|
 .o none (.mv 3 (.t 18)) .nil))))) <| .seq (.rg (.o none (.mv 4 (.c .nilS)) .nil)) <| .seq (.rg (.o none (.mv 19 (.t 4)) <|
 .o none (.mv 20 (.t 0)) <|
 .o none (.mv 21 (.t 3)) <|
 .o none (.sl 22 1 (.t 20) none (some (.t 21)) none) <|
 .o none (.app 23 1 8 3 (.t 19) (.t 22)) <|
 .o none (.mv 2 (.t 23)) .nil)) <| .ret⟩
theorem Qab7 : Qf Tryz.prog Tryz.f218 = some Q7c := by kernel_rfl
def Q7d : SFn := ⟨9, [.t 2], .seq (.rg (.o none (.mv 2 (.c .nilS)) .nil)) <| .seq (.seq (.rg (.o none (.mv 4 (.t 0)) <|
 .o none (.call (some 5) false (.c (.fn 218 [] [])) [(.t 4)]) <|
 .o none (.mv 3 (.t 5)) .nil)) <| .seq (.rg (.o none (.mv 6 (.t 3)) <|
 .o none (.call (some 7) false (.c (.fn 179 [] [])) [(.t 6)]) .nil)) <| .cond (.t 7) (.seq (.rg (.o none (.mv 8 (.t 3)) <|
 .o none (.mv 2 (.t 8)) .nil)) <| .ret) (.skip)) <| .seq (.rg (.o none (.mv 2 (.c .nilS)) .nil)) <| .ret⟩
theorem Qab8 : Qf Tryz.prog Tryz.f183 = some Q7d := by kernel_rfl
def Q7e : SFn := ⟨18, [.t 2], .seq (.rg (.o none (.mv 2 (.c (.int .i64 0))) .nil)) <| .seq (.rg (.o none (.mv 3 (.c (.int .i64 0))) .nil)) <| .seq (.seq (.rg (.o none (.mv 4 (.c (.int .i64 0))) .nil)) <| .block 0 (.loop (.seq (.seq (.rg (.o none (.mv 5 (.t 4)) <|
 .o none (.mv 6 (.t 0)) <|
 .o none (.len 7 (.t 6)) <|
 .o none (.bin 8 .lss false (.t 5) (.t 7)) .nil)) <| .cond (.t 8) (.skip) (.exit 0)) <| .seq (.block 1 (.rg (.o none (.mv 11 (.t 3)) <|
 .o none (.mv 12 (.t 0)) <|
 .o none (.mv 13 (.t 4)) <|
 .o none (.idx 14 1 (.t 12) (.t 13)) <|
 .o none (.ld 15 1 false (.t 14)) <|
 .o none (.bin 16 .add false (.t 11) (.t 15)) <|
 .o none (.mv 3 (.t 16)) .nil))) <| .rg (.o none (.mv 9 (.t 4)) <|
 .o none (.bin 10 .add false (.t 9) (.c (.int .i64 1))) <|
 .o none (.mv 4 (.t 10)) .nil)))) <| .seq (.rg (.o none (.mv 17 (.t 3)) <|
 .o none (.mv 2 (.t 17)) .nil)) <| .ret⟩
theorem Qab9 : Qf Tryz.prog Tryz.f216 = some Q7e := by kernel_rfl
def Q7f : SFn := ⟨17, [.t 4], .seq (.rg (.o none (.mv 4 (.c (.int .i64 0))) .nil)) <| .seq (.seq (.rg (.o none (.mv 5 (.t 1)) <|
 .o none (.bin 6 .lss false (.t 5) (.c (.int .i64 0))) <|
 .o none (.mv 7 (.t 6)) <|
 .o (some (7, false)) (.mv 8 (.t 1)) <|
 .o (some (7, false)) (.mv 9 (.t 0)) <|
 .o (some (7, false)) (.len 10 (.t 9)) <|
 .o (some (7, false)) (.bin 11 .geq false (.t 8) (.t 10)) <|
 .o none (.pick 12 (.t 7) (.c (.bool true)) (.t 11)) .nil)) <| .cond (.t 12) (.seq (.rg (.o none (.mv 4 (.c (.int .i64 0))) .nil)) <| .ret) (.skip)) <| .seq (.rg (.o none (.mv 13 (.t 0)) <|
 .o none (.mv 14 (.t 1)) <|
 .o none (.idx 15 1 (.t 13) (.t 14)) <|
 .o none (.ld 16 1 false (.t 15)) <|
 .o none (.mv 4 (.t 16)) .nil)) <| .ret⟩
theorem Qaca : Qf Tryz.prog Tryz.f131 = some Q7f := by kernel_rfl
def Q7g : SFn := ⟨48, [.t 6], .seq (.rg (.o none (.mv 6 (.c (.int .i64 0))) .nil)) <| .seq (.seq (.rg (.o none (.mv 8 (.t 2)) <|
 .o none (.bin 9 .eql false (.t 8) (.c (.int .i64 1))) <|
 .o none (.mv 10 (.t 9)) <|
 .o (some (10, true)) (.mv 11 (.t 0)) <|
 .o (some (10, true)) (.call (some 12) false (.c (.fn 216 [] [])) [(.t 11)]) <|
 .o (some (10, true)) (.mv 13 (.t 1)) <|
 .o (some (10, true)) (.call (some 14) false (.c (.fn 216 [] [])) [(.t 13)]) <|
 .o (some (10, true)) (.bin 15 .neq false (.t 12) (.t 14)) <|
 .o none (.pick 16 (.t 10) (.t 15) (.c (.bool false))) .nil)) <| .cond (.t 16) (.seq (.rg (.o none (.mv 17 (.t 0)) <|
 .o none (.call (some 18) false (.c (.fn 216 [] [])) [(.t 17)]) <|
 .o none (.mv 19 (.t 1)) <|
 .o none (.call (some 20) false (.c (.fn 216 [] [])) [(.t 19)]) <|
 .o none (.bin 21 .sub false (.t 18) (.t 20)) <|
 .o none (.call (some 22) false (.c (.fn 217 [] [])) [(.t 21)]) <|
 .o none (.mv 6 (.t 22)) .nil)) <| .ret) (.skip)) <| .seq (.seq (.rg (.o none (.mv 23 (.t 0)) <|
 .o none (.len 24 (.t 23)) <|
 .o none (.mv 25 (.t 1)) <|
 .o none (.len 26 (.t 25)) <|
 .o none (.mx 27 (.t 24) (.t 26)) <|
 .o none (.bin 28 .sub false (.t 27) (.c (.int .i64 1))) <|
 .o none (.mv 7 (.t 28)) .nil)) <| .block 0 (.loop (.seq (.seq (.rg (.o none (.mv 29 (.t 7)) <|
 .o none (.bin 30 .geq false (.t 29) (.c (.int .i64 0))) .nil)) <| .cond (.t 30) (.skip) (.exit 0)) <| .seq (.block 1 (.seq (.rg (.o none (.mv 33 (.t 0)) <|
 .o none (.mv 34 (.t 7)) <|
 .o none (.call (some 35) false (.c (.fn 131 [] [])) [(.t 33), (.t 34)]) <|
 .o none (.mv 36 (.t 1)) <|
 .o none (.mv 37 (.t 7)) <|
 .o none (.call (some 38) false (.c (.fn 131 [] [])) [(.t 36), (.t 37)]) <|
 .o none (.bin 39 .neq false (.t 35) (.t 38)) .nil)) <| .cond (.t 39) (.seq (.rg (.o none (.mv 40 (.t 0)) <|
 .o none (.mv 41 (.t 7)) <|
 .o none (.call (some 42) false (.c (.fn 131 [] [])) [(.t 40), (.t 41)]) <|
 .o none (.mv 43 (.t 1)) <|
 .o none (.mv 44 (.t 7)) <|
 .o none (.call (some 45) false (.c (.fn 131 [] [])) [(.t 43), (.t 44)]) <|
 .o none (.bin 46 .sub false (.t 42) (.t 45)) <|
 .o none (.call (some 47) false (.c (.fn 217 [] [])) [(.t 46)]) <|
 .o none (.mv 6 (.t 47)) .nil)) <| .ret) (.skip))) <| .rg (.o none (.mv 31 (.t 7)) <|
 .o none (.bin 32 .sub false (.t 31) (.c (.int .i64 1))) <|
 .o none (.mv 7 (.t 32)) .nil)))) <| .seq (.rg (.o none (.mv 6 (.c (.int .i64 0))) .nil)) <| .ret⟩
theorem Qacb : Qf Tryz.prog Tryz.f180 = some Q7g := by kernel_rfl
def Q7h : SFn := ⟨7, [.t 2], .seq (.rg (.o none (.mv 2 (.c (.int .i64 0))) .nil)) <| .seq (.seq (.rg (.o none (.mv 3 (.t 0)) <|
 .o none (.bin 4 .lss false (.t 3) (.c (.int .i64 0))) .nil)) <| .cond (.t 4) (.seq (.rg (.o none (.mv 2 (.c (.int .i64 (-1)))) .nil)) <| .ret) (.skip)) <| .seq (.seq (.rg (.o none (.mv 5 (.t 0)) <|
 .o none (.bin 6 .gtr false (.t 5) (.c (.int .i64 0))) .nil)) <| .cond (.t 6) (.seq (.rg (.o none (.mv 2 (.c (.int .i64 1))) .nil)) <| .ret) (.skip)) <| .seq (.rg (.o none (.mv 2 (.c (.int .i64 0))) .nil)) <| .ret⟩
theorem Qacc : Qf Tryz.prog Tryz.f217 = some Q7h := by kernel_rfl
end Go.Proofs.YtmnkngmmfnncoaaGreat
namespace Go.Proofs.YtmnkngmmfnncoaaGreat
open Go Go.FW
set_option maxRecDepth 100000
def Q7i : SFn := ⟨92, [.t 4], .seq (.rg (.o none (.mv 4 (.c .nilS)) .nil)) <| .seq (.rg (.o none (.mv 5 (.c .nilS)) .nil)) <| .seq (.rg (.o none (.mv 6 (.c (.int .i64 0))) <|
 .o none (.mv 7 (.c (.int .i64 0))) .nil)) <| .seq (.block 0 (.loop (.seq (.seq (.rg (.o none (.mv 10 (.t 6)) <|
 .o none (.mv 11 (.t 0)) <|
 .o none (.len 12 (.t 11)) <|
 .o none (.bin 13 .lss false (.t 10) (.t 12)) <|
 .o none (.mv 14 (.t 13)) <|
 .o (some (14, false)) (.mv 15 (.t 7)) <|
 .o (some (14, false)) (.mv 16 (.t 1)) <|
 .o (some (14, false)) (.len 17 (.t 16)) <|
 .o (some (14, false)) (.bin 18 .lss false (.t 15) (.t 17)) <|
 .o none (.pick 19 (.t 14) (.c (.bool true)) (.t 18)) .nil)) <| .cond (.t 19) (.skip) (.exit 0)) <| .block 1 (.seq (.rg (.o none (.mv 8 (.c (.int .i64 1))) .nil)) <| .seq (.seq (.rg (.o none (.mv 20 (.t 6)) <|
 .o none (.mv 21 (.t 0)) <|
 .o none (.len 22 (.t 21)) <|
 .o none (.bin 23 .eql false (.t 20) (.t 22)) .nil)) <| .cond (.t 23) (.rg (.o none (.mv 8 (.c (.int .i64 (-1)))) .nil)) (.seq (.rg (.o none (.mv 24 (.t 7)) <|
 .o none (.mv 25 (.t 1)) <|
 .o none (.len 26 (.t 25)) <|
 .o none (.bin 27 .lss false (.t 24) (.t 26)) .nil)) <| .cond (.t 27) (.rg (.o none (.mv 28 (.t 0)) <|
 .o none (.mv 29 (.t 6)) <|
 .o none (.idx 30 4 (.t 28) (.t 29)) <|
 .o none (.fld 31 3 (.t 30)) <|
 .o none (.ld 32 1 false (.t 31)) <|
 .o none (.mv 33 (.t 1)) <|
 .o none (.mv 34 (.t 7)) <|
 .o none (.idx 35 4 (.t 33) (.t 34)) <|
 .o none (.fld 36 3 (.t 35)) <|
 .o none (.ld 37 1 false (.t 36)) <|
 .o none (.call (some 38) false (.c (.fn 180 [] [])) [(.t 32), (.t 37), (.c (.int .i64 0))]) <|
 .o none (.mv 8 (.t 38)) .nil)) (.skip))) <| .block 2 (.seq (.rg (.o none (.mv 68 (.t 8)) <|
 .o none (.bin 69 .gtr false (.t 68) (.c (.int .i64 0))) <|
 .o none (.mv 67 (.t 69)) .nil)) <| .cond (.t 67) (.seq (.rg (.o none (.mv 70 (.t 5)) <|
 .o none (.mv 71 (.t 0)) <|
 .o none (.mv 72 (.t 6)) <|
 .o none (.idx 73 4 (.t 71) (.t 72)) <|
 .o none (.ld 74 4 true (.t 73)) <|
 .o none (.bs 75 4 133 [(.t 74)]) <|
 .o none (.app 76 4 80 133 (.t 70) (.t 75)) <|
 .o none (.mv 5 (.t 76)) .nil)) <| .rg (.o none (.mv 77 (.t 6)) <|
 .o none (.bin 78 .add false (.t 77) (.c (.int .i64 1))) <|
 .o none (.mv 6 (.t 78)) .nil)) (.seq (.rg (.o none (.mv 80 (.t 8)) <|
 .o none (.bin 81 .lss false (.t 80) (.c (.int .i64 0))) <|
 .o none (.mv 79 (.t 81)) .nil)) <| .cond (.t 79) (.seq (.rg (.o none (.mv 82 (.t 5)) <|
 .o none (.mv 83 (.t 1)) <|
 .o none (.mv 84 (.t 7)) <|
 .o none (.idx 85 4 (.t 83) (.t 84)) <|
 .o none (.ld 86 4 true (.t 85)) <|
 .o none (.bs 87 4 133 [(.t 86)]) <|
 .o none (.app 88 4 80 133 (.t 82) (.t 87)) <|
 .o none (.mv 5 (.t 88)) .nil)) <| .rg (.o none (.mv 89 (.t 7)) <|
 .o none (.bin 90 .add false (.t 89) (.c (.int .i64 1))) <|
 .o none (.mv 7 (.t 90)) .nil)) (.seq (.seq (.rg (.o none (.mv 39 (.t 0)) <|
 .o none (.mv 40 (.t 6)) <|
 .o none (.idx 41 4 (.t 39) (.t 40)) <|
 .o none (.fld 42 0 (.t 41)) <|
 .o none (.ld 43 3 true (.t 42)) <|
 .o none (.mv 44 (.t 1)) <|
 .o none (.mv 45 (.t 7)) <|
 .o none (.idx 46 4 (.t 44) (.t 45)) <|
 .o none (.fld 47 0 (.t 46)) <|
 .o none (.ld 48 3 true (.t 47)) <|
 .br (.o none (.call (some 49) true (.c (.fn 101 [] [])) [(.t 43), (.t 48)]) <|
 .o none (.alloc 9 3 32 (.agg [(.bool false), .nilS, .nilS])) <|
 .o none (.st 3 (.t 9) (.t 49)) .nil) (.o none (.alloc 9 3 32 (.agg [(.bool false), .nilS, .nilS])) <|
 .o none (.call (some 49) true (.c (.fn 101 [] [])) [(.t 43), (.t 48)]) <|
 .o none (.st 3 (.t 9) (.t 49)) .nil))) <| .seq (.rg (.o none (.ld 50 3 true (.t 9)) <|
 .o none (.call (some 51) false (.c (.fn 81 [] [])) [(.t 50)]) <|
 .o none (.bin 52 .neq false (.t 51) (.c (.int .i64 0))) .nil)) <| .cond (.t 52) (.rg (.o none (.mv 53 (.t 5)) <|
 .o none (.ld 54 3 true (.t 9)) <|
 .o none (.mv 55 (.t 0)) <|
 .o none (.mv 56 (.t 6)) <|
 .o none (.idx 57 4 (.t 55) (.t 56)) <|
 .o none (.fld 58 3 (.t 57)) <|
 .o none (.ld 59 1 false (.t 58)) <|
 .o none (.bld 60 [(.bool false), .nilS, .nilS, .nilS] [(0, 3, (.t 54)), (3, 1, (.t 59))]) <|
 .o none (.bs 61 4 133 [(.t 60)]) <|
 .o none (.app 62 4 80 133 (.t 53) (.t 61)) <|
 .o none (.mv 5 (.t 62)) .nil)) (.skip)) <| .seq (.rg (.o none (.mv 63 (.t 6)) <|
 .o none (.bin 64 .add false (.t 63) (.c (.int .i64 1))) <|
 .o none (.mv 6 (.t 64)) .nil)) <| .rg (.o none (.mv 65 (.t 7)) <|
 .o none (.bin 66 .add false (.t 65) (.c (.int .i64 1))) <|
 .o none (.mv 7 (.t 66)) .nil)))))))) <| .seq (.rg (.o none (.mv 91 (.t 5)) <|
 .o none (.mv 4 (.t 91)) .nil)) <| .ret⟩
theorem Qacd : Qf Tryz.prog Tryz.f126 = some Q7i := by kernel_rfl
def Q7j : SFn := ⟨58, [.t 4], .seq (.rg (.o none (.mv 4 (.c (.int .i64 0))) .nil)) <| .seq (.seq (.rg (.o none (.mv 5 (.c (.int .i64 0))) .nil)) <| .block 0 (.loop (.seq (.seq (.rg (.o none (.mv 8 (.t 5)) <|
 .o none (.mv 9 (.t 0)) <|
 .o none (.len 10 (.t 9)) <|
 .o none (.bin 11 .lss false (.t 8) (.t 10)) <|
 .o none (.mv 12 (.t 11)) <|
 .o (some (12, true)) (.mv 13 (.t 5)) <|
 .o (some (12, true)) (.mv 14 (.t 1)) <|
 .o (some (12, true)) (.len 15 (.t 14)) <|
 .o (some (12, true)) (.bin 16 .lss false (.t 13) (.t 15)) <|
 .o none (.pick 17 (.t 12) (.t 16) (.c (.bool false))) .nil)) <| .cond (.t 17) (.skip) (.exit 0)) <| .seq (.block 1 (.seq (.seq (.rg (.o none (.mv 20 (.t 0)) <|
 .o none (.mv 21 (.t 5)) <|
 .o none (.idx 22 4 (.t 20) (.t 21)) <|
 .o none (.fld 23 3 (.t 22)) <|
 .o none (.ld 24 1 false (.t 23)) <|
 .o none (.mv 25 (.t 1)) <|
 .o none (.mv 26 (.t 5)) <|
 .o none (.idx 27 4 (.t 25) (.t 26)) <|
 .o none (.fld 28 3 (.t 27)) <|
 .o none (.ld 29 1 false (.t 28)) <|
 .o none (.call (some 30) false (.c (.fn 180 [] [])) [(.t 24), (.t 29), (.c (.int .i64 0))]) <|
 .o none (.mv 6 (.t 30)) .nil)) <| .seq (.rg (.o none (.mv 31 (.t 6)) <|
 .o none (.bin 32 .neq false (.t 31) (.c (.int .i64 0))) .nil)) <| .cond (.t 32) (.seq (.rg (.o none (.mv 33 (.t 6)) <|
 .o none (.mv 4 (.t 33)) .nil)) <| .ret) (.skip)) <| .seq (.rg (.o none (.mv 34 (.t 0)) <|
 .o none (.mv 35 (.t 5)) <|
 .o none (.idx 36 4 (.t 34) (.t 35)) <|
 .o none (.fld 37 0 (.t 36)) <|
 .o none (.ld 38 3 true (.t 37)) <|
 .o none (.mv 39 (.t 1)) <|
 .o none (.mv 40 (.t 5)) <|
 .o none (.idx 41 4 (.t 39) (.t 40)) <|
 .o none (.fld 42 0 (.t 41)) <|
 .o none (.ld 43 3 true (.t 42)) <|
 .o none (.call (some 44) false (.c (.fn 148 [] [])) [(.t 38), (.t 43)]) <|
 .o none (.mv 7 (.t 44)) .nil)) <| .seq (.rg (.o none (.mv 45 (.t 7)) <|
 .o none (.bin 46 .neq false (.t 45) (.c (.int .i64 0))) .nil)) <| .cond (.t 46) (.seq (.rg (.o none (.mv 47 (.t 7)) <|
 .o none (.mv 4 (.t 47)) .nil)) <| .ret) (.skip))) <| .rg (.o none (.mv 18 (.t 5)) <|
 .o none (.bin 19 .add false (.t 18) (.c (.int .i64 1))) <|
 .o none (.mv 5 (.t 19)) .nil)))) <| .seq (.seq (.rg (.o none (.mv 48 (.t 0)) <|
 .o none (.len 49 (.t 48)) <|
 .o none (.mv 50 (.t 1)) <|
 .o none (.len 51 (.t 50)) <|
 .o none (.bin 52 .lss false (.t 49) (.t 51)) .nil)) <| .cond (.t 52) (.seq (.rg (.o none (.mv 4 (.c (.int .i64 (-1)))) .nil)) <| .ret) (.skip)) <| .seq (.seq (.rg (.o none (.mv 53 (.t 0)) <|
 .o none (.len 54 (.t 53)) <|
 .o none (.mv 55 (.t 1)) <|
 .o none (.len 56 (.t 55)) <|
 .o none (.bin 57 .gtr false (.t 54) (.t 56)) .nil)) <| .cond (.t 57) (.seq (.rg (.o none (.mv 4 (.c (.int .i64 1))) .nil)) <| .ret) (.skip)) <| .seq (.rg (.o none (.mv 4 (.c (.int .i64 0))) .nil)) <| .ret⟩
theorem Qace : Qf Tryz.prog Tryz.f134 = some Q7j := by kernel_rfl
def c61 : SFn := ⟨9, [.t 4], .seq (.rg (.o none (.mv 4 (.c (.bool false))) .nil)) <| .seq (.rg (.o none (.mv 5 (.t 0)) <|
 .o none (.mv 6 (.t 1)) <|
 .o none (.call (some 7) false (.c (.fn 134 [] [])) [(.t 5), (.t 6)]) <|
 .o none (.bin 8 .eql false (.t 7) (.c (.int .i64 0))) <|
 .o none (.mv 4 (.t 8)) .nil)) <| .ret⟩
theorem Qafn : Qf Tryz.prog Tryz.f61 = some c61 := by kernel_rfl
def Q7k : SFn := ⟨34, [.t 2], .seq (.rg (.o none (.mv 2 (.c .nilS)) .nil)) <| .seq (.rg (.o none (.mv 3 (.c .nilS)) .nil)) <| .seq (.seq (.rg (.o none (.mv 4 (.c (.int .i64 0))) .nil)) <| .block 0 (.loop (.seq (.seq (.rg (.o none (.mv 6 (.t 4)) <|
 .o none (.mv 7 (.t 0)) <|
 .o none (.len 8 (.t 7)) <|
 .o none (.bin 9 .lss false (.t 6) (.t 8)) .nil)) <| .cond (.t 9) (.skip) (.exit 0)) <| .seq (.block 1 (.seq (.rg (.o none (.mv 12 (.t 0)) <|
 .o none (.mv 13 (.t 4)) <|
 .o none (.idx 14 4 (.t 12) (.t 13)) <|
 .o none (.fld 15 3 (.t 14)) <|
 .o none (.ld 16 1 false (.t 15)) <|
 .o none (.call (some 17) false (.c (.fn 183 [] [])) [(.t 16)]) <|
 .o none (.mv 5 (.t 17)) .nil)) <| .seq (.rg (.o none (.mv 18 (.t 0)) <|
 .o none (.mv 19 (.t 4)) <|
 .o none (.idx 20 4 (.t 18) (.t 19)) <|
 .o none (.fld 21 3 (.t 20)) <|
 .o none (.ld 22 1 false (.t 21)) <|
 .o none (.mv 23 (.t 5)) <|
 .o none (.call (some 24) false (.c (.fn 184 [] [])) [(.t 22), (.t 23)]) .nil)) <| .cond (.t 24) (.rg (.o none (.mv 25 (.t 3)) <|
 .o none (.mv 26 (.t 0)) <|
 .o none (.mv 27 (.t 4)) <|
 .o none (.idx 28 4 (.t 26) (.t 27)) <|
 .o none (.fld 29 0 (.t 28)) <|
 .o none (.ld 30 3 true (.t 29)) <|
 .o none (.mv 31 (.t 5)) <|
 .o none (.call (some 32) false (.c (.fn 185 [] [])) [(.t 25), (.t 30), (.t 31)]) <|
 .o none (.mv 3 (.t 32)) .nil)) (.skip))) <| .rg (.o none (.mv 10 (.t 4)) <|
 .o none (.bin 11 .add false (.t 10) (.c (.int .i64 1))) <|
 .o none (.mv 4 (.t 11)) .nil)))) <| .seq (.rg (.o none (.mv 33 (.t 3)) <|
 .o none (.mv 2 (.t 33)) .nil)) <| .ret⟩
theorem Qacf : Qf Tryz.prog Tryz.f125 = some Q7k := by kernel_rfl
def Q7l : SFn := ⟨52, [.t 2], .seq (.rg (.o none (.mv 2 (.c (.bool false))) .nil)) <| .seq (.seq (.rg (.o none (.mv 3 (.c (.int .i64 0))) .nil)) <| .block 0 (.loop (.seq (.seq (.rg (.o none (.mv 4 (.t 3)) <|
 .o none (.mv 5 (.t 0)) <|
 .o none (.len 6 (.t 5)) <|
 .o none (.bin 7 .lss false (.t 4) (.t 6)) .nil)) <| .cond (.t 7) (.skip) (.exit 0)) <| .seq (.block 1 (.seq (.seq (.rg (.o none (.mv 10 (.t 0)) <|
 .o none (.mv 11 (.t 3)) <|
 .o none (.idx 12 4 (.t 10) (.t 11)) <|
 .o none (.fld 13 0 (.t 12)) <|
 .o none (.ld 14 3 true (.t 13)) <|
 .o none (.call (some 15) false (.c (.fn 45 [] [])) [(.t 14)]) <|
 .o none (.un 16 .not (.t 15)) <|
 .o none (.mv 17 (.t 16)) <|
 .o (some (17, false)) (.mv 18 (.t 0)) <|
 .o (some (17, false)) (.mv 19 (.t 3)) <|
 .o (some (17, false)) (.idx 20 4 (.t 18) (.t 19)) <|
 .o (some (17, false)) (.fld 21 0 (.t 20)) <|
 .o (some (17, false)) (.ld 22 3 true (.t 21)) <|
 .o (some (17, false)) (.call (some 23) false (.c (.fn 81 [] [])) [(.t 22)]) <|
 .o (some (17, false)) (.bin 24 .eql false (.t 23) (.c (.int .i64 0))) <|
 .o none (.pick 25 (.t 17) (.c (.bool true)) (.t 24)) <|
 .o none (.mv 26 (.t 25)) <|
 .o (some (26, false)) (.mv 27 (.t 0)) <|
 .o (some (26, false)) (.mv 28 (.t 3)) <|
 .o (some (26, false)) (.idx 29 4 (.t 27) (.t 28)) <|
 .o (some (26, false)) (.fld 30 3 (.t 29)) <|
 .o (some (26, false)) (.ld 31 1 false (.t 30)) <|
 .o (some (26, false)) (.call (some 32) false (.c (.fn 179 [] [])) [(.t 31)]) <|
 .o (some (26, false)) (.un 33 .not (.t 32)) <|
 .o none (.pick 34 (.t 26) (.c (.bool true)) (.t 33)) .nil)) <| .cond (.t 34) (.seq (.rg (.o none (.mv 2 (.c (.bool false))) .nil)) <| .ret) (.skip)) <| .seq (.rg (.o none (.mv 35 (.t 3)) <|
 .o none (.bin 36 .gtr false (.t 35) (.c (.int .i64 0))) <|
 .o none (.mv 37 (.t 36)) <|
 .o (some (37, true)) (.mv 38 (.t 0)) <|
 .o (some (37, true)) (.mv 39 (.t 3)) <|
 .o (some (37, true)) (.bin 40 .sub false (.t 39) (.c (.int .i64 1))) <|
 .o (some (37, true)) (.idx 41 4 (.t 38) (.t 40)) <|
 .o (some (37, true)) (.fld 42 3 (.t 41)) <|
 .o (some (37, true)) (.ld 43 1 false (.t 42)) <|
 .o (some (37, true)) (.mv 44 (.t 0)) <|
 .o (some (37, true)) (.mv 45 (.t 3)) <|
 .o (some (37, true)) (.idx 46 4 (.t 44) (.t 45)) <|
 .o (some (37, true)) (.fld 47 3 (.t 46)) <|
 .o (some (37, true)) (.ld 48 1 false (.t 47)) <|
 .o (some (37, true)) (.call (some 49) false (.c (.fn 180 [] [])) [(.t 43), (.t 48), (.c (.int .i64 0))]) <|
 .o (some (37, true)) (.bin 50 .leq false (.t 49) (.c (.int .i64 0))) <|
 .o none (.pick 51 (.t 37) (.t 50) (.c (.bool false))) .nil)) <| .cond (.t 51) (.seq (.rg (.o none (.mv 2 (.c (.bool false))) .nil)) <| .ret) (.skip))) <| .rg (.o none (.mv 8 (.t 3)) <|
 .o none (.bin 9 .add false (.t 8) (.c (.int .i64 1))) <|
 .o none (.mv 3 (.t 9)) .nil)))) <| .seq (.rg (.o none (.mv 2 (.c (.bool true))) .nil)) <| .ret⟩
theorem Qacg : Qf Tryz.prog Tryz.f121 = some Q7l := by kernel_rfl
def c52 : SFn := ⟨72, [.t 8], .seq (.rg (.o none (.mv 8 (.c (.bool false))) .nil)) <| .seq (.seq (.rg (.o none (.mv 11 (.t 0)) <|
 .o none (.len 12 (.t 11)) <|
 .o none (.mv 13 (.t 1)) <|
 .o none (.bin 14 .gtr false (.t 12) (.t 13)) .nil)) <| .cond (.t 14) (.seq (.rg (.o none (.mv 8 (.c (.bool false))) .nil)) <| .ret) (.skip)) <| .seq (.seq (.rg (.o none (.mv 9 (.c (.int .i64 0))) .nil)) <| .block 0 (.loop (.seq (.seq (.rg (.o none (.mv 15 (.t 9)) <|
 .o none (.mv 16 (.t 0)) <|
 .o none (.len 17 (.t 16)) <|
 .o none (.bin 18 .lss false (.t 15) (.t 17)) .nil)) <| .cond (.t 18) (.skip) (.exit 0)) <| .seq (.block 1 (.seq (.seq (.rg (.o none (.mv 21 (.t 0)) <|
 .o none (.mv 22 (.t 9)) <|
 .o none (.idx 23 4 (.t 21) (.t 22)) <|
 .o none (.fld 24 3 (.t 23)) <|
 .o none (.ld 25 1 false (.t 24)) <|
 .o none (.len 26 (.t 25)) <|
 .o none (.mv 27 (.t 2)) <|
 .o none (.bin 28 .gtr false (.t 26) (.t 27)) <|
 .o none (.mv 29 (.t 28)) <|
 .o (some (29, false)) (.mv 30 (.t 0)) <|
 .o (some (29, false)) (.mv 31 (.t 9)) <|
 .o (some (29, false)) (.idx 32 4 (.t 30) (.t 31)) <|
 .o (some (29, false)) (.fld 33 0 (.t 32)) <|
 .o (some (29, false)) (.fld 34 0 (.t 33)) <|
 .o (some (29, false)) (.fld 35 1 (.t 34)) <|
 .o (some (29, false)) (.ld 36 1 false (.t 35)) <|
 .o (some (29, false)) (.len 37 (.t 36)) <|
 .o (some (29, false)) (.bin 38 .gtr false (.t 37) (.c (.int .i64 4))) <|
 .o none (.pick 39 (.t 29) (.c (.bool true)) (.t 38)) <|
 .o none (.mv 40 (.t 39)) <|
 .o (some (40, false)) (.mv 41 (.t 0)) <|
 .o (some (40, false)) (.mv 42 (.t 9)) <|
 .o (some (40, false)) (.idx 43 4 (.t 41) (.t 42)) <|
 .o (some (40, false)) (.fld 44 0 (.t 43)) <|
 .o (some (40, false)) (.fld 45 2 (.t 44)) <|
 .o (some (40, false)) (.ld 46 1 false (.t 45)) <|
 .o (some (40, false)) (.len 47 (.t 46)) <|
 .o (some (40, false)) (.bin 48 .gtr false (.t 47) (.c (.int .i64 4))) <|
 .o none (.pick 49 (.t 40) (.c (.bool true)) (.t 48)) .nil)) <| .cond (.t 49) (.seq (.rg (.o none (.mv 8 (.c (.bool false))) .nil)) <| .ret) (.skip)) <| .seq (.rg (.o none (.mv 10 (.c (.int .i64 0))) .nil)) <| .block 2 (.loop (.seq (.seq (.rg (.o none (.mv 50 (.t 10)) <|
 .o none (.mv 51 (.t 0)) <|
 .o none (.mv 52 (.t 9)) <|
 .o none (.idx 53 4 (.t 51) (.t 52)) <|
 .o none (.fld 54 3 (.t 53)) <|
 .o none (.ld 55 1 false (.t 54)) <|
 .o none (.len 56 (.t 55)) <|
 .o none (.bin 57 .lss false (.t 50) (.t 56)) .nil)) <| .cond (.t 57) (.skip) (.exit 2)) <| .seq (.block 3 (.seq (.rg (.o none (.mv 60 (.t 0)) <|
 .o none (.mv 61 (.t 9)) <|
 .o none (.idx 62 4 (.t 60) (.t 61)) <|
 .o none (.fld 63 3 (.t 62)) <|
 .o none (.ld 64 1 false (.t 63)) <|
 .o none (.mv 65 (.t 10)) <|
 .o none (.idx 66 1 (.t 64) (.t 65)) <|
 .o none (.ld 67 1 false (.t 66)) <|
 .o none (.mv 68 (.t 3)) <|
 .o none (.bin 69 .gtr false (.t 67) (.t 68)) .nil)) <| .cond (.t 69) (.seq (.rg (.o none (.mv 8 (.c (.bool false))) .nil)) <| .ret) (.skip))) <| .rg (.o none (.mv 58 (.t 10)) <|
 .o none (.bin 59 .add false (.t 58) (.c (.int .i64 1))) <|
 .o none (.mv 10 (.t 59)) .nil))))) <| .rg (.o none (.mv 19 (.t 9)) <|
 .o none (.bin 20 .add false (.t 19) (.c (.int .i64 1))) <|
 .o none (.mv 9 (.t 20)) .nil)))) <| .seq (.rg (.o none (.mv 70 (.t 0)) <|
 .o none (.call (some 71) false (.c (.fn 121 [] [])) [(.t 70)]) <|
 .o none (.mv 8 (.t 71)) .nil)) <| .ret⟩
theorem Qafo : Qf Tryz.prog Tryz.f52 = some c52 := by kernel_rfl
def Q7m : SFn := ⟨88, [.t 6], .seq (.rg (.o none (.box 4 3 32 (.t 1)) <|
 .o none (.mv 6 (.c .nilS)) .nil)) <| .seq (.rg (.o none (.mv 10 (.t 0)) <|
 .o none (.len 11 (.t 10)) <|
 .o none (.mv 7 (.t 11)) .nil)) <| .seq (.block 0 (.loop (.seq (.seq (.rg (.o none (.mv 12 (.t 7)) <|
 .o none (.bin 13 .gtr false (.t 12) (.c (.int .i64 0))) <|
 .o none (.mv 14 (.t 13)) <|
 .o (some (14, true)) (.mv 15 (.t 0)) <|
 .o (some (14, true)) (.mv 16 (.t 7)) <|
 .o (some (14, true)) (.bin 17 .sub false (.t 16) (.c (.int .i64 1))) <|
 .o (some (14, true)) (.idx 18 4 (.t 15) (.t 17)) <|
 .o (some (14, true)) (.fld 19 3 (.t 18)) <|
 .o (some (14, true)) (.ld 20 1 false (.t 19)) <|
 .o (some (14, true)) (.mv 21 (.t 2)) <|
 .o (some (14, true)) (.call (some 22) false (.c (.fn 180 [] [])) [(.t 20), (.t 21), (.c (.int .i64 0))]) <|
 .o (some (14, true)) (.bin 23 .lss false (.t 22) (.c (.int .i64 0))) <|
 .o none (.pick 24 (.t 14) (.t 23) (.c (.bool false))) .nil)) <| .cond (.t 24) (.skip) (.exit 0)) <| .block 1 (.rg (.o none (.mv 25 (.t 7)) <|
 .o none (.bin 26 .sub false (.t 25) (.c (.int .i64 1))) <|
 .o none (.mv 7 (.t 26)) .nil))))) <| .seq (.rg (.o none (.mv 8 (.c .nilS)) .nil)) <| .seq (.seq (.rg (.o none (.mv 27 (.t 7)) <|
 .o none (.bin 28 .gtr false (.t 27) (.c (.int .i64 0))) <|
 .o none (.mv 29 (.t 28)) <|
 .o (some (29, true)) (.mv 30 (.t 0)) <|
 .o (some (29, true)) (.mv 31 (.t 7)) <|
 .o (some (29, true)) (.bin 32 .sub false (.t 31) (.c (.int .i64 1))) <|
 .o (some (29, true)) (.idx 33 4 (.t 30) (.t 32)) <|
 .o (some (29, true)) (.fld 34 3 (.t 33)) <|
 .o (some (29, true)) (.ld 35 1 false (.t 34)) <|
 .o (some (29, true)) (.mv 36 (.t 2)) <|
 .o (some (29, true)) (.call (some 37) false (.c (.fn 180 [] [])) [(.t 35), (.t 36), (.c (.int .i64 0))]) <|
 .o (some (29, true)) (.bin 38 .eql false (.t 37) (.c (.int .i64 0))) <|
 .o none (.pick 39 (.t 29) (.t 38) (.c (.bool false))) .nil)) <| .cond (.t 39) (.seq (.rg (.o none (.mv 40 (.t 8)) <|
 .o none (.mv 41 (.t 0)) <|
 .o none (.mv 42 (.t 7)) <|
 .o none (.bin 43 .sub false (.t 42) (.c (.int .i64 1))) <|
 .o none (.sl 44 4 (.t 41) none (some (.t 43)) none) <|
 .o none (.app 45 4 80 133 (.t 40) (.t 44)) <|
 .o none (.mv 8 (.t 45)) .nil)) <| .seq (.seq (.rg (.o none (.mv 46 (.t 0)) <|
 .o none (.mv 47 (.t 7)) <|
 .o none (.bin 48 .sub false (.t 47) (.c (.int .i64 1))) <|
 .o none (.idx 49 4 (.t 46) (.t 48)) <|
 .o none (.fld 50 0 (.t 49)) <|
 .o none (.ld 51 3 true (.t 50)) <|
 .o none (.ld 52 3 true (.t 4)) <|
 .br (.o none (.call (some 53) true (.c (.fn 101 [] [])) [(.t 51), (.t 52)]) <|
 .o none (.alloc 9 3 32 (.agg [(.bool false), .nilS, .nilS])) <|
 .o none (.st 3 (.t 9) (.t 53)) .nil) (.o none (.alloc 9 3 32 (.agg [(.bool false), .nilS, .nilS])) <|
 .o none (.call (some 53) true (.c (.fn 101 [] [])) [(.t 51), (.t 52)]) <|
 .o none (.st 3 (.t 9) (.t 53)) .nil))) <| .seq (.rg (.o none (.ld 54 3 true (.t 9)) <|
 .o none (.call (some 55) false (.c (.fn 81 [] [])) [(.t 54)]) <|
 .o none (.bin 56 .neq false (.t 55) (.c (.int .i64 0))) .nil)) <| .cond (.t 56) (.rg (.o none (.mv 57 (.t 8)) <|
 .o none (.ld 58 3 true (.t 9)) <|
 .o none (.mv 59 (.t 2)) <|
 .o none (.bld 60 [(.bool false), .nilS, .nilS, .nilS] [(0, 3, (.t 58)), (3, 1, (.t 59))]) <|
 .o none (.bs 61 4 133 [(.t 60)]) <|
 .o none (.app 62 4 80 133 (.t 57) (.t 61)) <|
 .o none (.mv 8 (.t 62)) .nil)) (.skip)) <| .seq (.rg (.o none (.mv 63 (.t 8)) <|
 .o none (.mv 64 (.t 0)) <|
 .o none (.mv 65 (.t 7)) <|
 .o none (.sl 66 4 (.t 64) (some (.t 65)) none none) <|
 .o none (.app 67 4 80 133 (.t 63) (.t 66)) <|
 .o none (.mv 6 (.t 67)) .nil)) <| .ret) (.skip)) <| .seq (.rg (.o none (.mv 68 (.t 8)) <|
 .o none (.mv 69 (.t 0)) <|
 .o none (.mv 70 (.t 7)) <|
 .o none (.sl 71 4 (.t 69) none (some (.t 70)) none) <|
 .o none (.app 72 4 80 133 (.t 68) (.t 71)) <|
 .o none (.mv 8 (.t 72)) .nil)) <| .seq (.seq (.rg (.o none (.ld 73 3 true (.t 4)) <|
 .o none (.call (some 74) false (.c (.fn 81 [] [])) [(.t 73)]) <|
 .o none (.bin 75 .neq false (.t 74) (.c (.int .i64 0))) .nil)) <| .cond (.t 75) (.rg (.o none (.mv 76 (.t 8)) <|
 .o none (.ld 77 3 true (.t 4)) <|
 .o none (.call (some 78) false (.c (.fn 157 [] [])) [(.t 77)]) <|
 .o none (.mv 79 (.t 2)) <|
 .o none (.bld 80 [(.bool false), .nilS, .nilS, .nilS] [(0, 3, (.t 78)), (3, 1, (.t 79))]) <|
 .o none (.bs 81 4 133 [(.t 80)]) <|
 .o none (.app 82 4 80 133 (.t 76) (.t 81)) <|
 .o none (.mv 8 (.t 82)) .nil)) (.skip)) <| .seq (.rg (.o none (.mv 83 (.t 8)) <|
 .o none (.mv 84 (.t 0)) <|
 .o none (.mv 85 (.t 7)) <|
 .o none (.sl 86 4 (.t 84) (some (.t 85)) none none) <|
 .o none (.app 87 4 80 133 (.t 83) (.t 86)) <|
 .o none (.mv 6 (.t 87)) .nil)) <| .ret⟩
theorem Qach : Qf Tryz.prog Tryz.f185 = some Q7m := by kernel_rfl
def Q7n : SFn := ⟨20, [.t 4], .seq (.rg (.o none (.mv 4 (.c (.bool false))) .nil)) <| .seq (.seq (.rg (.o none (.mv 5 (.c (.int .i64 0))) .nil)) <| .block 0 (.loop (.seq (.seq (.rg (.o none (.mv 6 (.t 5)) <|
 .o none (.mv 7 (.t 0)) <|
 .o none (.len 8 (.t 7)) <|
 .o none (.bin 9 .lss false (.t 6) (.t 8)) .nil)) <| .cond (.t 9) (.skip) (.exit 0)) <| .seq (.block 1 (.seq (.rg (.o none (.mv 12 (.t 0)) <|
 .o none (.mv 13 (.t 5)) <|
 .o none (.idx 14 1 (.t 12) (.t 13)) <|
 .o none (.ld 15 1 false (.t 14)) <|
 .o none (.mv 16 (.t 1)) <|
 .o none (.mv 17 (.t 5)) <|
 .o none (.call (some 18) true (.c (.fn 131 [] [])) [(.t 16), (.t 17)]) <|
 .o none (.bin 19 .neq false (.t 15) (.t 18)) .nil)) <| .cond (.t 19) (.seq (.rg (.o none (.mv 4 (.c (.bool false))) .nil)) <| .ret) (.skip))) <| .rg (.o none (.mv 10 (.t 5)) <|
 .o none (.bin 11 .add false (.t 10) (.c (.int .i64 1))) <|
 .o none (.mv 5 (.t 11)) .nil)))) <| .seq (.rg (.o none (.mv 4 (.c (.bool true))) .nil)) <| .ret⟩
theorem Qaci : Qf Tryz.prog Tryz.f184 = some Q7n := by kernel_rfl
end Go.Proofs.YtmnkngmmfnncoaaGreat
namespace Go.Proofs.YtmnkngmmfnncoaaGreat
open Go Go.FW
set_option maxRecDepth 100000
def Q7o : SFn := ⟨27, [.t 2], .seq (.rg (.o none (.mv 2 (.c (.bool false))) .nil)) <| .seq (.seq (.rg (.o none (.mv 7 (.t 0)) <|
 .o none (.len 8 (.t 7)) <|
 .o none (.bin 9 .gtr false (.t 8) (.c (.int .i64 4000))) .nil)) <| .cond (.t 9) (.seq (.rg (.o none (.mv 2 (.c (.bool true))) .nil)) <| .ret) (.skip)) <| .seq (.seq (.rg (.o none (.mv 10 (.t 0)) <|
 .o none (.len 11 (.t 10)) <|
 .o none (.mv 12 (.c (.int .i64 0))) .nil)) <| .block 0 (.loop (.seq (.rg (.o none (.bin 13 .lss false (.t 12) (.t 11)) .nil)) <| .seq (.cond (.t 13) (.skip) (.exit 0)) <| .seq (.block 1 (.seq (.rg (.o none (.idx 14 4 (.t 10) (.t 12)) <|
 .o none (.ld 15 4 true (.t 14)) <|
 .o none (.alloc 4 4 133 (.agg [(.bool false), .nilS, .nilS, .nilS])) <|
 .o none (.st 4 (.t 4) (.t 15)) .nil)) <| .seq (.rg (.o none (.fld 16 3 (.t 4)) <|
 .o none (.ld 17 1 false (.t 16)) <|
 .o none (.len 18 (.t 17)) <|
 .o none (.mv 19 (.c (.int .i64 0))) .nil)) <| .block 2 (.loop (.seq (.rg (.o none (.bin 20 .lss false (.t 19) (.t 18)) .nil)) <| .seq (.cond (.t 20) (.skip) (.exit 2)) <| .seq (.block 3 (.seq (.rg (.o none (.idx 21 1 (.t 17) (.t 19)) <|
 .o none (.ld 22 1 false (.t 21)) <|
 .o none (.mv 6 (.t 22)) .nil)) <| .seq (.rg (.o none (.mv 23 (.t 6)) <|
 .o none (.bin 24 .gtr false (.t 23) (.c (.int .i64 1048576))) .nil)) <| .cond (.t 24) (.seq (.rg (.o none (.mv 2 (.c (.bool true))) .nil)) <| .ret) (.skip))) <| .rg (.o none (.bin 25 .add false (.t 19) (.c (.int .i64 1))) <|
 .o none (.mv 19 (.t 25)) .nil))))) <| .rg (.o none (.bin 26 .add false (.t 12) (.c (.int .i64 1))) <|
 .o none (.mv 12 (.t 26)) .nil)))) <| .seq (.rg (.o none (.mv 2 (.c (.bool false))) .nil)) <| .ret⟩
theorem Qacj : Qf Tryz.prog Tryz.f149 = some Q7o := by kernel_rfl
def c56 : SFn := ⟨22, [.t 4], .seq (.rg (.o none (.mv 4 (.c (.int .i64 0))) .nil)) <| .seq (.rg (.o none (.mv 5 (.c (.int .i64 (-1)))) .nil)) <| .seq (.seq (.rg (.o none (.mv 8 (.t 0)) <|
 .o none (.len 9 (.t 8)) <|
 .o none (.mv 10 (.c (.int .i64 0))) .nil)) <| .block 0 (.loop (.seq (.rg (.o none (.bin 11 .lss false (.t 10) (.t 9)) .nil)) <| .seq (.cond (.t 11) (.skip) (.exit 0)) <| .seq (.block 1 (.seq (.rg (.o none (.idx 12 4 (.t 8) (.t 10)) <|
 .o none (.ld 13 4 true (.t 12)) <|
 .o none (.alloc 7 4 133 (.agg [(.bool false), .nilS, .nilS, .nilS])) <|
 .o none (.st 4 (.t 7) (.t 13)) .nil)) <| .rg (.o none (.mv 14 (.t 5)) <|
 .o none (.fld 15 3 (.t 7)) <|
 .o none (.ld 16 1 false (.t 15)) <|
 .o none (.mv 17 (.t 1)) <|
 .o none (.call (some 18) false (.c (.fn 130 [] [])) [(.t 16), (.t 17)]) <|
 .o none (.mx 19 (.t 14) (.t 18)) <|
 .o none (.mv 5 (.t 19)) .nil))) <| .rg (.o none (.bin 20 .add false (.t 10) (.c (.int .i64 1))) <|
 .o none (.mv 10 (.t 20)) .nil)))) <| .seq (.rg (.o none (.mv 21 (.t 5)) <|
 .o none (.mv 4 (.t 21)) .nil)) <| .ret⟩
theorem Qafp : Qf Tryz.prog Tryz.f56 = some c56 := by kernel_rfl
def Q7p : SFn := ⟨35, [.t 4], .seq (.rg (.o none (.mv 4 (.c .nilS)) .nil)) <| .seq (.seq (.rg (.o none (.mv 7 (.t 0)) <|
 .o none (.mv 8 (.t 1)) <|
 .o none (.call (some 9) false (.c (.fn 130 [] [])) [(.t 7), (.t 8)]) <|
 .o none (.bin 10 .eql false (.t 9) (.c (.int .i64 0))) .nil)) <| .cond (.t 10) (.seq (.rg (.o none (.mv 11 (.t 0)) <|
 .o none (.mv 4 (.t 11)) .nil)) <| .ret) (.skip)) <| .seq (.rg (.o none (.mv 12 (.t 0)) <|
 .o none (.app 13 1 8 3 (.c .nilS) (.t 12)) <|
 .o none (.mv 5 (.t 13)) .nil)) <| .seq (.rg (.o none (.mv 14 (.t 5)) <|
 .o none (.mv 15 (.t 1)) <|
 .o none (.idx 16 1 (.t 14) (.t 15)) <|
 .o none (.st 1 (.t 16) (.c (.int .i64 0))) .nil)) <| .seq (.rg (.o none (.mv 17 (.t 5)) <|
 .o none (.len 18 (.t 17)) <|
 .o none (.mv 6 (.t 18)) .nil)) <| .seq (.block 0 (.loop (.seq (.seq (.rg (.o none (.mv 19 (.t 6)) <|
 .o none (.bin 20 .gtr false (.t 19) (.c (.int .i64 0))) <|
 .o none (.mv 21 (.t 20)) <|
 .o (some (21, true)) (.mv 22 (.t 5)) <|
 .o (some (21, true)) (.mv 23 (.t 6)) <|
 .o (some (21, true)) (.bin 24 .sub false (.t 23) (.c (.int .i64 1))) <|
 .o (some (21, true)) (.idx 25 1 (.t 22) (.t 24)) <|
 .o (some (21, true)) (.ld 26 1 false (.t 25)) <|
 .o (some (21, true)) (.bin 27 .eql false (.t 26) (.c (.int .i64 0))) <|
 .o none (.pick 28 (.t 21) (.t 27) (.c (.bool false))) .nil)) <| .cond (.t 28) (.skip) (.exit 0)) <| .block 1 (.rg (.o none (.mv 29 (.t 6)) <|
 .o none (.bin 30 .sub false (.t 29) (.c (.int .i64 1))) <|
 .o none (.mv 6 (.t 30)) .nil))))) <| .seq (.rg (.o none (.mv 31 (.t 5)) <|
 .o none (.mv 32 (.t 6)) <|
 .o none (.mv 33 (.t 6)) <|
 .o none (.sl 34 1 (.t 31) none (some (.t 32)) (some (.t 33))) <|
 .o none (.mv 4 (.t 34)) .nil)) <| .ret⟩
theorem Qack : Qf Tryz.prog Tryz.f132 = some Q7p := by kernel_rfl
def Q7q : SFn := ⟨34, [.t 6], .seq (.rg (.o none (.mv 6 (.c .nilS)) .nil)) <| .seq (.rg (.o none (.mv 7 (.c .nilS)) .nil)) <| .seq (.seq (.rg (.o none (.mv 10 (.t 0)) <|
 .o none (.len 11 (.t 10)) <|
 .o none (.mv 12 (.c (.int .i64 0))) .nil)) <| .block 0 (.loop (.seq (.rg (.o none (.bin 13 .lss false (.t 12) (.t 11)) .nil)) <| .seq (.cond (.t 13) (.skip) (.exit 0)) <| .seq (.block 1 (.seq (.rg (.o none (.idx 14 4 (.t 10) (.t 12)) <|
 .o none (.ld 15 4 true (.t 14)) <|
 .o none (.alloc 9 4 133 (.agg [(.bool false), .nilS, .nilS, .nilS])) <|
 .o none (.st 4 (.t 9) (.t 15)) .nil)) <| .seq (.rg (.o none (.fld 16 3 (.t 9)) <|
 .o none (.ld 17 1 false (.t 16)) <|
 .o none (.mv 18 (.t 1)) <|
 .o none (.call (some 19) false (.c (.fn 130 [] [])) [(.t 17), (.t 18)]) <|
 .o none (.mv 20 (.t 2)) <|
 .o none (.bin 21 .eql false (.t 19) (.t 20)) .nil)) <| .cond (.t 21) (.rg (.o none (.mv 22 (.t 7)) <|
 .o none (.fld 23 0 (.t 9)) <|
 .o none (.ld 24 3 true (.t 23)) <|
 .o none (.fld 25 3 (.t 9)) <|
 .o none (.ld 26 1 false (.t 25)) <|
 .o none (.mv 27 (.t 1)) <|
 .o none (.call (some 28) true (.c (.fn 132 [] [])) [(.t 26), (.t 27)]) <|
 .o none (.bld 29 [(.bool false), .nilS, .nilS, .nilS] [(0, 3, (.t 24)), (3, 1, (.t 28))]) <|
 .o none (.bs 30 4 133 [(.t 29)]) <|
 .o none (.app 31 4 80 133 (.t 22) (.t 30)) <|
 .o none (.mv 7 (.t 31)) .nil)) (.skip))) <| .rg (.o none (.bin 32 .add false (.t 12) (.c (.int .i64 1))) <|
 .o none (.mv 12 (.t 32)) .nil)))) <| .seq (.rg (.o none (.mv 33 (.t 7)) <|
 .o none (.mv 6 (.t 33)) .nil)) <| .ret⟩
theorem Qacl : Qf Tryz.prog Tryz.f135 = some Q7q := by kernel_rfl
def c59 : SFn := ⟨43, [.t 4], .seq (.rg (.o none (.mv 4 (.c .nilS)) .nil)) <| .seq (.rg (.o none (.mv 9 (.t 0)) <|
 .o none (.mv 10 (.t 1)) <|
 .o none (.call (some 11) false (.c (.fn 56 [] [])) [(.t 9), (.t 10)]) <|
 .o none (.bin 12 .add false (.t 11) (.c (.int .i64 1))) <|
 .o none (.mk 13 1 24 65 .nilS (.t 12) (.t 12)) <|
 .o none (.mv 5 (.t 13)) .nil)) <| .seq (.seq (.rg (.o none (.mv 14 (.t 0)) <|
 .o none (.len 15 (.t 14)) <|
 .o none (.mv 16 (.c (.int .i64 0))) .nil)) <| .block 0 (.loop (.seq (.rg (.o none (.bin 17 .lss false (.t 16) (.t 15)) .nil)) <| .seq (.cond (.t 17) (.skip) (.exit 0)) <| .seq (.block 1 (.seq (.rg (.o none (.idx 18 4 (.t 14) (.t 16)) <|
 .o none (.ld 19 4 true (.t 18)) <|
 .o none (.alloc 7 4 133 (.agg [(.bool false), .nilS, .nilS, .nilS])) <|
 .o none (.st 4 (.t 7) (.t 19)) .nil)) <| .seq (.rg (.o none (.fld 20 3 (.t 7)) <|
 .o none (.ld 21 1 false (.t 20)) <|
 .o none (.mv 22 (.t 1)) <|
 .o none (.call (some 23) false (.c (.fn 130 [] [])) [(.t 21), (.t 22)]) <|
 .o none (.mx 24 (.t 23) (.c (.int .i64 0))) <|
 .o none (.mv 8 (.t 24)) .nil)) <| .rg (.o none (.mv 25 (.t 5)) <|
 .o none (.mv 26 (.t 8)) <|
 .o none (.mv 27 (.t 5)) <|
 .o none (.mv 28 (.t 8)) <|
 .o none (.idx 29 1 (.t 27) (.t 28)) <|
 .o none (.ld 30 1 false (.t 29)) <|
 .o none (.fld 31 0 (.t 7)) <|
 .o none (.ld 32 3 true (.t 31)) <|
 .o none (.fld 33 3 (.t 7)) <|
 .o none (.ld 34 1 false (.t 33)) <|
 .o none (.mv 35 (.t 1)) <|
 .o none (.call (some 36) true (.c (.fn 132 [] [])) [(.t 34), (.t 35)]) <|
 .o none (.bld 37 [(.bool false), .nilS, .nilS, .nilS] [(0, 3, (.t 32)), (3, 1, (.t 36))]) <|
 .o none (.bs 38 4 133 [(.t 37)]) <|
 .o none (.app 39 4 80 133 (.t 30) (.t 38)) <|
 .o none (.idx 40 1 (.t 25) (.t 26)) <|
 .o none (.st 1 (.t 40) (.t 39)) .nil))) <| .rg (.o none (.bin 41 .add false (.t 16) (.c (.int .i64 1))) <|
 .o none (.mv 16 (.t 41)) .nil)))) <| .seq (.rg (.o none (.mv 42 (.t 5)) <|
 .o none (.mv 4 (.t 42)) .nil)) <| .ret⟩
theorem Qafq : Qf Tryz.prog Tryz.f59 = some c59 := by kernel_rfl
def Q7r : SFn := ⟨32, [.t 6], .seq (.rg (.o none (.mv 6 (.c .nilS)) .nil)) <| .seq (.seq (.rg (.o none (.mv 8 (.t 1)) <|
 .o none (.bin 9 .lss false (.t 8) (.c (.int .i64 0))) <|
 .o none (.mv 10 (.t 9)) <|
 .o (some (10, false)) (.mv 11 (.t 1)) <|
 .o (some (10, false)) (.bin 12 .geq false (.t 11) (.c (.int .i64 64))) <|
 .o none (.pick 13 (.t 10) (.c (.bool true)) (.t 12)) <|
 .o none (.mv 14 (.t 13)) <|
 .o (some (14, false)) (.mv 15 (.t 2)) <|
 .o (some (14, false)) (.bin 16 .leq false (.t 15) (.c (.int .i64 0))) <|
 .o none (.pick 17 (.t 14) (.c (.bool true)) (.t 16)) .nil)) <| .cond (.t 17) (.seq (.rg (.o none (.mv 18 (.t 0)) <|
 .o none (.mv 6 (.t 18)) .nil)) <| .ret) (.skip)) <| .seq (.rg (.o none (.mv 19 (.t 1)) <|
 .o none (.bin 20 .add false (.t 19) (.c (.int .i64 1))) <|
 .o none (.mk 21 1 8 3 (.int .i64 0) (.t 20) (.t 20)) <|
 .o none (.mv 7 (.t 21)) .nil)) <| .seq (.rg (.o none (.mv 22 (.t 7)) <|
 .o none (.mv 23 (.t 1)) <|
 .o none (.mv 24 (.t 2)) <|
 .o none (.idx 25 1 (.t 22) (.t 23)) <|
 .o none (.st 1 (.t 25) (.t 24)) .nil)) <| .seq (.rg (.o none (.mv 26 (.t 0)) <|
 .o none (.call (some 27) false (.c (.fn 79 [] [])) [(.c (.int .i64 1))]) <|
 .o none (.mv 28 (.t 7)) <|
 .o none (.bld 29 [(.bool false), .nilS, .nilS, .nilS] [(0, 3, (.t 27)), (3, 1, (.t 28))]) <|
 .o none (.bs 30 4 133 [(.t 29)]) <|
 .o none (.call (some 31) false (.c (.fn 68 [] [])) [(.t 26), (.t 30)]) <|
 .o none (.mv 6 (.t 31)) .nil)) <| .ret⟩
theorem Qacm : Qf Tryz.prog Tryz.f137 = some Q7r := by kernel_rfl
def c73 : SFn := ⟨93, [.t 6, .t 7, .t 8, .t 9], .seq (.rg (.o none (.mv 6 (.c .nilS)) <|
 .o none (.mv 7 (.c .nilS)) <|
 .o none (.mv 8 (.c (.int .i64 0))) <|
 .o none (.mv 9 (.c (.int .i64 0))) .nil)) <| .seq (.block 0 (.seq (.rg (.o none (.mv 15 (.t 2)) <|
 .o none (.bin 16 .lss false (.t 15) (.c (.int .i64 0))) <|
 .o none (.mv 17 (.t 16)) <|
 .o (some (17, false)) (.mv 18 (.t 2)) <|
 .o (some (17, false)) (.bin 19 .geq false (.t 18) (.c (.int .i64 64))) <|
 .o none (.pick 20 (.t 17) (.c (.bool true)) (.t 19)) <|
 .o none (.mv 14 (.t 20)) .nil)) <| .cond (.t 14) (.seq (.rg (.o none (.mv 6 (.c .nilS)) <|
 .o none (.mv 7 (.c .nilS)) <|
 .o none (.mv 8 (.c (.int .i64 0))) <|
 .o none (.mv 9 (.c (.int .i64 2))) .nil)) <| .ret) (.seq (.rg (.o none (.mv 22 (.t 1)) <|
 .o none (.len 23 (.t 22)) <|
 .o none (.bin 24 .eql false (.t 23) (.c (.int .i64 0))) <|
 .o none (.mv 21 (.t 24)) .nil)) <| .cond (.t 21) (.seq (.rg (.o none (.mv 6 (.c .nilS)) <|
 .o none (.mv 7 (.c .nilS)) <|
 .o none (.mv 8 (.c (.int .i64 0))) <|
 .o none (.mv 9 (.c (.int .i64 3))) .nil)) <| .ret) (.seq (.rg (.o none (.mv 26 (.t 0)) <|
 .o none (.call (some 27) false (.c (.fn 149 [] [])) [(.t 26)]) <|
 .o none (.mv 25 (.t 27)) .nil)) <| .cond (.t 25) (.seq (.rg (.o none (.mv 6 (.c .nilS)) <|
 .o none (.mv 7 (.c .nilS)) <|
 .o none (.mv 8 (.c (.int .i64 0))) <|
 .o none (.mv 9 (.c (.int .i64 4))) .nil)) <| .ret) (.skip))))) <| .seq (.rg (.o none (.mv 28 (.t 1)) <|
 .o none (.mv 29 (.t 2)) <|
 .o none (.call (some 30) false (.c (.fn 56 [] [])) [(.t 28), (.t 29)]) <|
 .o none (.mv 10 (.t 30)) .nil)) <| .seq (.rg (.o none (.mv 31 (.t 1)) <|
 .o none (.mv 32 (.t 2)) <|
 .o none (.mv 33 (.t 10)) <|
 .o none (.call (some 34) false (.c (.fn 135 [] [])) [(.t 31), (.t 32), (.t 33)]) <|
 .o none (.mv 11 (.t 34)) .nil)) <| .seq (.rg (.o none (.mv 35 (.t 0)) <|
 .o none (.mv 7 (.t 35)) .nil)) <| .seq (.block 1 (.loop (.seq (.seq (.rg (.o none (.mv 36 (.t 7)) <|
 .o none (.len 37 (.t 36)) <|
 .o none (.bin 38 .gtr false (.t 37) (.c (.int .i64 0))) <|
 .o none (.mv 39 (.t 38)) <|
 .o (some (39, true)) (.mv 40 (.t 7)) <|
 .o (some (39, true)) (.mv 41 (.t 2)) <|
 .o (some (39, true)) (.call (some 42) false (.c (.fn 56 [] [])) [(.t 40), (.t 41)]) <|
 .o (some (39, true)) (.mv 43 (.t 10)) <|
 .o (some (39, true)) (.bin 44 .geq false (.t 42) (.t 43)) <|
 .o none (.pick 45 (.t 39) (.t 44) (.c (.bool false))) .nil)) <| .cond (.t 45) (.skip) (.exit 1)) <| .block 2 (.seq (.rg (.o none (.mv 46 (.t 7)) <|
 .o none (.mv 47 (.t 2)) <|
 .o none (.call (some 48) false (.c (.fn 56 [] [])) [(.t 46), (.t 47)]) <|
 .o none (.mv 12 (.t 48)) .nil)) <| .seq (.rg (.o none (.mv 49 (.t 7)) <|
 .o none (.mv 50 (.t 2)) <|
 .o none (.mv 51 (.t 12)) <|
 .o none (.call (some 52) false (.c (.fn 135 [] [])) [(.t 49), (.t 50), (.t 51)]) <|
 .o none (.mv 53 (.t 2)) <|
 .o none (.mv 54 (.t 12)) <|
 .o none (.mv 55 (.t 10)) <|
 .o none (.bin 56 .sub false (.t 54) (.t 55)) <|
 .o none (.call (some 57) false (.c (.fn 137 [] [])) [(.t 52), (.t 53), (.t 56)]) <|
 .o none (.mv 13 (.t 57)) .nil)) <| .seq (.rg (.o none (.mv 58 (.t 11)) <|
 .o none (.mv 59 (.t 6)) <|
 .o none (.call (some 60) false (.c (.fn 68 [] [])) [(.t 58), (.t 59)]) <|
 .o none (.mv 61 (.t 13)) <|
 .o none (.call (some 62) false (.c (.fn 75 [] [])) [(.t 60), (.t 61)]) <|
 .o none (.mv 6 (.t 62)) .nil)) <| .seq (.rg (.o none (.mv 63 (.t 11)) <|
 .o none (.mv 64 (.t 7)) <|
 .o none (.call (some 65) false (.c (.fn 68 [] [])) [(.t 63), (.t 64)]) <|
 .o none (.mv 66 (.t 13)) <|
 .o none (.mv 67 (.t 1)) <|
 .o none (.call (some 68) false (.c (.fn 68 [] [])) [(.t 66), (.t 67)]) <|
 .o none (.call (some 69) false (.c (.fn 124 [] [])) [(.t 65), (.t 68)]) <|
 .o none (.mv 7 (.t 69)) .nil)) <| .seq (.rg (.o none (.mv 70 (.t 8)) <|
 .o none (.bin 71 .add false (.t 70) (.c (.int .i64 1))) <|
 .o none (.mv 8 (.t 71)) .nil)) <| .seq (.rg (.o none (.mv 72 (.t 6)) <|
 .o none (.call (some 73) false (.c (.fn 149 [] [])) [(.t 72)]) <|
 .o none (.mv 74 (.t 73)) <|
 .o (some (74, false)) (.mv 75 (.t 7)) <|
 .o (some (74, false)) (.call (some 76) false (.c (.fn 149 [] [])) [(.t 75)]) <|
 .o none (.pick 77 (.t 74) (.c (.bool true)) (.t 76)) <|
 .o none (.mv 78 (.t 77)) <|
 .o (some (78, false)) (.mv 79 (.t 7)) <|
 .o (some (78, false)) (.mv 80 (.t 2)) <|
 .o (some (78, false)) (.call (some 81) false (.c (.fn 56 [] [])) [(.t 79), (.t 80)]) <|
 .o (some (78, false)) (.mv 82 (.t 12)) <|
 .o (some (78, false)) (.bin 83 .geq false (.t 81) (.t 82)) <|
 .o (some (78, false)) (.mv 84 (.t 83)) <|
 .o (some (84, true)) (.mv 85 (.t 7)) <|
 .o (some (84, true)) (.len 86 (.t 85)) <|
 .o (some (84, true)) (.bin 87 .gtr false (.t 86) (.c (.int .i64 0))) <|
 .o (some (78, false)) (.pick 88 (.t 84) (.t 87) (.c (.bool false))) <|
 .o none (.pick 89 (.t 78) (.c (.bool true)) (.t 88)) .nil)) <| .cond (.t 89) (.seq (.rg (.o none (.mv 6 (.c .nilS)) <|
 .o none (.mv 7 (.c .nilS)) <|
 .o none (.mv 8 (.c (.int .i64 0))) <|
 .o none (.mv 9 (.c (.int .i64 4))) .nil)) <| .ret) (.skip))))) <| .seq (.rg (.o none (.mv 90 (.t 6)) <|
 .o none (.mv 91 (.t 7)) <|
 .o none (.mv 92 (.t 8)) <|
 .o none (.mv 6 (.t 90)) <|
 .o none (.mv 7 (.t 91)) <|
 .o none (.mv 8 (.t 92)) <|
 .o none (.mv 9 (.c (.int .i64 0))) .nil)) <| .ret⟩
theorem Qwk : Qf Tryz.prog Tryz.f73 = some c73 := by kernel_rfl
def c67 : SFn := ⟨78, [.t 4, .t 5], .seq (.rg (.o none (.mv 4 (.c .nilS)) <|
 .o none (.mv 5 (.c (.bool false))) .nil)) <| .seq (.seq (.rg (.o none (.mv 13 (.t 1)) <|
 .o none (.len 14 (.t 13)) <|
 .o none (.bin 15 .eql false (.t 14) (.c (.int .i64 0))) .nil)) <| .cond (.t 15) (.seq (.rg (.o none (.mv 4 (.c .nilS)) <|
 .o none (.mv 5 (.c (.bool false))) .nil)) <| .ret) (.skip)) <| .seq (.rg (.o none (.mv 6 (.c .nilS)) .nil)) <| .seq (.block 0 (.loop (.seq (.seq (.rg (.o none (.mv 16 (.t 0)) <|
 .o none (.len 17 (.t 16)) <|
 .o none (.bin 18 .gtr false (.t 17) (.c (.int .i64 0))) .nil)) <| .cond (.t 18) (.skip) (.exit 0)) <| .block 1 (.seq (.rg (.o none (.mv 20 (.t 0)) <|
 .o none (.idx 21 4 (.t 20) (.c (.int .i64 0))) <|
 .o none (.fld 22 3 (.t 21)) <|
 .o none (.ld 23 1 false (.t 22)) <|
 .o none (.mv 24 (.t 1)) <|
 .o none (.idx 25 4 (.t 24) (.c (.int .i64 0))) <|
 .o none (.fld 26 3 (.t 25)) <|
 .o none (.ld 27 1 false (.t 26)) <|
 .o none (.call (some 28) false (.c (.fn 138 [] [])) [(.t 23), (.t 27)]) <|
 .o none (.mv 19 (.t 28)) <|
 .o none (.ext 29 (.t 19) 0) <|
 .o none (.ext 30 (.t 19) 1) <|
 .o none (.mv 7 (.t 29)) <|
 .o none (.mv 8 (.t 30)) .nil)) <| .seq (.rg (.o none (.mv 32 (.t 0)) <|
 .o none (.idx 33 4 (.t 32) (.c (.int .i64 0))) <|
 .o none (.fld 34 0 (.t 33)) <|
 .o none (.ld 35 3 true (.t 34)) <|
 .o none (.mv 36 (.t 1)) <|
 .o none (.idx 37 4 (.t 36) (.c (.int .i64 0))) <|
 .o none (.fld 38 0 (.t 37)) <|
 .o none (.ld 39 3 true (.t 38)) <|
 .br (.o none (.call (some 40) true (.c (.fn 139 [] [])) [(.t 35), (.t 39)]) <|
 .o none (.mv 31 (.t 40)) <|
 .o none (.ext 41 (.t 31) 0) <|
 .o none (.ext 42 (.t 31) 1) <|
 .o none (.alloc 9 3 32 (.agg [(.bool false), .nilS, .nilS])) <|
 .o none (.st 3 (.t 9) (.t 41)) <|
 .o none (.mv 10 (.t 42)) .nil) (.o none (.alloc 9 3 32 (.agg [(.bool false), .nilS, .nilS])) <|
 .o none (.call (some 40) true (.c (.fn 139 [] [])) [(.t 35), (.t 39)]) <|
 .o none (.mv 31 (.t 40)) <|
 .o none (.ext 41 (.t 31) 0) <|
 .o none (.ext 42 (.t 31) 1) <|
 .o none (.st 3 (.t 9) (.t 41)) <|
 .o none (.mv 10 (.t 42)) .nil))) <| .seq (.seq (.rg (.o none (.mv 43 (.t 8)) <|
 .o none (.un 44 .not (.t 43)) <|
 .o none (.mv 45 (.t 44)) <|
 .o (some (45, false)) (.mv 46 (.t 10)) <|
 .o (some (45, false)) (.bin 47 .neq false (.t 46) (.c (.int .i64 0))) <|
 .o none (.pick 48 (.t 45) (.c (.bool true)) (.t 47)) .nil)) <| .cond (.t 48) (.seq (.rg (.o none (.mv 4 (.c .nilS)) <|
 .o none (.mv 5 (.c (.bool false))) .nil)) <| .ret) (.skip)) <| .seq (.rg (.o none (.ld 49 3 true (.t 9)) <|
 .o none (.mv 50 (.t 7)) <|
 .o none (.bld 51 [(.bool false), .nilS, .nilS, .nilS] [(0, 3, (.t 49)), (3, 1, (.t 50))]) <|
 .o none (.bs 52 4 133 [(.t 51)]) <|
 .o none (.mv 11 (.t 52)) .nil)) <| .seq (.rg (.o none (.mv 53 (.t 6)) <|
 .o none (.mv 54 (.t 11)) <|
 .o none (.app 55 4 80 133 (.t 53) (.t 54)) <|
 .o none (.mv 6 (.t 55)) .nil)) <| .seq (.rg (.o none (.mv 56 (.t 0)) <|
 .o none (.idx 57 4 (.t 56) (.c (.int .i64 0))) <|
 .o none (.fld 58 3 (.t 57)) <|
 .o none (.ld 59 1 false (.t 58)) <|
 .o none (.mv 12 (.t 59)) .nil)) <| .seq (.rg (.o none (.mv 60 (.t 0)) <|
 .o none (.mv 61 (.t 11)) <|
 .o none (.mv 62 (.t 1)) <|
 .o none (.call (some 63) false (.c (.fn 68 [] [])) [(.t 61), (.t 62)]) <|
 .o none (.call (some 64) false (.c (.fn 124 [] [])) [(.t 60), (.t 63)]) <|
 .o none (.mv 0 (.t 64)) .nil)) <| .seq (.rg (.o none (.mv 65 (.t 0)) <|
 .o none (.len 66 (.t 65)) <|
 .o none (.bin 67 .gtr false (.t 66) (.c (.int .i64 0))) <|
 .o none (.mv 68 (.t 67)) <|
 .o (some (68, true)) (.mv 69 (.t 0)) <|
 .o (some (68, true)) (.idx 70 4 (.t 69) (.c (.int .i64 0))) <|
 .o (some (68, true)) (.fld 71 3 (.t 70)) <|
 .o (some (68, true)) (.ld 72 1 false (.t 71)) <|
 .o (some (68, true)) (.mv 73 (.t 12)) <|
 .o (some (68, true)) (.call (some 74) false (.c (.fn 140 [] [])) [(.t 72), (.t 73), (.c (.int .i64 0))]) <|
 .o (some (68, true)) (.bin 75 .geq false (.t 74) (.c (.int .i64 0))) <|
 .o none (.pick 76 (.t 68) (.t 75) (.c (.bool false))) .nil)) <| .cond (.t 76) (.seq (.rg (.o none (.mv 4 (.c .nilS)) <|
 .o none (.mv 5 (.c (.bool false))) .nil)) <| .ret) (.skip))))) <| .seq (.rg (.o none (.mv 77 (.t 6)) <|
 .o none (.mv 4 (.t 77)) <|
 .o none (.mv 5 (.c (.bool true))) .nil)) <| .ret⟩
theorem Qafr : Qf Tryz.prog Tryz.f67 = some c67 := by kernel_rfl
def c69 : SFn := ⟨67, [.t 2, .cell 3 3 true], .seq (.rg (.o none (.mv 2 (.c .nilS)) <|
 .o none (.alloc 3 3 32 (.agg [(.bool false), .nilS, .nilS])) .nil)) <| .seq (.seq (.rg (.o none (.mv 14 (.t 0)) <|
 .o none (.len 15 (.t 14)) <|
 .o none (.bin 16 .eql false (.t 15) (.c (.int .i64 0))) .nil)) <| .cond (.t 16) (.seq (.rg (.o none (.call (some 17) false (.c (.fn 79 [] [])) [(.c (.int .i64 1))]) <|
 .o none (.mv 2 (.c .nilS)) <|
 .o none (.st 3 (.t 3) (.t 17)) .nil)) <| .ret) (.skip)) <| .seq (.rg (.o none (.mv 4 (.c .nilS)) .nil)) <| .seq (.rg (.o none (.call (some 18) false (.c (.fn 143 [] [])) [(.c (.int .u64 1))]) <|
 .o none (.mv 5 (.t 18)) .nil)) <| .seq (.seq (.rg (.o none (.mv 19 (.t 0)) <|
 .o none (.len 20 (.t 19)) <|
 .o none (.mv 21 (.c (.int .i64 0))) .nil)) <| .block 0 (.loop (.seq (.rg (.o none (.bin 22 .lss false (.t 21) (.t 20)) .nil)) <| .seq (.cond (.t 22) (.skip) (.exit 0)) <| .seq (.block 1 (.seq (.rg (.o none (.idx 23 4 (.t 19) (.t 21)) <|
 .o none (.ld 24 4 true (.t 23)) <|
 .o none (.alloc 7 4 133 (.agg [(.bool false), .nilS, .nilS, .nilS])) <|
 .o none (.st 4 (.t 7) (.t 24)) .nil)) <| .seq (.rg (.o none (.mv 25 (.t 4)) <|
 .o none (.fld 26 0 (.t 7)) <|
 .o none (.fld 27 0 (.t 26)) <|
 .o none (.fld 28 1 (.t 27)) <|
 .o none (.ld 29 1 false (.t 28)) <|
 .o none (.call (some 30) false (.c (.fn 144 [] [])) [(.t 25), (.t 29)]) <|
 .o none (.mv 4 (.t 30)) .nil)) <| .seq (.rg (.o none (.mv 31 (.t 5)) <|
 .o none (.fld 32 0 (.t 7)) <|
 .o none (.fld 33 2 (.t 32)) <|
 .o none (.ld 34 1 false (.t 33)) <|
 .o none (.call (some 35) false (.c (.fn 144 [] [])) [(.t 31), (.t 34)]) <|
 .o none (.mv 8 (.t 35)) .nil)) <| .seq (.rg (.o none (.fld 37 0 (.t 7)) <|
 .o none (.fld 38 2 (.t 37)) <|
 .o none (.ld 39 1 false (.t 38)) <|
 .o none (.mv 40 (.t 8)) <|
 .o none (.call (some 41) false (.c (.fn 145 [] [])) [(.t 39), (.t 40)]) <|
 .o none (.mv 36 (.t 41)) <|
 .o none (.ext 42 (.t 36) 0) <|
 .o none (.ext 43 (.t 36) 1) <|
 .o none (.ext 44 (.t 36) 2) <|
 .o none (.mv 9 (.t 42)) <|
 .o none (.mv 10 (.t 43)) <|
 .o none (.mv 11 (.t 44)) .nil)) <| .rg (.o none (.mv 45 (.t 5)) <|
 .o none (.mv 46 (.t 9)) <|
 .o none (.call (some 47) false (.c (.fn 114 [] [])) [(.t 45), (.t 46)]) <|
 .o none (.mv 5 (.t 47)) .nil))) <| .rg (.o none (.bin 48 .add false (.t 21) (.c (.int .i64 1))) <|
 .o none (.mv 21 (.t 48)) .nil)))) <| .seq (.rg (.o none (.mv 50 (.t 0)) <|
 .o none (.idx 51 4 (.t 50) (.c (.int .i64 0))) <|
 .o none (.fld 52 0 (.t 51)) <|
 .o none (.ld 53 3 true (.t 52)) <|
 .o none (.call (some 54) false (.c (.fn 36 [] [])) [(.t 53)]) <|
 .o none (.bin 55 .lss false (.t 54) (.c (.int .i64 0))) <|
 .o none (.mv 56 (.t 5)) <|
 .o none (.bld 57 [(.bool false), .nilS] [(0, 1, (.t 55)), (1, 1, (.t 56))]) <|
 .o none (.mv 58 (.t 4)) <|
 .o none (.bld 59 [(.bool false), .nilS] [(1, 1, (.t 58))]) <|
 .o none (.call (some 60) false (.c (.fn 146 [] [])) [(.t 57), (.t 59)]) <|
 .o none (.mv 49 (.t 60)) <|
 .o none (.ext 61 (.t 49) 0) <|
 .o none (.ext 62 (.t 49) 1) <|
 .o none (.alloc 12 3 32 (.agg [(.bool false), .nilS, .nilS])) <|
 .o none (.st 3 (.t 12) (.t 61)) <|
 .o none (.mv 13 (.t 62)) .nil)) <| .seq (.rg (.o none (.mv 63 (.t 0)) <|
 .o none (.ld 64 3 true (.t 12)) <|
 .o none (.ld 66 3 true (.t 12)) <|
 .o none (.call (some 65) true (.c (.fn 70 [] [])) [(.t 63), (.t 64)]) <|
 .o none (.mv 2 (.t 65)) <|
 .o none (.st 3 (.t 3) (.t 66)) .nil)) <| .ret⟩
theorem Qafs : Qf Tryz.prog Tryz.f69 = some c69 := by kernel_rfl
def c71 : SFn := ⟨19, [.cell 4 3 true], .seq (.rg (.o none (.alloc 4 3 32 (.agg [(.bool false), .nilS, .nilS])) .nil)) <| .seq (.rg (.o none (.mv 8 (.t 0)) <|
 .o none (.call (some 9) false (.c (.fn 105 [] [])) [(.t 8)]) <|
 .o none (.mv 10 (.t 1)) <|
 .o none (.call (some 11) false (.c (.fn 105 [] [])) [(.t 10)]) <|
 .o none (.call (some 12) false (.c (.fn 147 [] [])) [(.t 9), (.t 11)]) <|
 .o none (.mv 7 (.t 12)) <|
 .o none (.ext 13 (.t 7) 0) <|
 .o none (.ext 14 (.t 7) 1) <|
 .o none (.alloc 5 3 32 (.agg [(.bool false), .nilS, .nilS])) <|
 .o none (.st 3 (.t 5) (.t 13)) <|
 .o none (.mv 6 (.t 14)) .nil)) <| .seq (.seq (.rg (.o none (.mv 15 (.t 6)) <|
 .o none (.bin 16 .neq false (.t 15) (.c (.int .i64 0))) .nil)) <| .cond (.t 16) (.seq (.rg (.o none (.call (some 17) false (.c (.fn 34 [] [])) [(.c (.int .i64 0))]) <|
 .o none (.st 3 (.t 4) (.t 17)) .nil)) <| .ret) (.skip)) <| .seq (.rg (.o none (.ld 18 3 true (.t 5)) <|
 .o none (.st 3 (.t 4) (.t 18)) .nil)) <| .ret⟩
theorem Qaft : Qf Tryz.prog Tryz.f71 = some c71 := by kernel_rfl
def Q7s : SFn := ⟨19, [.t 2], .seq (.rg (.o none (.mv 2 (.c .nilS)) .nil)) <| .seq (.seq (.rg (.o none (.mv 4 (.t 0)) <|
 .o none (.bin 5 .lss false (.t 4) (.c (.int .i64 0))) <|
 .o none (.mv 6 (.t 5)) <|
 .o (some (6, false)) (.mv 7 (.t 0)) <|
 .o (some (6, false)) (.bin 8 .geq false (.t 7) (.c (.int .i64 64))) <|
 .o none (.pick 9 (.t 6) (.c (.bool true)) (.t 8)) .nil)) <| .cond (.t 9) (.seq (.rg (.o none (.mv 2 (.c .nilS)) .nil)) <| .ret) (.skip)) <| .seq (.rg (.o none (.mv 10 (.t 0)) <|
 .o none (.bin 11 .add false (.t 10) (.c (.int .i64 1))) <|
 .o none (.mk 12 1 8 3 (.int .i64 0) (.t 11) (.t 11)) <|
 .o none (.mv 3 (.t 12)) .nil)) <| .seq (.rg (.o none (.mv 13 (.t 3)) <|
 .o none (.mv 14 (.t 0)) <|
 .o none (.idx 15 1 (.t 13) (.t 14)) <|
 .o none (.st 1 (.t 15) (.c (.int .i64 1))) .nil)) <| .seq (.rg (.o none (.call (some 16) false (.c (.fn 34 [] [])) [(.c (.int .i64 1))]) <|
 .o none (.mv 17 (.t 3)) <|
 .o none (.call (some 18) false (.c (.fn 185 [] [])) [(.c .nilS), (.t 16), (.t 17)]) <|
 .o none (.mv 2 (.t 18)) .nil)) <| .ret⟩
theorem Qacn : Qf Tryz.prog Tryz.f127 = some Q7s := by kernel_rfl
def c53 : SFn := ⟨53, [.t 0], .seq (.rg (.o none (.mv 0 (.c (.bool false))) .nil)) <| .seq (.rg (.o none (.call (some 6) false (.c (.fn 122 [] [])) [(.c (.int .i64 0))]) <|
 .o none (.call (some 7) false (.c (.fn 71 [] [])) [(.c (.int .i64 (-1))), (.c (.int .i64 2))]) <|
 .o none (.call (some 8) false (.c (.fn 70 [] [])) [(.t 6), (.t 7)]) <|
 .o none (.call (some 9) false (.c (.fn 71 [] [])) [(.c (.int .i64 1)), (.c (.int .i64 3))]) <|
 .o none (.call (some 10) false (.c (.fn 123 [] [])) [(.t 9)]) <|
 .o none (.call (some 11) false (.c (.fn 75 [] [])) [(.t 8), (.t 10)]) <|
 .o none (.call (some 12) false (.c (.fn 69 [] [])) [(.t 11)]) <|
 .o none (.mv 5 (.t 12)) <|
 .o none (.ext 13 (.t 5) 0) <|
 .o none (.ext 14 (.t 5) 1) <|
 .o none (.alloc 2 3 32 (.agg [(.bool false), .nilS, .nilS])) <|
 .o none (.mv 1 (.t 13)) <|
 .o none (.st 3 (.t 2) (.t 14)) .nil)) <| .seq (.rg (.o none (.call (some 16) false (.c (.fn 122 [] [])) [(.c (.int .i64 0))]) <|
 .o none (.call (some 17) false (.c (.fn 122 [] [])) [(.c (.int .i64 0))]) <|
 .o none (.call (some 18) false (.c (.fn 68 [] [])) [(.t 16), (.t 17)]) <|
 .o none (.call (some 19) false (.c (.fn 122 [] [])) [(.c (.int .i64 1))]) <|
 .o none (.call (some 20) false (.c (.fn 122 [] [])) [(.c (.int .i64 1))]) <|
 .o none (.call (some 21) false (.c (.fn 68 [] [])) [(.t 19), (.t 20)]) <|
 .o none (.call (some 22) false (.c (.fn 124 [] [])) [(.t 18), (.t 21)]) <|
 .o none (.call (some 23) false (.c (.fn 122 [] [])) [(.c (.int .i64 0))]) <|
 .o none (.call (some 24) false (.c (.fn 122 [] [])) [(.c (.int .i64 1))]) <|
 .o none (.call (some 25) false (.c (.fn 124 [] [])) [(.t 23), (.t 24)]) <|
 .o none (.call (some 26) false (.c (.fn 67 [] [])) [(.t 22), (.t 25)]) <|
 .o none (.mv 15 (.t 26)) <|
 .o none (.ext 27 (.t 15) 0) <|
 .o none (.ext 28 (.t 15) 1) <|
 .o none (.mv 3 (.t 27)) <|
 .o none (.mv 4 (.t 28)) .nil)) <| .seq (.rg (.o none (.mv 29 (.t 1)) <|
 .br (.o none (.call (some 30) true (.c (.fn 34 [] [])) [(.c (.int .i64 3))]) <|
 .br (.o none (.bs 31 1 3 [(.c (.int .i64 1))]) <|
 .o none (.bld 32 [(.bool false), .nilS, .nilS, .nilS] [(0, 3, (.t 30)), (3, 1, (.t 31))]) <|
 .o none (.call (some 33) true (.c (.fn 34 [] [])) [(.c (.int .i64 (-2)))]) <|
 .o none (.bld 34 [(.bool false), .nilS, .nilS, .nilS] [(0, 3, (.t 33))]) <|
 .o none (.bs 35 4 133 [(.t 32), (.t 34)]) <|
 .o none (.call (some 36) true (.c (.fn 125 [] [])) [(.t 35)]) <|
 .o none (.call (some 37) true (.c (.fn 61 [] [])) [(.t 29), (.t 36)]) <|
 .o none (.mv 38 (.t 37)) <|
 .o (some (38, true)) (.ld 39 3 true (.t 2)) <|
 .o (some (38, true)) (.call (some 40) true (.c (.fn 34 [] [])) [(.c (.int .i64 (-6)))]) <|
 .o (some (38, true)) (.call (some 41) true (.c (.fn 72 [] [])) [(.t 39), (.t 40)]) <|
 .o none (.pick 42 (.t 38) (.t 41) (.c (.bool false))) <|
 .o none (.mv 43 (.t 42)) <|
 .o (some (43, true)) (.mv 44 (.t 4)) <|
 .o none (.pick 45 (.t 43) (.t 44) (.c (.bool false))) <|
 .o none (.mv 46 (.t 45)) <|
 .o (some (46, true)) (.mv 47 (.t 3)) <|
 .o (some (46, true)) (.call (some 48) true (.c (.fn 127 [] [])) [(.c (.int .i64 0))]) <|
 .o (some (46, true)) (.call (some 49) true (.c (.fn 127 [] [])) [(.c (.int .i64 1))]) <|
 .o (some (46, true)) (.call (some 50) true (.c (.fn 126 [] [])) [(.t 48), (.t 49)]) <|
 .o (some (46, true)) (.call (some 51) true (.c (.fn 61 [] [])) [(.t 47), (.t 50)]) <|
 .o none (.pick 52 (.t 46) (.t 51) (.c (.bool false))) <|
 .o none (.mv 0 (.t 52)) .nil) (.o none (.call (some 33) true (.c (.fn 34 [] [])) [(.c (.int .i64 (-2)))]) <|
 .o none (.bld 34 [(.bool false), .nilS, .nilS, .nilS] [(0, 3, (.t 33))]) <|
 .o none (.bs 31 1 3 [(.c (.int .i64 1))]) <|
 .o none (.bld 32 [(.bool false), .nilS, .nilS, .nilS] [(0, 3, (.t 30)), (3, 1, (.t 31))]) <|
 .o none (.bs 35 4 133 [(.t 32), (.t 34)]) <|
 .o none (.call (some 36) true (.c (.fn 125 [] [])) [(.t 35)]) <|
 .o none (.call (some 37) true (.c (.fn 61 [] [])) [(.t 29), (.t 36)]) <|
 .o none (.mv 38 (.t 37)) <|
 .o (some (38, true)) (.ld 39 3 true (.t 2)) <|
 .o (some (38, true)) (.call (some 40) true (.c (.fn 34 [] [])) [(.c (.int .i64 (-6)))]) <|
 .o (some (38, true)) (.call (some 41) true (.c (.fn 72 [] [])) [(.t 39), (.t 40)]) <|
 .o none (.pick 42 (.t 38) (.t 41) (.c (.bool false))) <|
 .o none (.mv 43 (.t 42)) <|
 .o (some (43, true)) (.mv 44 (.t 4)) <|
 .o none (.pick 45 (.t 43) (.t 44) (.c (.bool false))) <|
 .o none (.mv 46 (.t 45)) <|
 .o (some (46, true)) (.mv 47 (.t 3)) <|
 .o (some (46, true)) (.call (some 48) true (.c (.fn 127 [] [])) [(.c (.int .i64 0))]) <|
 .o (some (46, true)) (.call (some 49) true (.c (.fn 127 [] [])) [(.c (.int .i64 1))]) <|
 .o (some (46, true)) (.call (some 50) true (.c (.fn 126 [] [])) [(.t 48), (.t 49)]) <|
 .o (some (46, true)) (.call (some 51) true (.c (.fn 61 [] [])) [(.t 47), (.t 50)]) <|
 .o none (.pick 52 (.t 46) (.t 51) (.c (.bool false))) <|
 .o none (.mv 0 (.t 52)) .nil)) (.o none (.bs 31 1 3 [(.c (.int .i64 1))]) <|
 .o none (.call (some 30) true (.c (.fn 34 [] [])) [(.c (.int .i64 3))]) <|
 .o none (.bld 32 [(.bool false), .nilS, .nilS, .nilS] [(0, 3, (.t 30)), (3, 1, (.t 31))]) <|
 .o none (.call (some 33) true (.c (.fn 34 [] [])) [(.c (.int .i64 (-2)))]) <|
 .o none (.bld 34 [(.bool false), .nilS, .nilS, .nilS] [(0, 3, (.t 33))]) <|
 .o none (.bs 35 4 133 [(.t 32), (.t 34)]) <|
 .o none (.call (some 36) true (.c (.fn 125 [] [])) [(.t 35)]) <|
 .o none (.call (some 37) true (.c (.fn 61 [] [])) [(.t 29), (.t 36)]) <|
 .o none (.mv 38 (.t 37)) <|
 .o (some (38, true)) (.ld 39 3 true (.t 2)) <|
 .o (some (38, true)) (.call (some 40) true (.c (.fn 34 [] [])) [(.c (.int .i64 (-6)))]) <|
 .o (some (38, true)) (.call (some 41) true (.c (.fn 72 [] [])) [(.t 39), (.t 40)]) <|
 .o none (.pick 42 (.t 38) (.t 41) (.c (.bool false))) <|
 .o none (.mv 43 (.t 42)) <|
 .o (some (43, true)) (.mv 44 (.t 4)) <|
 .o none (.pick 45 (.t 43) (.t 44) (.c (.bool false))) <|
 .o none (.mv 46 (.t 45)) <|
 .o (some (46, true)) (.mv 47 (.t 3)) <|
 .o (some (46, true)) (.call (some 48) true (.c (.fn 127 [] [])) [(.c (.int .i64 0))]) <|
 .o (some (46, true)) (.call (some 49) true (.c (.fn 127 [] [])) [(.c (.int .i64 1))]) <|
 .o (some (46, true)) (.call (some 50) true (.c (.fn 126 [] [])) [(.t 48), (.t 49)]) <|
 .o (some (46, true)) (.call (some 51) true (.c (.fn 61 [] [])) [(.t 47), (.t 50)]) <|
 .o none (.pick 52 (.t 46) (.t 51) (.c (.bool false))) <|
 .o none (.mv 0 (.t 52)) .nil))) <| .ret⟩
theorem Qafu : Qf Tryz.prog Tryz.f53 = some c53 := by kernel_rfl
def c64 : SFn := ⟨16, [.t 2], .seq (.rg (.o none (.mv 2 (.c (.bool false))) .nil)) <| .seq (.seq (.rg (.o none (.mv 3 (.c (.int .i64 0))) .nil)) <| .block 0 (.loop (.seq (.seq (.rg (.o none (.mv 4 (.t 3)) <|
 .o none (.mv 5 (.t 0)) <|
 .o none (.len 6 (.t 5)) <|
 .o none (.bin 7 .lss false (.t 4) (.t 6)) .nil)) <| .cond (.t 7) (.skip) (.exit 0)) <| .seq (.block 1 (.seq (.rg (.o none (.mv 10 (.t 0)) <|
 .o none (.mv 11 (.t 3)) <|
 .o none (.idx 12 1 (.t 10) (.t 11)) <|
 .o none (.ld 13 1 false (.t 12)) <|
 .o none (.call (some 14) false (.c (.fn 52 [] [])) [(.t 13), (.c (.int .i64 5)), (.c (.int .i64 4)), (.c (.int .i64 4))]) <|
 .o none (.un 15 .not (.t 14)) .nil)) <| .cond (.t 15) (.seq (.rg (.o none (.mv 2 (.c (.bool false))) .nil)) <| .ret) (.skip))) <| .rg (.o none (.mv 8 (.t 3)) <|
 .o none (.bin 9 .add false (.t 8) (.c (.int .i64 1))) <|
 .o none (.mv 3 (.t 9)) .nil)))) <| .seq (.rg (.o none (.mv 2 (.c (.bool true))) .nil)) <| .ret⟩
theorem Qafv : Qf Tryz.prog Tryz.f64 = some c64 := by kernel_rfl
def c13 : SFn := ⟨109, [.t 6], .seq (.rg (.o none (.mv 6 (.c (.bool false))) .nil)) <| .seq (.seq (.rg (.o none (.mv 15 (.t 0)) <|
 .o none (.mv 16 (.t 1)) <|
 .o none (.bs 17 1 65 [(.t 15), (.t 16)]) <|
 .o none (.call (some 18) false (.c (.fn 64 [] [])) [(.t 17)]) <|
 .o none (.un 19 .not (.t 18)) .nil)) <| .cond (.t 19) (.seq (.rg (.o none (.call (some 20) false (.c (.fn 53 [] [])) []) <|
 .o none (.mv 6 (.t 20)) .nil)) <| .ret) (.skip)) <| .seq (.rg (.o none (.mv 22 (.t 0)) <|
 .o none (.mv 23 (.t 1)) <|
 .o none (.mv 24 (.t 2)) <|
 .o none (.call (some 25) false (.c (.fn 73 [] [])) [(.t 22), (.t 23), (.t 24)]) <|
 .o none (.mv 21 (.t 25)) <|
 .o none (.ext 26 (.t 21) 0) <|
 .o none (.ext 27 (.t 21) 1) <|
 .o none (.ext 28 (.t 21) 2) <|
 .o none (.ext 29 (.t 21) 3) <|
 .o none (.mv 7 (.t 26)) <|
 .o none (.mv 8 (.t 27)) <|
 .o none (.mv 9 (.t 28)) <|
 .o none (.mv 10 (.t 29)) .nil)) <| .seq (.seq (.rg (.o none (.mv 30 (.t 10)) <|
 .o none (.bin 31 .neq false (.t 30) (.c (.int .i64 0))) .nil)) <| .cond (.t 31) (.seq (.rg (.o none (.mv 32 (.t 10)) <|
 .o none (.bin 33 .eql false (.t 32) (.c (.int .i64 2))) <|
 .o none (.mv 34 (.t 2)) <|
 .o none (.bin 35 .lss false (.t 34) (.c (.int .i64 0))) <|
 .o none (.mv 36 (.t 35)) <|
 .o (some (36, false)) (.mv 37 (.t 2)) <|
 .o (some (36, false)) (.bin 38 .geq false (.t 37) (.c (.int .i64 64))) <|
 .o none (.pick 39 (.t 36) (.c (.bool true)) (.t 38)) <|
 .o none (.bin 40 .eql true (.t 33) (.t 39)) <|
 .o none (.mv 41 (.t 40)) <|
 .o (some (41, true)) (.mv 42 (.t 10)) <|
 .o (some (41, true)) (.bin 43 .neq false (.t 42) (.c (.int .i64 3))) <|
 .o (some (41, true)) (.mv 44 (.t 43)) <|
 .o (some (44, false)) (.mv 45 (.t 1)) <|
 .o (some (44, false)) (.len 46 (.t 45)) <|
 .o (some (44, false)) (.bin 47 .eql false (.t 46) (.c (.int .i64 0))) <|
 .o (some (41, true)) (.pick 48 (.t 44) (.c (.bool true)) (.t 47)) <|
 .o none (.pick 49 (.t 41) (.t 48) (.c (.bool false))) <|
 .o none (.mv 50 (.t 49)) <|
 .o (some (50, true)) (.call (some 51) false (.c (.fn 53 [] [])) []) <|
 .o none (.pick 52 (.t 50) (.t 51) (.c (.bool false))) <|
 .o none (.mv 6 (.t 52)) .nil)) <| .ret) (.skip)) <| .seq (.rg (.o none (.mv 53 (.t 1)) <|
 .o none (.mv 54 (.t 2)) <|
 .o none (.call (some 55) false (.c (.fn 56 [] [])) [(.t 53), (.t 54)]) <|
 .o none (.mv 11 (.t 55)) .nil)) <| .seq (.rg (.o none (.mv 56 (.t 1)) <|
 .o none (.mv 57 (.t 2)) <|
 .o none (.call (some 58) false (.c (.fn 59 [] [])) [(.t 56), (.t 57)]) <|
 .o none (.mv 12 (.t 58)) .nil)) <| .seq (.seq (.rg (.o none (.mv 59 (.t 9)) <|
 .o none (.bin 60 .lss false (.t 59) (.c (.int .i64 0))) <|
 .o none (.mv 61 (.t 60)) <|
 .o (some (61, false)) (.mv 62 (.t 11)) <|
 .o (some (61, false)) (.bin 63 .lss false (.t 62) (.c (.int .i64 0))) <|
 .o none (.pick 64 (.t 61) (.c (.bool true)) (.t 63)) <|
 .o none (.mv 65 (.t 64)) <|
 .o (some (65, false)) (.mv 66 (.t 12)) <|
 .o (some (65, false)) (.len 67 (.t 66)) <|
 .o (some (65, false)) (.mv 68 (.t 11)) <|
 .o (some (65, false)) (.bin 69 .add false (.t 68) (.c (.int .i64 1))) <|
 .o (some (65, false)) (.bin 70 .neq false (.t 67) (.t 69)) <|
 .o none (.pick 71 (.t 65) (.c (.bool true)) (.t 70)) <|
 .o none (.mv 72 (.t 71)) <|
 .o (some (72, false)) (.mv 73 (.t 8)) <|
 .o (some (72, false)) (.len 74 (.t 73)) <|
 .o (some (72, false)) (.bin 75 .gtr false (.t 74) (.c (.int .i64 0))) <|
 .o (some (72, false)) (.mv 76 (.t 75)) <|
 .o (some (76, true)) (.mv 77 (.t 8)) <|
 .o (some (76, true)) (.mv 78 (.t 2)) <|
 .o (some (76, true)) (.call (some 79) false (.c (.fn 56 [] [])) [(.t 77), (.t 78)]) <|
 .o (some (76, true)) (.mv 80 (.t 11)) <|
 .o (some (76, true)) (.bin 81 .geq false (.t 79) (.t 80)) <|
 .o (some (72, false)) (.pick 82 (.t 76) (.t 81) (.c (.bool false))) <|
 .o none (.pick 83 (.t 72) (.c (.bool true)) (.t 82)) .nil)) <| .cond (.t 83) (.seq (.rg (.o none (.mv 6 (.c (.bool false))) .nil)) <| .ret) (.skip)) <| .seq (.rg (.o none (.mv 85 (.t 12)) <|
 .o none (.mv 86 (.t 11)) <|
 .o none (.idx 87 1 (.t 85) (.t 86)) <|
 .o none (.ld 88 1 false (.t 87)) <|
 .o none (.mv 89 (.t 9)) <|
 .o none (.call (some 90) false (.c (.fn 74 [] [])) [(.t 88), (.t 89)]) <|
 .o none (.mv 84 (.t 90)) <|
 .o none (.ext 91 (.t 84) 0) <|
 .o none (.ext 92 (.t 84) 1) <|
 .o none (.mv 13 (.t 91)) <|
 .o none (.mv 14 (.t 92)) .nil)) <| .seq (.rg (.o none (.mv 93 (.t 14)) <|
 .o none (.bin 94 .eql false (.t 93) (.c (.int .i64 0))) <|
 .o none (.mv 95 (.t 94)) <|
 .o (some (95, true)) (.mv 96 (.t 13)) <|
 .o (some (95, true)) (.mv 97 (.t 0)) <|
 .o (some (95, true)) (.call (some 98) false (.c (.fn 68 [] [])) [(.t 96), (.t 97)]) <|
 .o (some (95, true)) (.mv 99 (.t 7)) <|
 .o (some (95, true)) (.mv 100 (.t 1)) <|
 .o (some (95, true)) (.call (some 101) false (.c (.fn 68 [] [])) [(.t 99), (.t 100)]) <|
 .o (some (95, true)) (.mv 102 (.t 8)) <|
 .o (some (95, true)) (.call (some 103) false (.c (.fn 75 [] [])) [(.t 101), (.t 102)]) <|
 .o (some (95, true)) (.call (some 104) false (.c (.fn 65 [] [])) [(.t 98), (.t 103)]) <|
 .o none (.pick 105 (.t 95) (.t 104) (.c (.bool false))) <|
 .o none (.mv 106 (.t 105)) <|
 .o (some (106, true)) (.call (some 107) false (.c (.fn 53 [] [])) []) <|
 .o none (.pick 108 (.t 106) (.t 107) (.c (.bool false))) <|
 .o none (.mv 6 (.t 108)) .nil)) <| .ret⟩
theorem Qafw : Qf Tryz.prog Tryz.f13 = some c13 := by kernel_rfl
end Go.Proofs.YtmnkngmmfnncoaaGreat
namespace Go.FW
open Go
def Qi7 (a m : List Int) : Bool := (List.range a.length).all fun i => decide (eN a i = eN m i)
theorem Qhw {a m : List Int} : Qi7 a m = true ↔ ∀ i, i < a.length -> eN a i = eN m i := by
 simp [Qi7, List.all_eq_true]
theorem Qwl (a : List Int) : Qi7 a (if Qb8 (Qcs a) then Qcs a else []) = Qb8 (Qcs a) := by
 cases h : Qb8 (Qcs a)
 ·rw [if_neg (by simp)]
  cases hz : Qi7 a [] with
  | false => rfl
  | true =>
   rw [Qhw] at hz
   have e : Qcs a = [] := Qds (Qgw a) (by simp) fun i => by
    rw [Qhc, Qvx]
    by_cases hi : i < a.length
    ·rw [hz i hi, Qvx]
    ·exact Qck (by omega)
   rw [e] at h
   exact absurd h (by decide)
 ·rw [if_pos rfl, Qhw]
  intro i _; rw [Qhc]
theorem Qrr : ∀ (ts : List Tm), (∀ t ∈ ts, t.2.getLast? ≠ some 0) -> ∀ out, Nrm out -> Nrm (ts.foldl (fun out t => Qdz out t.1 t.2) out) /\ ∀ φ, pev φ (ts.foldl (fun out t => Qdz out t.1 t.2) out) = pev φ out + pev φ ts
 | [], _, out, ho => ⟨ho, fun φ => by rw [List.foldl_nil, Qb7]; grind⟩
 | t :: ts, h, out, ho => by
  have hl := h t (by simp)
  obtain ⟨h1, h2⟩ := Qrr ts (fun x hx => h x (by simp [hx])) (Qdz out t.1 t.2) (Q2n ho hl)
  refine ⟨h1, fun φ => ?_⟩
  rw [List.foldl_cons, h2, Q2o ho.c hl, Qal]; grind
end Go.FW
namespace Go.FW
open Go
end Go.FW
namespace Go.FW
open Go
def Q7t (a : Rat) : Nat -> Rat
 | 0 => 1
 | n + 1 => Q7t a n * a
def mevN (vs : List Rat) (m : List Int) : Nat -> Rat
 | 0 => 1
 | n + 1 => mevN vs m n * Q7t (vs.getD n 0) (eN m n).toNat
def mev (vs : List Rat) (m : List Int) : Rat := mevN vs m m.length
end Go.FW
namespace Go.FW
open Go
end Go.FW
namespace Go.FW
open Go
section
variable {C : Ctx} {fr : Fr} {hp : HP} {w : World} {K R : Qh}
end
def Qb0 (m : List Int) (v : Nat) : List Int := Qcs (m.set v 0)
theorem Qafy (m : List Int) (v i : Nat) : eN (m.set v 0) i = if i = v then 0 else eN m i := by
 by_cases hi : i < m.length
 ·rw [Qc7 (by simpa using hi), List.getElem_set]
  by_cases h : i = v
  ·rw [if_pos h, if_pos h.symm]
  ·rw [if_neg h, if_neg (fun h' => h h'.symm), Qc7 hi]
 ·rw [Qck (by simpa using hi), Qck (by omega)]; split <;> rfl
theorem Qhj (m : List Int) (v i : Nat) : eN (Qb0 m v) i = if i = v then 0 else eN m i := by rw [Qb0, Qhc, Qafy]
theorem Qms (m : List Int) (v : Nat) : (Qb0 m v).getLast? ≠ some 0 := Qgw _
theorem Q7u {E : Nat} {m : List Int} (h : MB E m) (v : Nat) : MB E (Qb0 m v) := by
 have hl : (Qb0 m v).length <= 64 := by
  have := Qer (m.set v 0)
  have := h.len
  rw [List.length_set] at *
  unfold Qb0; omega
 refine ⟨hl, fun x hx => ?_, fun x hx => ?_⟩
 all_goals
  obtain ⟨i, hi, rfl⟩ := List.getElem_of_mem hx
  rw [<- Qc7 hi, Qhj]
  have := h.eN i
  split <;> omega
theorem Q2p {a b : List Int} {v : Nat} (h : eN a v = eN b v) : Qae (Qb0 a v) (Qb0 b v) = Qae a b := by
 have key : ∀ n, Qbw (Qb0 a v) (Qb0 b v) n = Qbw a b n := by
  intro n
  induction n with
  | zero => rfl
  | succ n ih =>
   rw [Qbw, Qbw, ih, Qhj, Qhj]
   by_cases hn : n = v
   ·subst hn; rw [if_pos rfl, if_pos rfl, if_pos rfl, if_pos h]
   ·rw [if_neg hn, if_neg hn]
 have e1 : (Qb0 a v).length <= a.length := by have := Qer (a.set v 0); rwa [List.length_set] at this
 have e2 : (Qb0 b v).length <= b.length := by have := Qer (b.set v 0); rwa [List.length_set] at this
 rw [<- Qge (m := max a.length b.length) (by omega), key, Qge (by omega)]
def Q7 (p : List Tm) (v : Nat) (n : Int) : List Tm := p.filterMap fun t => if eN t.2 v = n then some (t.1, Qb0 t.2 v) else none
theorem Qrs {p : List Tm} {v i : Nat} {n : Int} (h : i < p.length) : Q7 (p.take (i + 1)) v n = Q7 (p.take i) v n ++ (if eN p[i].2 v = n then [(p[i].1, Qb0 p[i].2 v)] else []) := by
 rw [List.take_succ_eq_append_getElem h, Q7, List.filterMap_append]
 congr 1
 rw [List.filterMap_cons]
 by_cases h : eN p[i].2 v = n <;> simp [h]
theorem Qcw (p : List Tm) (v : Nat) (n : Int) : (Q7 p v n).length <= p.length := List.length_filterMap_le _ _
theorem Qig {p : List Tm} {v : Nat} {n : Int} {t : Tm} (h : t ∈ Q7 p v n) : ∃ s ∈ p, eN s.2 v = n /\ t = (s.1, Qb0 s.2 v) := by
 simp only [Q7, List.mem_filterMap] at h
 obtain ⟨s, h1, h2⟩ := h
 split at h2
 ·rename_i h3; cases h2; exact ⟨s, h1, h3, rfl⟩
 ·cases h2
theorem Qgg {K E : Nat} {p : List Tm} (hp : PB K E p) (v : Nat) (n : Int) : PB K E (Q7 p v n) := fun t ht => by
 obtain ⟨s, h1, _, rfl⟩ := Qig ht
 have := hp s h1
 exact ⟨this.c, Q7u this.m v, Qms _ _⟩
theorem Qny (v : Nat) (n : Int) : ∀ {p : List Tm}, Qa3 p -> Qa3 (Q7 p v n)
 | [], _ => trivial
 | s :: p, h => by
  have ih := Qny v n h.2
  by_cases hs : eN s.2 v = n
  ·have e : Q7 (s :: p) v n = (s.1, Qb0 s.2 v) :: Q7 p v n := by rw [Q7, List.filterMap_cons, if_pos hs]; rfl
   rw [e]
   refine ⟨fun t ht => ?_, ih⟩
   obtain ⟨u, h1, h2, rfl⟩ := Qig ht
   show 0 < Qae (Qb0 s.2 v) (Qb0 u.2 v)
   rw [Q2p (by rw [hs, h2])]
   exact h.1 u h1
  ·have e : Q7 (s :: p) v n = Q7 p v n := by rw [Q7, List.filterMap_cons, if_neg hs]; rfl
   rw [e]; exact ih
theorem Qci {p : List Tm} (hp : Nrm p) (v : Nat) (n : Int) : Nrm (Q7 p v n) := ⟨fun t ht => by
 obtain ⟨s, _, _, rfl⟩ := Qig ht
 exact Qms _ _, fun t ht => by
 obtain ⟨s, h1, _, rfl⟩ := Qig ht
 exact hp.z s h1, Qny v n hp.s⟩
end Go.FW
namespace Go.FW
open Go
def hor (p : List Tm) (v : Nat) (q : List Tm) (top : Nat) : Nat -> List Tm
 | 0 => Q7 p v top
 | k + 1 => Q3 (Qad (hor p v q top k) q) (Q7 p v ((top : Int) - (k + 1)))
def Qlk (x l : List Tm) : List Tm := l.foldl (fun out t => Qdz out t.1 t.2) x
theorem Q2q {x l : List Tm} (hx : Nrm x) (hl : Nrm l) : Qlk x l = Q3 x l := by
 obtain ⟨h1, h2⟩ := Qrr l hl.c x hx
 refine Qhi h1 (Qdt hx hl) fun φ => ?_
 rw [Qlk, h2, Qe3 hx.c hl.c]
theorem Qxi (x l : List Tm) (t : Tm) : Qlk x (l ++ [t]) = Qdz (Qlk x l) t.1 t.2 := by rw [Qlk, List.foldl_append]; rfl
theorem Qwm (v : Nat) : ∀ (p : List Tm) (d : Int), d <= p.foldl (fun d t => max d (eN t.2 v)) d /\ (∀ t ∈ p, eN t.2 v <= p.foldl (fun d t => max d (eN t.2 v)) d) /\ (p.foldl (fun d t => max d (eN t.2 v)) d = d ∨ ∃ t ∈ p, p.foldl (fun d t => max d (eN t.2 v)) d = eN t.2 v)
 | [], d => ⟨Int.le_refl _, by simp, .inl rfl⟩
 | s :: p, d => by
  obtain ⟨h1, h2, h3⟩ := Qwm v p (max d (eN s.2 v))
  rw [List.foldl_cons]
  refine ⟨by omega, fun t ht => ?_, ?_⟩
  ·rcases List.mem_cons.1 ht with rfl | ht
   ·omega
   ·exact h2 t ht
  ·rcases h3 with h3 | ⟨t, ht, h3⟩
   ·rw [h3]
    by_cases h : d <= eN s.2 v
    ·right; exact ⟨s, by simp, by omega⟩
    ·left; omega
   ·right; exact ⟨t, by simp [ht], h3⟩
end Go.FW
namespace Go.FW
open Go
def Qcl (vs : List Rat) (v : Nat) (b : Rat) (n : Int) : List Tm -> Rat
 | [] => 0
 | t :: p => (if n <= eN t.2 v then t.1 * mev vs (Qb0 t.2 v) * Q7t b (eN t.2 v - n).toNat else 0) + Qcl vs v b n p
theorem Qrt {p : List Tm} {t x : Tm} (h : x ∈ Qap p t) : ∃ s ∈ p, x.2 = Qat s.2 t.2 := by
 simp only [Qap, List.mem_filterMap] at h
 obtain ⟨y, hy, h⟩ := h
 split at h
 ·cases h
 ·cases h; exact ⟨y, hy, rfl⟩
theorem Q7v : ∀ (n : Nat) (l : List (List Tm)), l.length <= n -> ∀ {t : Tm}, t ∈ Qcd l -> ∃ p ∈ l, ∃ s ∈ p, s.2 = t.2 := by
 intro n
 induction n with
 | zero =>
  intro l hl t ht
  have : l = [] := List.length_eq_zero_iff.1 (by omega)
  subst this
  rw [Qcd] at ht; cases ht
 | succ n ih =>
  intro l hl t ht
  match l, ht with
  | [], ht => rw [Qcd] at ht; cases ht
  | [p], ht => rw [Qcd] at ht; exact ⟨p, by simp, t, ht, rfl⟩
  | p :: q :: r, ht =>
   rw [Qia (by simp)] at ht
   generalize hL : p :: q :: r = L at *
   have hlen : 2 <= L.length := by rw [<- hL]; simp
   rcases Qhh ht with ⟨s, h1, h2⟩ | ⟨s, h1, h2⟩
   ·obtain ⟨p', hp', s', hs', e⟩ := ih _ (by rw [List.length_take]; omega) h1
    exact ⟨p', List.mem_of_mem_take hp', s', hs', e.trans h2⟩
   ·obtain ⟨p', hp', s', hs', e⟩ := ih _ (by rw [List.length_drop]; omega) h1
    exact ⟨p', List.mem_of_mem_drop hp', s', hs', e.trans h2⟩
theorem Qjr {p q : List Tm} {t : Tm} (h : t ∈ Qad p q) : ∃ a ∈ p, ∃ b ∈ q, t.2 = Qat a.2 b.2 := by
 have main : ∀ {p q : List Tm}, t ∈ Qht p q -> ∃ a ∈ p, ∃ b ∈ q, t.2 = Qat a.2 b.2 := fun {p q} h => by
  obtain ⟨x, hx, s, hs, e⟩ := Q7v _ _ (Nat.le_refl _) h
  obtain ⟨a, ha, rfl⟩ := List.mem_map.1 hx
  obtain ⟨b, hb, e2⟩ := Qrt hs
  exact ⟨a, ha, b, hb, by rw [<- e, e2, Qdm]⟩
 unfold Qad at h
 split at h
 ·obtain ⟨a, ha, b, hb, e⟩ := main h
  exact ⟨b, hb, a, ha, by rw [e, Qdm]⟩
 ·exact main h
theorem Qnz {p : List Tm} {K E : Nat} (hp : PB K E p) (hE : E <= 1048576) (hl : p.length <= 4000) : Qba p = false := by
 have : (p.any fun t => t.2.any fun x => decide (1048576 < x)) = false := by
  rw [List.any_eq_false]; intro t ht; rw [Bool.not_eq_true, List.any_eq_false]; intro x hx
  have := (hp t ht).m.hi x hx
  simp; omega
 rw [Qba, this, Bool.or_false]
 exact decide_eq_false (by omega)
end Go.FW
namespace Go.FW
open Go
theorem Qqa {l : List Tm} (hs : Qa3 l) {a b : Tm} (ha : a ∈ l) (hb : b ∈ l) (e : a.2 = b.2) : a = b := by
 induction l with
 | nil => cases ha
 | cons c l ih =>
  rcases List.mem_cons.1 ha with h1 | h1 <;> rcases List.mem_cons.1 hb with h2 | h2
  ·rw [h1, h2]
  ·subst h1; exact absurd e.symm (Qkh (hs.1 b h2))
  ·subst h2; exact absurd e (Qkh (hs.1 a h1))
  ·exact ih hs.2 h1 h2
theorem Qjs {φ : List Int -> Rat} : ∀ {p : List Tm} {x : Tm}, Qa3 p -> x ∈ p -> (∀ t ∈ p, t ≠ x -> φ t.2 = 0) -> pev φ p = x.1 * φ x.2
 | [], x, _, hx, _ => by cases hx
 | t :: p, x, hs, hx, h => by
  have hz : ∀ {l : List Tm}, (∀ s ∈ l, φ s.2 = 0) -> pev φ l = 0 := by
   intro l
   induction l with
   | nil => intro _; rfl
   | cons s l ih => intro hl; rw [Qal, hl s (by simp), ih (fun y hy => hl y (by simp [hy]))]; grind
  by_cases htx : t = x
  ·subst htx
   rw [Qal, hz (fun s hs' => h s (by simp [hs']) (fun e => Qkh (hs.1 s hs') (by rw [e])))]; grind
  ·have hx' : x ∈ p := by
    rcases List.mem_cons.1 hx with h1 | h1
    ·exact absurd h1.symm htx
    ·exact h1
   rw [Qal, h t (by simp) htx, Qjs hs.2 hx' (fun s hs' => h s (by simp [hs']))]; grind
end Go.FW
namespace Go.FW
open Go
def Qai (p : List Tm) (v : Nat) : Int := p.foldl (fun d t => max d (eN t.2 v)) (-1)
theorem Q2r {p : List Tm} {v i : Nat} (h : i < p.length) : Qai (p.take (i + 1)) v = max (Qai (p.take i) v) (eN p[i].2 v) := by
 rw [List.take_succ_eq_append_getElem h, Qai, List.foldl_append]; rfl
theorem Qgj (p : List Tm) (v : Nat) : -1 <= Qai p v /\ (∀ t ∈ p, eN t.2 v <= Qai p v) /\ (Qai p v = -1 ∨ ∃ t ∈ p, Qai p v = eN t.2 v) := Qwm v p (-1)
theorem Qhk {K E : Nat} {p : List Tm} (hp : PB K E p) (h0 : p ≠ []) (v : Nat) : 0 <= Qai p v /\ Qai p v <= E := by
 obtain ⟨_, h2, h3⟩ := Qgj p v
 obtain ⟨t, ht⟩ := List.exists_mem_of_ne_nil p h0
 have h4 := h2 t ht
 have h5 := (hp t ht).m.eN v
 rcases h3 with h3 | ⟨s, hs, h3⟩
 ·omega
 ·have := (hp s hs).m.eN v; omega
theorem Qsw {p : List Tm} {v : Nat} {n : Int} (h : ∀ t ∈ p, eN t.2 v < n) (hn : 0 <= n) : Qai p v < n := by
 obtain ⟨_, _, h3⟩ := Qgj p v
 rcases h3 with h3 | ⟨s, hs, h3⟩
 ·omega
 ·have := h s hs; omega
def Qbl (v n : Nat) : List Int := List.replicate v 0 ++ [(n : Int)]
theorem Qll (v n i : Nat) : eN (Qbl v n) i = if i = v then (n : Int) else 0 := by
 unfold Qbl
 by_cases h : i < v
 ·rw [if_neg (by omega), Qc7 (by simp; omega), List.getElem_append_left (by simpa using h), List.getElem_replicate]
 ·by_cases h2 : i = v
  ·subst h2
   rw [if_pos rfl, Qc7 (by simp), List.getElem_append_right (by simp)]
   simp
  ·rw [if_neg h2, Qck (by simp; omega)]
theorem Qkk {v n : Nat} (h : 0 < n) : (Qbl v n).getLast? ≠ some 0 := by
 unfold Qbl
 rw [List.getLast?_append]
 simp
 omega
theorem Qsx {v n : Nat} (hv : v < 64) : MB n (Qbl v n) := by
 refine ⟨by simp [Qbl]; omega, fun x hx => ?_, fun x hx => ?_⟩
 all_goals
  simp only [Qbl, List.mem_append, List.mem_replicate, List.mem_singleton] at hx
  omega
def Qdu (p : List Tm) (v n : Nat) : List Tm := if n = 0 then p else Qad p [(1, Qbl v n)]
theorem Q7w {v n : Nat} (h : 0 < n) : Nrm [((1 : Rat), Qbl v n)] := Nrm.one (show (1 : Rat) ≠ 0 by decide) (Qkk h)
theorem Qf0 {p : List Tm} (hp : Nrm p) (v n : Nat) : Nrm (Qdu p v n) := by
 unfold Qdu
 split
 ·exact hp
 ·exact Qau hp.s (Q7w (by omega)).s
theorem Qz1 {p : List Tm} (hp : Can p) (v n : Nat) (φ : List Int -> Rat) : pev φ (Qdu p v n) = pev (fun m => φ (Qat m (Qbl v n))) p := by
 unfold Qdu
 split
 ·rename_i h
  subst h
  refine Qb1 fun t ht => ?_
  congr 1
  refine Qds (hp t ht) (Qcy _ _) fun i => ?_
  rw [Qch, Qll]; split <;> simp
 ·rw [Qcv]
  refine Qb1 fun t ht => ?_
  rw [Qal, Qb7, Rat.one_mul, Rat.add_zero]
theorem Qn0 {φ : List Int -> Rat} {v n : Nat} (h : ∀ m, eN m v ≠ n -> φ m = 0) : ∀ {p : List Tm}, Can p -> pev φ p = pev (fun m => φ (Qat m (Qbl v n))) (Q7 p v n)
 | [], _ => rfl
 | t :: p, hp => by
  have ih := Qn0 h (Can.cons.1 hp).2
  by_cases ht : eN t.2 v = n
  ·have e : Q7 (t :: p) v n = (t.1, Qb0 t.2 v) :: Q7 p v n := by rw [Q7, List.filterMap_cons, if_pos ht]; rfl
   have e2 : Qat (Qb0 t.2 v) (Qbl v n) = t.2 := Qds (Qcy _ _) (Can.cons.1 hp).1 fun i => by
    rw [Qch, Qhj, Qll]
    by_cases hi : i = v
    ·subst hi; simp [ht]
    ·simp [hi]
   rw [e, Qal, Qal, ih]
   show _ = t.1 * φ (Qat (Qb0 t.2 v) (Qbl v n)) + _
   rw [e2]
  ·have e : Q7 (t :: p) v n = Q7 p v n := by rw [Q7, List.filterMap_cons, if_neg ht]; rfl
   rw [e, Qal, h _ ht, Rat.mul_zero, Rat.zero_add, ih]
theorem Qmt {p : List Tm} {v : Nat} {n : Int} {t : Tm} (h : t ∈ Q7 p v n) : eN t.2 v = 0 := by
 obtain ⟨s, _, _, rfl⟩ := Qig h
 rw [Qhj, if_pos rfl]
def dvB (r : List Tm) (v n d : Nat) : List Tm := Qdu (Q7 r v n) v (n - d)
def dvR (r g : List Tm) (v n d : Nat) : List Tm := Qhf (Qad (Q7 g v d) r) (Qad (dvB r v n d) g)
theorem Qaco {r g : List Tm} {v n d : Nat} (hr : Nrm r) (hg : Nrm g) (hd : d <= n) {φ : List Int -> Rat} (h : ∀ m, eN m v ≠ n -> φ m = 0) : pev φ (dvR r g v n d) = 0 := by
 have hb := Qf0 (Qci hr v n) v (n - d)
 have hc := Qci hg v d
 rw [dvR, Qp8 φ (Qau hc.s hr.s).c (Qau (show Qa3 (dvB r v n d) from hb.s) hg.s), Qcv, Qcv, dvB, Qz1 (Qci hr v n).c]
 have e1 : pev (fun m => pev (fun s => φ (Qat m s)) r) (Q7 g v d) = pev (fun m => pev (fun s => φ (Qat m (Qat s (Qbl v n)))) (Q7 r v n)) (Q7 g v d) := by
  refine Qb1 fun t ht => ?_
  refine Qn0 (φ := fun s => φ (Qat t.2 s)) (fun m hm => h _ ?_) hr.c
  rw [Qch, Qmt ht, Int.zero_add]; exact hm
 have e2 : pev (fun m => pev (fun n_1 => φ (Qat (Qat m (Qbl v (n - d))) n_1)) g) (Q7 r v n) = pev (fun m => pev (fun a => φ (Qat (Qat m (Qbl v (n - d))) (Qat a (Qbl v d)))) (Q7 g v d)) (Q7 r v n) := by
  refine Qb1 fun t ht => ?_
  refine Qn0 (φ := fun s => φ (Qat (Qat t.2 (Qbl v (n - d))) s)) (fun m hm => h _ ?_) hg.c
  rw [Qch, Qch, Qmt ht, Qll, if_pos rfl]
  omega
 rw [e1, e2, Qmq]
 have e3 : ∀ s a : List Int, Qat a (Qat s (Qbl v n)) = Qat (Qat s (Qbl v (n - d))) (Qat a (Qbl v d)) := fun s a => Qds (Qcy _ _) (Qcy _ _) fun i => by
  simp only [Qch, Qll]; split <;> omega
 simp only [e3]
 exact Rat.sub_self
theorem Qz2 {p : List Tm} {v n : Nat} {t : Tm} (h : t ∈ Qdu p v n) : ∃ s ∈ p, ∀ i, eN t.2 i = eN s.2 i + if i = v then (n : Int) else 0 := by
 unfold Qdu at h
 split at h
 ·rename_i h0; subst h0; exact ⟨t, h, fun i => by split <;> simp⟩
 ·obtain ⟨s, hs, b, hb, e⟩ := Qjr h
  simp only [List.mem_singleton] at hb
  subst hb
  exact ⟨s, hs, fun i => by rw [e, Qch, Qll]⟩
theorem Qwn {p q : List Tm} {t : Tm} (hq : Can q) (h : t ∈ Qhf p q) : (∃ s ∈ p, s.2 = t.2) ∨ (∃ s ∈ q, s.2 = t.2) := by
 rcases Qhh h with h | ⟨s, hs, h⟩
 ·exact .inl h
 ·right
  rw [Qmf, Qc1, if_neg (by decide)] at hs
  obtain ⟨u, hu, e⟩ := Qrt hs
  exact ⟨u, hu, by rw [<- h, e]; exact (Qp4 (hq u hu)).symm⟩
theorem Qag0 {r g : List Tm} {v n d : Nat} (hr : Nrm r) (hg : Nrm g) (hd : d <= n) (hn : ∀ t ∈ r, eN t.2 v <= n) (hgd : ∀ t ∈ g, eN t.2 v <= d) : ∀ t ∈ dvR r g v n d, eN t.2 v < n := by
 intro t ht
 have hb := Qf0 (Qci hr v n) v (n - d)
 have hc := Qci hg v d
 have hR : Nrm (dvR r g v n d) := Qjq (Qau hc.s hr.s) (Qau (show Qa3 (dvB r v n d) from hb.s) hg.s)
 have hle : eN t.2 v <= n := by
  rcases Qwn (Qau (show Qa3 (dvB r v n d) from hb.s) hg.s).c ht with ⟨s, hs, e⟩ | ⟨s, hs, e⟩
  ·obtain ⟨a, ha, b, hb', e2⟩ := Qjr hs
   rw [<- e, e2, Qch, Qmt ha]
   have := hn b hb'; omega
  ·obtain ⟨a, ha, b, hb', e2⟩ := Qjr hs
   obtain ⟨u, hu, e3⟩ := Qz2 (show a ∈ Qdu (Q7 r v n) v (n - d) from ha)
   rw [<- e, e2, Qch, e3, Qmt hu, if_pos rfl]
   have := hgd b hb'; omega
 rcases Int.lt_or_eq_of_le hle with h | h
 ·exact h
 ·exfalso
  have h1 := Qaco hr hg hd (φ := fun m => if m = t.2 then 1 else 0) (fun m hm => by
   rw [if_neg]; rintro rfl; exact hm h)
  have h2 := Qjs (φ := fun m => if m = t.2 then 1 else 0) hR.s ht (fun s hs hne => by
   rw [if_neg]; intro e; exact hne (Qqa hR.s hs ht e))
  rw [h1] at h2
  simp only [if_true, Rat.mul_one] at h2
  exact hR.z t ht h2.symm
def dvQ (q r g : List Tm) (v n d : Nat) : List Tm := Q3 (Qad (Q7 g v d) q) (dvB r v n d)
def Qem (g : List Tm) (v d : Nat) : Nat -> List Tm -> List Tm -> Nat -> PV
 | 0, q, r, k => .tup [PV.poly q, PV.poly r, .int .i64 k, .int .i64 0]
 | f + 1, q, r, k =>
  if r = [] ∨ Qai r v < d then .tup [PV.poly q, PV.poly r, .int .i64 k, .int .i64 0]
  else if Qba (dvQ q r g v (Qai r v).toNat d) = true ∨ Qba (dvR r g v (Qai r v).toNat d) = true then .tup [PV.poly [], PV.poly [], .int .i64 0, .int .i64 4]
  else Qem g v d f (dvQ q r g v (Qai r v).toNat d) (dvR r g v (Qai r v).toNat d) (k + 1)
theorem Qacp {q r g : List Tm} {v n d : Nat} (hq : Nrm q) (hr : Nrm r) (hg : Nrm g) : Nrm (dvQ q r g v n d) := Qdt (Qau (Qci hg v d).s hq.s) (Qf0 (Qci hr v n) v (n - d))
theorem Qacq {r g : List Tm} {v n d : Nat} (hr : Nrm r) (hg : Nrm g) : Nrm (dvR r g v n d) :=
 Qjq (Qau (Qci hg v d).s hr.s) (Qau (show Qa3 (dvB r v n d) from (Qf0 (Qci hr v n) v (n - d)).s) hg.s)
theorem Q2s {r g : List Tm} {v d K E : Nat} (hr : Nrm r) (hg : Nrm g) (hrb : PB K E r) (h0 : r ≠ []) (hd : Qai g v = d) (hle : (d : Int) <= Qai r v) : Qai (dvR r g v (Qai r v).toNat d) v < Qai r v := by
 obtain ⟨h1, h2⟩ := Qhk hrb h0 v
 have e : (((Qai r v).toNat : Nat) : Int) = Qai r v := by omega
 have h3 := Qag0 (v := v) (n := (Qai r v).toNat) (d := d) hr hg (by omega) (fun t ht => by rw [e]; exact (Qgj r v).2.1 t ht) (fun t ht => by rw [<- hd]; exact (Qgj g v).2.1 t ht)
 exact Qsw (fun t ht => by have := h3 t ht; omega) h1
end Go.FW
namespace Go.FW
open Go
variable {C : Ctx} {fr : Fr} {hp : HP} {R : Qh}
theorem Q7x {sk : List It} {x : SC} (s : Nat) (hd : (Q4 hp (fr s)).isData = true) (h : vc C R (.c (.loop x) :: sk) (upd fr s (Q4 hp (fr s))) (FW.Qan hp (fr s).refs)) : vc C R (.c (.loop x) :: sk) fr hp := by
 rw [Qd6] at h ⊢
 obtain ⟨I, μ, ⟨fr0, hp0, h1, h1'⟩, h2⟩ := h
 exact ⟨I, μ, ⟨fr0, hp0, (Qyb s hd).trans h1, h1'⟩, h2⟩
end Go.FW
