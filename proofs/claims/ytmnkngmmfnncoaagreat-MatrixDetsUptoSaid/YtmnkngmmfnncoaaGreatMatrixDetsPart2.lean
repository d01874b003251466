/- Part 2 of the proof of MatrixDets: FwO, FwP, FwQ, FwR, FwS, FwT, FwU, FwV, FwW, FwX, FwY, FwZ, FwBA, FwBB, FwBC, FwBD, FwBE, FwBF, FwBG, FwBH, FwCA, FwCB, FwCC, FwCD, FwCE, FwCF, FwCG, FwCH, FwCI, FwCJ, FwCK, FwCL, FwMA, FwMB, FwMC, FwPA, FwPB, FwPC, FwSA, FwSB, FwSC, FwTA, FwSet. Own lemmas; no conditions. -/
import Derived.Test.YtmnkngmmfnncoaaGreatMatrixDetsPart1
import Derived.Deep.RegionHeld3
import Derived.LoopN
import Derived.ChangeSame
import Derived.ChangeStays
import Derived.Deep.Slices
import Derived.OpenShut
import Derived.RowKit
import Derived.ProofKit
import Derived.JoinedCond
set_option linter.unusedSimpArgs false
set_option linter.unnecessarySimpa false
set_option linter.unusedVariables false
namespace Go.FW
open Go
section
variable {P : Program} {ops : Array Oper} {Q : Exit -> Act -> World -> Prop}
def Qji (P : Program) (ops : Array Oper) (Q : Exit -> Act -> World -> Prop) (brk : Nat -> Bool) : Nat -> Array Bool -> Act -> World -> Prop
 | 0, listed, a, w => Region.ready .any ops listed = [] /\ Q .normal a w
 | fuel + 1, listed, a, w =>
  (Region.ready .any ops listed = [] -> Q .normal a w) /\
  ∀ i ∈ Region.ready .any ops listed, wpOp P ops Q i (fun a' w' => (brk i = false -> Ext Qbh w w') /\ Qji P ops Q brk fuel (listed.setIfInBounds i true) a' w') a w
theorem Qlv (brk : Nat -> Bool) : ∀ (fuel : Nat) (listed : Array Bool) (a : Act) (w : World), Qji P ops Q brk fuel listed a w -> wpAny P .any ops Q fuel listed a w
 | 0, _, _, _, h => h
 | fuel + 1, _, _, _, h => ⟨h.1, fun i hi => wpOp_mono (fun a' w' h' => Qlv brk fuel _ a' w' h'.2) (h.2 i hi)⟩
def YF (P : Program) (ops : Array Oper) (all : Bool) (o : Oper) (v : Value) (a : Act) (w : World) : Prop :=
 (Region.wanted o (yielded ops a.tmps) = true /\ ∀ w', (all = true ∨ Ext Qbh w w') -> (execOp a.eval o).run P w' = .ok (.value v) w') ∨
 (Region.wanted o (yielded ops a.tmps) = false /\ v = undef)
theorem YF.step {all : Bool} {o : Oper} {v : Value} {a a' : Act} {w w' : World} (hy : YF P ops all o v a w) (he : execOp a'.eval o = execOp a.eval o)
  (hw : Region.wanted o (yielded ops a'.tmps) = Region.wanted o (yielded ops a.tmps)) (hx : all = true ∨ Ext Qbh w w') : YF P ops all o v a' w' := by
 unfold YF at *
 rw [he, hw]
 rcases hy with ⟨h1, h2⟩ | h
 ·refine .inl ⟨h1, fun w2 h3 => h2 w2 ?_⟩
  rcases hx with hx | hx
  ·exact .inl hx
  ·rcases h3 with h3 | h3
   ·exact .inl h3
   ·exact .inr (hx.trans h3)
 ·exact .inr h
theorem YF.wpOp {all : Bool} {i : Nat} {o : Oper} {v : Value} {a : Act} {w : World} (hi : ops[i]? = some o) (hy : YF P ops all o v a w)
  {K : Act -> World -> Prop} (h : K (a.put o.dst v) w) : Go.wpOp P ops Q i K a w := by
 unfold Go.wpOp
 simp only [hi]
 rcases hy with ⟨hw, hv⟩ | ⟨hw, rfl⟩
 ·simp only [hw, if_true, Oper.wp, hv w (.inr (Ext.refl _ _)), Oper.upon]; exact .inl h
 ·simp only [hw, Bool.false_eq_true, if_false]; exact h
theorem Q0i {j : Nat} {oi oj : Oper} {v : Value} (hj : ops[j]? = some oj) (hap : oi.apart ops oj = true)
  (hsi : ∀ cs b, oi.op ≠ .select cs b) (hsj : ∀ cs b, oj.op ≠ .select cs b)
  (hQ : ∀ c a w, Q (.panic c) (a.put oi.dst v) w -> Q (.panic c) a w) {K : Act -> World -> Prop} {a : Act} {w : World}
  (h : Go.wpOp P ops Q j K (a.put oi.dst v) w) :
  Go.wpOp P ops Q j (fun a' w' => (execOp a'.eval oi = execOp a.eval oi /\ Region.wanted oi (yielded ops a'.tmps) = Region.wanted oi (yielded ops a.tmps)) /\ K (a'.put oi.dst v) w') a w := by
 obtain ⟨h1, h2, h3⟩ := Oper.apart_spec hap
 have keep : ∀ u, execOp (a.put oj.dst u).eval oi = execOp a.eval oi /\ Region.wanted oi (yielded ops (a.put oj.dst u).tmps) = Region.wanted oi (yielded ops a.tmps) := fun u =>
  ⟨execOp_put oi hsi a oj.dst u h3, wanted_put oi a oj.dst u h3⟩
 have keepD : ∀ d u, execOp (({ a with defers := d :: a.defers } : Act).put oj.dst u).eval oi = execOp a.eval oi /\ Region.wanted oi (yielded ops (({ a with defers := d :: a.defers } : Act).put oj.dst u).tmps) = Region.wanted oi (yielded ops a.tmps) := fun d u =>
  ⟨(execOp_put oi hsi ({ a with defers := d :: a.defers } : Act) oj.dst u h3).trans rfl, (wanted_put oi ({ a with defers := d :: a.defers } : Act) oj.dst u h3).trans rfl⟩
 unfold Go.wpOp at *
 simp only [hj] at *
 rw [wanted_put oj a oi.dst v h1] at h
 split
 ·rename_i hw
  simp only [hw, if_true] at h
  rcases h with h | ⟨hasks, hlets⟩
  case inr => exact .inr ⟨by unfold Oper.asks at *; rw [execOp_put oj hsj a oi.dst v h1] at hasks; exact hasks, hlets⟩
  refine .inl ?_
  unfold Oper.wp at *
  rw [execOp_put oj hsj a oi.dst v h1] at h
  generalize (execOp a.eval oj).run P w = r at *
  cases r with
  | ok n w' =>
   cases n <;> simp only [Oper.upon] at h ⊢
   case value u => exact ⟨keep u, by rw [<- Act.put_comm a v u h2]; exact h⟩
   case skip => exact ⟨keep _, by rw [<- Act.put_comm a v undef h2]; exact h⟩
   case defer d =>
    refine ⟨keepD d _, ?_⟩
    rw [<- Act.put_comm _ v undef h2, <- Act.put_defers]
    exact h
   case enter f args =>
    refine Calls.mono h fun e w'' he => ?_
    cases e with
    | returned u => exact ⟨keep u, by rw [<- Act.put_comm a v u h2]; exact he⟩
    | panicked c => exact hQ _ _ _ he
    | outgrown => exact he
   case row row args => exact Rows.mono h fun u w'' he => ⟨keep u, by rw [<- Act.put_comm a v u h2]; exact he⟩
  | halt x w' =>
   cases x <;> simp only [Oper.upon] at h ⊢
   case panic u => exact hQ _ _ _ h
 ·rename_i hw
  simp only [hw] at h
  exact ⟨keep _, by rw [<- Act.put_comm a v undef h2]; exact h⟩
def Qjj (ops : Array Oper) (listed : Array Bool) : Prop := ∀ (j : Nat) (o : Oper), ops[j]? = some o -> listed.getD j false = true -> ∀ e ∈ o.after, Region.binds .any e = true -> listed.getD e.on false = true
theorem Qjj.step {listed : Array Bool} {i : Nat} (h : Qjj ops listed) (hi : i ∈ Region.ready .any ops listed) : Qjj ops (listed.setIfInBounds i true) := by
 intro j o hj hl e he hb
 obtain ⟨h0, oi, hoi, hall⟩ := mem_ready.1 hi
 by_cases hij : i = j
 ·subst hij
  rw [hj] at hoi; cases hoi
  exact getD_set_true (hall e he hb)
 ·rw [getD_set_ne false hij] at hl
  exact getD_set_true (h j o hj hl e he hb)
theorem Qj1 {listed : Array Bool} {i : Nat} (hd : Qjj ops listed) : ∀ (n k : Nat), listed.getD k false = true -> Qej ops n i k = true -> listed.getD i false = true
 | 0, _, _, h => by simp [Qej] at h
 | n + 1, k, hk, h => by
  unfold Qej at h
  cases ho : ops[k]? with
  | none => simp [ho] at h
  | some o =>
   simp only [ho, List.any_eq_true, Bool.and_eq_true, Bool.or_eq_true, beq_iff_eq] at h
   obtain ⟨e, he, hb, h⟩ := h
   have hl := hd k o ho hk e (by simpa using he) hb
   rcases h with h | h
   ·rw [<- h]; exact hl
   ·exact Qj1 hd n e.on hl h
theorem Qrg {listed : Array Bool} {i j n : Nat} (hd : Qjj ops listed) (hj : j ∈ Region.ready .any ops listed) (h : Qej ops n i j = true) : listed.getD i false = true := by
 obtain ⟨_, o, ho, hall⟩ := mem_ready.1 hj
 cases n with
 | zero => simp [Qej] at h
 | succ n =>
  unfold Qej at h
  simp only [ho, List.any_eq_true, Bool.and_eq_true, Bool.or_eq_true, beq_iff_eq] at h
  obtain ⟨e, he, hb, h⟩ := h
  have hl := hall e (by simpa using he) hb
  rcases h with h | h
  ·rw [<- h]; exact hl
  ·exact Qj1 hd n e.on hl h
theorem Q0j {listed : Array Bool} {i : Nat} (h0 : listed.getD i true = false) : ¬ listed.getD i false = true := by
 intro h1
 rcases Nat.lt_or_ge i listed.size with h' | h'
 ·simp [h'] at h0 h1; rw [h0] at h1; cases h1
 ·simp [Array.getElem?_eq_none h'] at h1
theorem Qt7 {brk : Nat -> Bool} {all : Bool} {i : Nat} {oi : Oper} {v : Value} (hi : ops[i]? = some oi) (hsel : ∀ (j : Nat) (o : Oper) cs b, ops[j]? = some o -> o.op ≠ .select cs b)
  (hQ : ∀ c a w, Q (.panic c) (a.put oi.dst v) w -> Q (.panic c) a w)
  (hpre : all = true ∨ ∀ j, brk j = true -> j < ops.size -> Qej ops ops.size i j = true ∨ j = i) :
  ∀ (fuel : Nat) (listed : Array Bool) (a : Act) (w : World), Qjj ops listed ->
   (∀ j oj, ops[j]? = some oj -> j ≠ i -> listed.getD j true = false -> (∀ e ∈ oj.after, Region.binds .any e = true -> e.on ≠ i) -> oi.apart ops oj = true) ->
   i ∈ Region.ready .any ops listed -> YF P ops all oi v a w ->
   Qji P ops Q brk fuel (listed.setIfInBounds i true) (a.put oi.dst v) w -> Qji P ops Q brk (fuel + 1) listed a w := by
 intro fuel
 induction fuel with
 | zero =>
  intro listed a w _ _ hr hy H
  refine ⟨fun h => (by rw [h] at hr; cases hr), fun j hj => ?_⟩
  by_cases hji : j = i
  ·subst hji; exact hy.wpOp hi ⟨fun _ => Ext.refl _ _, H⟩
  ·have := ready_mono hj hji
   rw [H.1] at this
   cases this
 | succ fuel ih =>
  intro listed a w hdown hfree hr hy H
  refine ⟨fun h => (by rw [h] at hr; cases hr), fun j hj => ?_⟩
  by_cases hji : j = i
  ·subst hji; exact hy.wpOp hi ⟨fun _ => Ext.refl _ _, H⟩
  ·have h1 := H.2 j (ready_mono hj hji)
   obtain ⟨hjun, oj, hoj, hall⟩ := mem_ready.1 hj
   have hiun : ¬ listed.getD i false = true := Q0j (mem_ready.1 hr).1
   have hnot : ∀ e ∈ oj.after, Region.binds .any e = true -> e.on ≠ i := fun e he hb heq => hiun (heq ▸ hall e he hb)
   have h2 := Q0i hoj (hfree j oj hoj hji hjun hnot) (fun cs b => hsel i oi cs b hi) (fun cs b => hsel j oj cs b hoj) hQ h1
   have hbrk : all = true ∨ brk j = false := by
    rcases hpre with h | h
    ·exact .inl h
    ·cases hb : brk j with
     | false => exact .inr rfl
     | true =>
      have hjlt : j < ops.size := (Array.getElem?_eq_some_iff.1 hoj).1
      rcases h j hb hjlt with h | h
      ·exact absurd (Qrg hdown hj h) hiun
      ·exact absurd h hji
   have hfree' : ∀ k ok, ops[k]? = some ok -> k ≠ i -> (listed.setIfInBounds j true).getD k true = false ->
     (∀ e ∈ ok.after, Region.binds .any e = true -> e.on ≠ i) -> oi.apart ops ok = true := fun k ok hk hki hun hno => by
    refine hfree k ok hk hki ?_ hno
    by_cases hjk : j = k
    ·subst hjk; exact hjun
    ·rw [getD_set_ne true hjk] at hun; exact hun
   refine wpOp_mono (fun a' w' h3 => ?_) h2
   obtain ⟨⟨he, hw⟩, hx, hrest⟩ := h3
   refine ⟨hx, ih (listed.setIfInBounds j true) a' w' (hdown.step hj) hfree' (ready_mono hr (Ne.symm hji)) (hy.step he hw ?_) ?_⟩
   ·rcases hbrk with h | h
    ·exact .inl h
    ·exact .inr (hx h)
   ·rw [Array.setIfInBounds_comm _ _ hji]
    exact hrest
end
section
variable {C : Ctx} {ρ : Nat -> Option Nat} {fr : Fr} {hp : HP} {w : World} {a : Act} {K : Qf}
theorem Qnd {dr : Bool} {o : Oper} (hlt : ∀ d, o.dst = some d -> d < C.N) (h : Q3 C ρ fr hp a.tmps w) (hv : Qdp (Qas C.P dr o) fr hp K) : ∃ fr' hp', Q3 C ρ fr' hp' (a.put o.dst undef).tmps w /\ K fr' hp' := by
 unfold Qdp at hv
 rw [Q0h] at hv
 cases hd : o.dst with
 | some d => rw [hd] at hv; exact ⟨_, hp, h.upd Qk.tup0 (hlt d hd), hv⟩
 | none => rw [hd] at hv; exact ⟨fr, hp, h, hv⟩
theorem Qaci {P : Program} {dr : Bool} {o : Oper} : (Qas P dr o).cls = (Qas P true o).cls := by
 cases dr with
 | true => rfl
 | false =>
  have h0 : (Qb6 P false o).map SOp.cls = (Qb6 P true o).map SOp.cls := by
   unfold Qb6
   split <;> first | rfl | skip
   split <;> first | rfl | skip
   rename_i f _
   cases h1 : opd f with
   | none => simp
   | some pf =>
    simp only [Option.bind_some, Option.map_map]
    congr 1
  unfold Qas
  cases h1 : Qb6 P false o <;> cases h2 : Qb6 P true o <;> simp_all [SOp.cls]
theorem Qne {dr : Bool} {R : Qf} {sk : List It} {ops : Array Oper} {Q : Exit -> Act -> World -> Prop} (hns : Region.noSelect ops = true) (hQ : Qyg C (vc C R sk) Q) : ∀ (n : Nat) (listed : Array Bool) (r : RT) (fr : Fr) (hp : HP) (a : Act) (w : World),
  Qfm C.P C.N dr ops n listed = some r.strip -> Qjj ops listed -> a.defers = [] -> Sim C fr hp a.tmps w -> vc C R (.o r :: sk) fr hp ->
  Qji C.P ops (NoPanic Q) (Qnz C.P dr ops) n listed a w := by
 intro n
 have done : ∀ (n : Nat) (listed : Array Bool) (r : RT) (fr : Fr) (hp : HP) (a : Act) (w : World), Region.ready .any ops listed = [] -> a.defers = [] -> Sim C fr hp a.tmps w -> r.strip = .nil -> vc C R (.o r :: sk) fr hp -> Qji C.P ops (NoPanic Q) (Qnz C.P dr ops) n listed a w := by
  intro n listed r fr hp a w hr hdef hs hr0 hv
  obtain ⟨r', fr, hp, h1, h2, hs, hv⟩ := Qiw r fr hp hs hv
  obtain rfl := Qsb (h1.trans hr0) h2
  rw [Qnc] at hv
  have hq : NoPanic Q .normal a w := hQ fr hp a w hdef hs hv
  cases n with
  | zero => exact ⟨hr, hq⟩
  | succ n => exact ⟨fun _ => hq, by rw [hr]; simp⟩
 induction n with
 | zero =>
  intro listed r fr hp a w ho hd hdef hs hv
  unfold Qfm at ho
  split at ho
  ·rename_i hr
   exact done 0 listed r fr hp a w (by simpa using hr) hdef hs (Option.some.inj ho).symm hv
  ·cases ho
 | succ n ih =>
  intro listed r fr hp a w ho hd hdef hs hv
  unfold Qfm at ho
  split at ho
  ·rename_i hr
   exact done (n + 1) listed r fr hp a w (by simpa using hr) hdef hs (Option.some.inj ho).symm hv
  ·rename_i hr
   obtain ⟨r', fr, hp, e1, e2, hs, hv⟩ := Qiw r fr hp hs hv
   rw [<- e1] at ho
   split at ho
   ·rename_i i hfind
    have hstep := List.find?_some hfind
    simp only [Option.bind_eq_some_iff, Option.map_eq_some_iff] at ho
    obtain ⟨g, ⟨o, hoi, hcg⟩, r0, hr', he0⟩ := ho
    obtain ⟨r', rfl, rfl⟩ := Qrf he0.symm e2
    unfold Qtr at hstep
    simp only [Bool.and_eq_true, List.contains_iff_mem] at hstep
    obtain ⟨⟨hready, hfree⟩, hcls⟩ := hstep
    have hca : Qjw C.P ops i = (Qas C.P dr o).cls := by rw [Qaci]; simp [Qjw, hoi]
    rw [Qp3] at hv
    obtain ⟨ρ, hsr⟩ := hs
    obtain ⟨hlt, hgo, hcase⟩ := Qop hsr hcg hv
    rw [hgo] at hcase
    have hpre : ∀ all : Bool, (all = false -> Qjw C.P ops i = 1) -> all = true ∨ ∀ j, Qnz C.P dr ops j = true -> j < ops.size -> Qej ops ops.size i j = true ∨ j = i := by
     intro all hall
     cases all with
     | true => exact .inl rfl
     | false =>
      refine .inr fun j hj hjl => ?_
      rw [hall rfl] at hcls
      have := List.all_eq_true.1 hcls j (by simpa using hjl)
      simp only [Bool.or_eq_true, Bool.not_eq_true'] at this
      rcases this with h | h
      ·rw [hj] at h; cases h
      ·exact .inl h
    have fin : ∀ (all : Bool) (v : Value), (all = false -> Qjw C.P ops i = 1) -> YF C.P ops all o v a w -> (∃ fr' hp', Q3 C ρ fr' hp' (a.put o.dst v).tmps w /\ vc C R (.o r' :: sk) fr' hp') -> Qji C.P ops (NoPanic Q) (Qnz C.P dr ops) (n + 1) listed a w := by
     intro all v hall hy ⟨fr', hp', hs', hv'⟩
     exact Qt7 hoi (Region.noSelect_spec hns) (fun _ _ _ h => h) (hpre all hall) n listed a w hd (Region.free_spec hoi hfree) hready hy
      (ih _ r' fr' hp' _ w hr' (hd.step hready) (by rw [Qem]; exact hdef) ⟨ρ, hs'⟩ hv')
    rcases hcase with ⟨hw, hv⟩ | ⟨hw, hv⟩
    ·by_cases h0 : Qjw C.P ops i = 0
     ·obtain ⟨v, hrun, hrest⟩ := Qp0 (by rw [<- hca]; exact h0) hlt hsr hv
      exact fin true v (by simp) (.inl ⟨hw, fun w' _ => hrun w'⟩) hrest
     ·by_cases h1 : Qjw C.P ops i = 1
      ·obtain ⟨v, b, hb, hrun, hrest⟩ := Qp1 (by rw [<- hca]; exact h1) hlt hsr hv
       exact fin false v (fun _ => h1) (.inl ⟨hw, fun w' hw' => hrun w' (hw'.elim (fun h => by cases h) (fun h => h.block b hb (fun h => h)))⟩) hrest
      ·split at hcls
       ·rename_i h; exact absurd h h0
       ·rename_i h; exact absurd h h1
       ·cases hcls
    ·by_cases h1 : Qjw C.P ops i = 1
     ·exact fin false undef (fun _ => h1) (.inr ⟨hw, rfl⟩) (Qnd hlt hsr hv)
     ·exact fin true undef (by simp) (.inr ⟨hw, rfl⟩) (Qnd hlt hsr hv)
   ·
    simp only [Option.map_eq_some_iff] at ho
    obtain ⟨rs, hrs, he0⟩ := ho
    obtain ⟨m1, m2⟩ := Qc5 hrs
    have hbr : ∀ (rs : List RT) (r' : RT) (fr : Fr) (hp : HP), r'.strip = brs rs -> Sim C fr hp a.tmps w -> vc C R (.o r' :: sk) fr hp -> ∀ r ∈ rs, ∃ r2 fr2 hp2, r2.strip = r /\ (∀ x, r2 ≠ .wk x) /\ Sim C fr2 hp2 a.tmps w /\ vc C R (.o r2 :: sk) fr2 hp2 := by
     intro rs
     induction rs with
     | nil => intro _ _ _ _ _ _ r hr; cases hr
     | cons x xs ihx =>
      intro r' fr hp hr' hs hv r hr
      obtain ⟨r2, fr2, hp2, f1, f2, hs, hv⟩ := Qiw r' fr hp hs hv
      cases xs with
      | nil => simp at hr; subst hr; exact ⟨r2, fr2, hp2, f1.trans hr', f2, hs, hv⟩
      | cons y ys =>
       rw [brs] at hr'
       ·obtain ⟨a', b', rfl, g1, g2⟩ := Q3v (f1.trans hr') f2
        rw [Q8b] at hv
        rcases List.mem_cons.1 hr with rfl | hr
        ·obtain ⟨r3, fr3, hp3, k1, k2, k3, k4⟩ := Qiw a' fr2 hp2 hs hv.1
         exact ⟨r3, fr3, hp3, k1.trans g1, k2, k3, k4⟩
        ·exact ihx b' fr2 hp2 g2 hs hv.2 r hr
       ·simp
    refine ⟨fun h0 => absurd (by rw [h0]; rfl) hr, fun i hi => ?_⟩
    obtain ⟨k, hk⟩ := List.getElem?_of_mem hi
    have hkl : k < rs.length := by rw [m1]; exact (List.getElem?_eq_some_iff.1 hk).1
    obtain ⟨i', hi', hf⟩ := m2 k _ (List.getElem?_eq_getElem hkl)
    rw [hk] at hi'; cases hi'
    simp only [Option.bind_eq_some_iff, Option.map_eq_some_iff] at hf
    obtain ⟨g, ⟨o, hoi, hcg⟩, r0, hr', he⟩ := hf
    obtain ⟨r2, fr2, hp2, f1, f2, hs, hv'⟩ := hbr rs r' fr hp he0.symm hs hv _ (List.getElem_mem hkl)
    obtain ⟨r', rfl, rfl⟩ := Qrf (f1.trans he.symm) f2
    rw [Qp3] at hv'
    obtain ⟨ρ, hsr⟩ := hs
    refine wpOp_mono (fun a' w' hA => ?_) (Qp2 hoi hdef hsr hcg hv')
    obtain ⟨hd', ⟨fr', hp', hs', hv2⟩, hx⟩ := hA
    refine ⟨fun hb => hx ?_, ih _ r' fr' hp' a' w' hr' (hd.step hi) hd' hs' hv2⟩
    simpa [Qnz, hoi] using hb
theorem Sim.drew {tmps : Array Value} (h : Sim C fr hp tmps w) : Sim C fr hp tmps { w with drawn := w.drawn + 1 } := by
 obtain ⟨ρ, hs⟩ := h
 exact ⟨ρ, hs.grow (Ext.drew w _)⟩
theorem Qjj.start (ops : Array Oper) : Qjj ops (Array.replicate ops.size false) := by
 intro j o _ hl
 exfalso
 simp [Array.getD] at hl
theorem Qpc {s : SC} {r : RT} (h : s.strip = .rg r) : ∃ r', s = .rg r' /\ r'.strip = r := by
 cases s with
 | rg r' => simp only [SC.strip, SC.rg.injEq] at h; exact ⟨r', rfl, h⟩
 | _ => simp [SC.strip] at h
theorem Qt8 {R : Qf} {sk : List It} {ops : Array Oper} {draw : Bool} {id : Nat} {s : SC} {Q : Exit -> Act -> World -> Prop} (hm : C.P.follows .mixedOrders = true) (hQ : Qyg C (vc C R sk) Q)
  (hc : Qja C.P C.N ops draw = some s.strip) (hdef : a.defers = []) (hs : Sim C fr hp a.tmps w) (hv : vc C R (.c s :: sk) fr hp) : (Code.region id ops draw).wp C.P Q a w := by
 unfold Qja at hc
 split at hc
 ·rename_i hd
  subst hd
  split at hc
  ·rename_i hns
   have key : ∀ (dr : Bool) (most : Nat) (s : SC), Qi9 C.P C.N ops dr most = some s.strip -> vc C R (.c s :: sk) fr hp -> (Code.region id ops true).wp C.P Q a w := by
    intro dr most s hc hv
    unfold Qi9 at hc
    split at hc
    ·rename_i r0 hr
     split at hc
     ·obtain ⟨r, rfl, rfl⟩ := Qpc (Option.some.inj hc).symm
      rw [vc] at hv
      exact wp_region_noPanic (wp_region_any hm (Qlv _ _ _ _ _ (Qne hns hQ _ _ r fr hp a _ hr (Qjj.start ops) hdef hs.drew hv)))
     ·cases hc
    ·cases hc
   split at hc
   ·rename_i s' hs'
    cases hc
    split at hs'
    ·simp only [Option.map_eq_some_iff] at hs'
     obtain ⟨r0, hr, he⟩ := hs'
     obtain ⟨r, rfl, rfl⟩ := Qpc he.symm
     rw [vc] at hv
     exact wp_region_noPanic (wp_region_any hm (Qlv _ _ _ _ _ (Qne hns hQ _ _ r fr hp a _ (Qfy _ _ _ hr) (Qjj.start ops) hdef hs.drew hv)))
    ·cases hs'
   ·exact key _ _ _ hc hv
  ·cases hc
 ·rename_i hd
  have hdf : draw = false := by simpa using hd
  subst hdf
  simp only [Option.map_eq_some_iff] at hc
  obtain ⟨gs, hgs, he⟩ := hc
  obtain ⟨r, rfl, hr⟩ := Qpc he.symm
  rw [vc] at hv
  obtain ⟨m1, m2⟩ := Qc5 hgs
  refine wp_region (Qp5 hQ gs (List.range ops.size) r fr hp a w (by simp [m1]) (fun k i g hk hg => ?_) hdef hs hr hv)
  obtain ⟨o, ho, hco⟩ := m2 k g hg
  have hkl : k < ops.size := by have := (List.getElem?_eq_some_iff.1 hk).1; simpa using this
  rw [List.getElem?_range hkl] at hk
  cases hk
  exact ⟨o, by simpa using ho, hco⟩
end
end Go.FW
namespace Go.FW
open Go
variable {C : Ctx} {ρ : Nat -> Option Nat} {fr : Fr} {hp : HP} {w : World} {a : Act} {K R : Qf}
structure Link (C : Ctx) (R : Qf) (sk : List It) (Q : Exit -> Act -> World -> Prop) : Prop where
 nrm : Qyg C (vc C R sk) Q
 ext : ∀ id sk', FW.Qag id sk = some sk' -> ∀ fr hp (a : Act) w, a.defers = [] -> Sim C fr hp a.tmps w -> vc C R sk' fr hp -> Q (.exit id) a w
 ret : ∀ fr hp (a : Act) w, a.defers = [] -> Sim C fr hp a.tmps w -> R fr hp -> Q .ret a w
theorem Qp6 {sk : List It} {x y : SC} : vc C R (.c (.seq x y) :: sk) fr hp = vc C R (.c x :: .c y :: sk) fr hp := by rw [vc]
theorem Qlw {sk : List It} {id : Nat} {x : SC} : vc C R (.c (.block id x) :: sk) fr hp = vc C R (.c x :: .eb id :: sk) fr hp := by rw [vc]
theorem Qn2 {sk : List It} : vc C R (.c .skip :: sk) fr hp = vc C R sk fr hp := by rw [vc]
theorem Qyh {sk : List It} {r : RT} : vc C R (.c (.rg r) :: sk) fr hp = vc C R (.o r :: sk) fr hp := by rw [vc]
theorem Qtj {sk : List It} {id : Nat} : vc C R (.eb id :: sk) fr hp = vc C R sk fr hp := by rw [vc]
theorem Qlx {sk : List It} {J : Qf} : vc C R (.el J :: sk) fr hp = J fr hp := by rw [vc]
theorem Qp7 {sk : List It} : vc C R (.c .ret :: sk) fr hp = R fr hp := by rw [vc]
theorem Qh5 : vc C R [] fr hp = R fr hp := by rw [vc]
def Qip (c : PV) (A B : Prop) : Prop := match c with
 | .bool t => (t = true -> A) /\ (t = false -> B)
 | _ => False
theorem Qn3 {sk : List It} {c : Opd} {x y : SC} : vc C R (.c (.cond c x y) :: sk) fr hp = Qip (ev fr c) (vc C R (.c x :: sk) fr hp) (vc C R (.c y :: sk) fr hp) := by rw [vc]; rfl
def Qly (C : Ctx) (R : Qf) (sk : Option (List It)) (fr : Fr) (hp : HP) : Prop := match sk with
 | some sk => vc C R sk fr hp
 | none => False
theorem Qn4 {sk : List It} {id : Nat} : vc C R (.c (.exit id) :: sk) fr hp = Qly C R (FW.Qag id sk) fr hp := by
 rw [vc]
 unfold Qly
 split
 ·rename_i h; rw [h]
 ·rename_i h; rw [h]
theorem Qfz {sk : List It} {x : SC} : vc C R (.c (.loop x) :: sk) fr hp = ∃ (I : Qf) (μ : Fr -> HP -> Nat), (∃ fr0 hp0, Wk fr hp fr0 hp0 /\ I fr0 hp0) /\ ∀ fr hp, I fr hp -> vc C R (.c x :: .el (fun fr' hp' => ∃ fr0 hp0, Wk fr' hp' fr0 hp0 /\ I fr0 hp0 /\ μ fr0 hp0 < μ fr hp) :: sk) fr hp := by rw [vc]
theorem Wk.refl (fr : Fr) (hp : HP) : Wk fr hp fr hp := fun _ _ _ h => h
theorem Wk.trans {fr1 fr2 fr3 : Fr} {hp1 hp2 hp3 : HP} (h : Wk fr1 hp1 fr2 hp2) (k : Wk fr2 hp2 fr3 hp3) : Wk fr1 hp1 fr3 hp3 := fun C t w hs => k C t w (h C t w hs)
def Qn5 (I : Qf) (μ : Fr -> HP -> Nat) (n : Nat) : Qf := fun fr' hp' => ∃ fr0 hp0, Wk fr' hp' fr0 hp0 /\ I fr0 hp0 /\ μ fr0 hp0 < n
theorem Q3w {sk : List It} {x : SC} (I : Qf) (μ : Fr -> HP -> Nat) {fr0 : Fr} {hp0 : HP} (hw : Wk fr hp fr0 hp0) (h0 : I fr0 hp0) (h : ∀ fr hp, I fr hp -> vc C R (.c x :: .el (Qn5 I μ (μ fr hp)) :: sk) fr hp) : vc C R (.c (.loop x) :: sk) fr hp := by
 rw [Qfz]; exact ⟨I, μ, ⟨fr0, hp0, hw, h0⟩, h⟩
theorem Qyi {s : SC} (h : s.strip = .skip) : s = .skip := by cases s <;> simp [SC.strip] at h ⊢
theorem Q0k {s : SC} (h : s.strip = .ret) : s = .ret := by cases s <;> simp [SC.strip] at h ⊢
theorem Qyj {s : SC} {id : Nat} (h : s.strip = .exit id) : s = .exit id := by cases s <;> simp [SC.strip] at h ⊢; exact h
theorem Q0l {s : SC} {id : Nat} {ops : Array Oper} (h : s.strip = .raw id ops) : s = .raw id ops := by cases s <;> simp [SC.strip] at h ⊢; exact h
theorem Q0m {s a b : SC} (h : s.strip = .seq a b) : ∃ a' b', s = .seq a' b' /\ a'.strip = a /\ b'.strip = b := by cases s <;> simp [SC.strip] at h; exact ⟨_, _, rfl, h.1, h.2⟩
theorem Qyk {s a b : SC} {c : Opd} (h : s.strip = .cond c a b) : ∃ a' b', s = .cond c a' b' /\ a'.strip = a /\ b'.strip = b := by
 cases s with
 | cond c' a' b' => simp only [SC.strip, SC.cond.injEq] at h; obtain ⟨rfl, h1, h2⟩ := h; exact ⟨a', b', rfl, h1, h2⟩
 | _ => simp [SC.strip] at h
theorem Qwa {s a : SC} {id : Nat} (h : s.strip = .block id a) : ∃ a', s = .block id a' /\ a'.strip = a := by
 cases s with
 | block c' a' => simp only [SC.strip, SC.block.injEq] at h; obtain ⟨rfl, h1⟩ := h; exact ⟨a', rfl, h1⟩
 | _ => simp [SC.strip] at h
theorem Qyl {s a : SC} (h : s.strip = .loop a) : ∃ a', s = .loop a' /\ a'.strip = a := by
 cases s with
 | loop a' => simp only [SC.strip, SC.loop.injEq] at h; exact ⟨a', rfl, h⟩
 | _ => simp [SC.strip] at h
theorem Qkn (hm : C.P.follows .mixedOrders = true) : ∀ (c : Code) (s : SC) (sk : List It) (Q : Exit -> Act -> World -> Prop) (fr : Fr) (hp : HP) (a : Act) (w : World),
  Qa8 C.P C.N c = some s.strip -> Link C R sk Q -> a.defers = [] -> Sim C fr hp a.tmps w -> vc C R (.c s :: sk) fr hp -> c.wp C.P Q a w := by
 intro c
 induction c with
 | skip =>
  intro s sk Q fr hp a w hc hL hd hs hv
  simp only [Qa8, Option.some.injEq] at hc; obtain rfl := Qyi hc.symm
  rw [Qn2] at hv
  exact wp_skip (hL.nrm fr hp a w hd hs hv)
 | region id ops draw =>
  intro s sk Q fr hp a w hc hL hd hs hv
  simp only [Qa8] at hc
  split at hc
  ·rename_i s' hs'
   rw [hc] at hs'
   exact Qt8 hm hL.nrm hs' hd hs hv
  ·split at hc
   ·rename_i hdr
    obtain rfl := Q0l (Option.some.inj hc).symm
    have hdr' : draw = true := hdr
    subst hdr'
    rw [vc] at hv
    obtain ⟨tmps, defers⟩ := a
    simp only at hd hs
    subst hd
    exact hv tmps w Q hs (fun fr' hp' tmps' w' hs' hv' => hL.nrm fr' hp' _ w' rfl hs' hv')
   ·cases hc
 | seq x y ihx ihy =>
  intro s sk Q fr hp a w hc hL hd hs hv
  simp only [Qa8, Option.bind_eq_some_iff, Option.map_eq_some_iff] at hc
  obtain ⟨sx, hx, sy, hy, he⟩ := hc
  obtain ⟨sx, sy, rfl, rfl, rfl⟩ := Q0m he.symm
  rw [Qp6] at hv
  refine wp_seq (ihx sx (.c sy :: sk) _ fr hp a w hx ⟨fun fr hp a w hd hs hv => ?_, fun id sk' he fr hp a w hd hs hv => ?_, fun fr hp a w hd hs hv => ?_⟩ hd hs hv)
  ·exact ihy sy sk Q fr hp a w hy hL hd hs hv
  ·exact hL.ext id sk' (by simpa [FW.Qag] using he) fr hp a w hd hs hv
  ·exact hL.ret fr hp a w hd hs hv
 | cond c x y ihx ihy =>
  intro s sk Q fr hp a w hc hL hd hs hv
  simp only [Qa8, Option.bind_eq_some_iff, Option.map_eq_some_iff] at hc
  obtain ⟨pc, hpc, sx, hx, sy, hy, he⟩ := hc
  obtain ⟨sx, sy, rfl, rfl, rfl⟩ := Qyk he.symm
  rw [Qn3] at hv
  obtain ⟨ρ, hsr⟩ := hs
  have hr := Qap hsr hpc
  unfold Qip at hv
  split at hv
  ·rename_i t ht
   rw [ht] at hr
   exact wp_cond_split hr.bool_inv (fun h => ihx sx sk Q fr hp a w hx hL hd ⟨ρ, hsr⟩ (hv.1 h)) (fun h => ihy sy sk Q fr hp a w hy hL hd ⟨ρ, hsr⟩ (hv.2 h))
  ·exact hv.elim
 | block id x ihx =>
  intro s sk Q fr hp a w hc hL hd hs hv
  simp only [Qa8, Option.map_eq_some_iff] at hc
  obtain ⟨sx, hx, he⟩ := hc
  obtain ⟨sx, rfl, rfl⟩ := Qwa he.symm
  rw [Qlw] at hv
  refine wp_block (ihx sx (.eb id :: sk) _ fr hp a w hx ⟨fun fr hp a w hd hs hv => ?_, fun id' sk' he fr hp a w hd hs hv => ?_, fun fr hp a w hd hs hv => ?_⟩ hd hs hv)
  ·rw [Qtj] at hv; exact hL.nrm fr hp a w hd hs hv
  ·simp only [FW.Qag] at he
   simp only [Exit.inBlock]
   by_cases hi : id = id'
   ·subst hi; simp only [if_true] at he ⊢; cases he; exact hL.nrm fr hp a w hd hs hv
   ·rw [if_neg hi] at he; rw [if_neg (fun e => hi e.symm)]; exact hL.ext id' sk' he fr hp a w hd hs hv
  ·exact hL.ret fr hp a w hd hs hv
 | loop x ihx =>
  intro s sk Q fr hp a w hc hL hd hs hv
  simp only [Qa8, Option.map_eq_some_iff] at hc
  obtain ⟨sx, hx, he⟩ := hc
  obtain ⟨sx, rfl, rfl⟩ := Qyl he.symm
  rw [Qfz] at hv
  obtain ⟨I, μ, ⟨fr0, hp0, hwk, h0⟩, hround⟩ := hv
  have key : ∀ (n : Nat) (fr : Fr) (hp : HP) (a : Act) (w : World), μ fr hp < n -> I fr hp -> a.defers = [] -> Sim C fr hp a.tmps w -> Code.rounds C.P x Q n a w := by
   intro n
   induction n with
   | zero => intro _ _ _ _ h; omega
   | succ n ih =>
    intro fr hp a w hlt hI hd hs
    rw [rounds_succ]
    refine ihx sx _ _ fr hp a w hx ⟨fun fr' hp' a' w' hd' hs' hv' => ?_, fun id sk' he fr hp a w hd hs hv => ?_, fun fr hp a w hd hs hv => ?_⟩ hd hs (hround fr hp hI)
    ·rw [Qlx] at hv'
     obtain ⟨fr2, hp2, hw2, hI2, hlt2⟩ := hv'
     exact ih fr2 hp2 a' w' (by omega) hI2 hd' (hw2 _ _ _ hs')
    ·exact hL.ext id sk' (by simpa [FW.Qag] using he) fr hp a w hd hs hv
    ·exact hL.ret fr hp a w hd hs hv
  exact wp_loop_rounds (μ fr0 hp0 + 1) (key _ fr0 hp0 a w (Nat.lt_succ_self _) h0 hd (hwk _ _ _ hs))
 | exit id =>
  intro s sk Q fr hp a w hc hL hd hs hv
  simp only [Qa8, Option.some.injEq] at hc; obtain rfl := Qyj hc.symm
  rw [Qn4] at hv
  unfold Qly at hv
  split at hv
  ·rename_i sk' he
   exact wp_exit (hL.ext id sk' he fr hp a w hd hs hv)
  ·exact hv.elim
 | ret =>
  intro s sk Q fr hp a w hc hL hd hs hv
  simp only [Qa8, Option.some.injEq] at hc; obtain rfl := Q0k hc.symm
  rw [Qp7] at hv
  exact wp_ret (hL.ret fr hp a w hd hs hv)
 | _ => intro s sk Q fr hp a w hc; simp [Qa8] at hc
theorem Qlz (hm : C.P.follows .mixedOrders = true) (c : Code) (s : SC) (sk : List It) (Q : Exit -> Act -> World -> Prop) (fr : Fr) (hp : HP) (a : Act) (w : World)
  (hc : Qa8 C.P C.N c = some s) (hL : Link C R sk Q) (hd : a.defers = []) (hs : Sim C fr hp a.tmps w) (hv : vc C R (.c s :: sk) fr hp) : c.wp C.P Q a w :=
 Qkn hm c s sk Q fr hp a w (by rw [Qmx _ _ hc]; exact hc) hL hd hs hv
def PV.le1 : PV -> PV -> Prop
 | .nilS, .sl _ [] => True
 | p, q => p = q
def PV.leL : List PV -> List PV -> Prop
 | [], [] => True
 | p :: ps, q :: qs => PV.le1 p q /\ PV.leL ps qs
 | _, _ => False
def PV.le : PV -> PV -> Prop
 | .agg ps, .agg qs => PV.leL ps qs
 | p, q => PV.le1 p q
def PV.leT : List PV -> List PV -> Prop
 | [], [] => True
 | p :: ps, q :: qs => PV.le p q /\ PV.leT ps qs
 | _, _ => False
def PV.leR : PV -> PV -> Prop
 | .tup ps, .tup qs => PV.leT ps qs
 | p, q => PV.le p q
theorem Qpd (p : PV) : PV.le1 p p := by cases p <;> first | rfl | (unfold PV.le1; split <;> trivial)
theorem Qt9 : ∀ (l : List PV), PV.leL l l
 | [] => trivial
 | p :: ps => ⟨Qpd p, Qt9 ps⟩
theorem Qx (p : PV) : PV.le p p := by
 cases p <;> first | exact Qt9 _ | (simp only [PV.le]; exact Qpd _)
theorem Qua : ∀ (l : List PV), PV.leT l l
 | [] => trivial
 | p :: ps => ⟨Qx p, Qua ps⟩
theorem Q3x (p : PV) : PV.leR p p := by
 cases p <;> first | exact Qua _ | (simp only [PV.leR]; exact Qx _)
theorem Qu.le {X : Nat -> Prop} {p q : PV} {v : Value} (h : Qu w X p v) (hl : PV.le1 p q) : Qu w X q v := by
 unfold PV.le1 at hl
 split at hl
 ·cases h; exact .slE _ _ _ (Nat.zero_le _)
 ·subst hl; exact h
theorem Qw9 : ∀ (ps qs : List PV), PV.leL ps qs -> qs.length = ps.length /\ ∀ (i : Nat) (q : PV), qs[i]? = some q -> ∃ p, ps[i]? = some p /\ PV.le1 p q
 | [], [], _ => ⟨rfl, by simp⟩
 | [], _ :: _, h => h.elim
 | _ :: _, [], h => h.elim
 | p :: ps, q :: qs, h => by
  obtain ⟨h1, h2⟩ := Qw9 ps qs h.2
  refine ⟨by simp [h1], fun i x hx => ?_⟩
  cases i with
  | zero => simp at hx; subst hx; exact ⟨p, rfl, h.1⟩
  | succ i => simp at hx; simpa using h2 i x hx
theorem Qrh : ∀ (ps qs : List PV), PV.leT ps qs -> qs.length = ps.length /\ ∀ (i : Nat) (q : PV), qs[i]? = some q -> ∃ p, ps[i]? = some p /\ PV.le p q
 | [], [], _ => ⟨rfl, by simp⟩
 | [], _ :: _, h => h.elim
 | _ :: _, [], h => h.elim
 | p :: ps, q :: qs, h => by
  obtain ⟨h1, h2⟩ := Qrh ps qs h.2
  refine ⟨by simp [h1], fun i x hx => ?_⟩
  cases i with
  | zero => simp at hx; subst hx; exact ⟨p, rfl, h.1⟩
  | succ i => simp at hx; simpa using h2 i x hx
theorem Qai.le {X : Nat -> Prop} {p q : PV} {v : Value} (h : Qai w X p v) (hl : PV.le p q) : Qai w X q v := by
 by_cases hp : ∃ ps, p = .agg ps
 ·obtain ⟨ps, rfl⟩ := hp
  by_cases hq : ∃ qs, q = .agg qs
  ·obtain ⟨qs, rfl⟩ := hq
   obtain ⟨h1, h2⟩ := Qw9 ps qs hl
   obtain ⟨vs, rfl, g1, g2⟩ := h
   refine ⟨vs, rfl, by omega, fun i x hx => ?_⟩
   obtain ⟨p, hp, hle⟩ := h2 i x hx
   exact (g2 i p hp).le hle
  ·have : PV.le1 (.agg ps) q := by
    cases q <;> first | exact hl | exact absurd ⟨_, rfl⟩ hq
   have : q = .agg ps := by
    unfold PV.le1 at this
    split at this
    ·rename_i h1; cases h1
    ·exact this.symm
   exact absurd ⟨_, this⟩ hq
 ·have h1 : Qu w X p v := by
   cases p <;> first | exact h | exact absurd ⟨_, rfl⟩ hp
  have h2 : PV.le1 p q := by
   cases p <;> first | exact hl | exact absurd ⟨_, rfl⟩ hp
  exact Qai.of_c (h1.le h2)
theorem Qch.le {X : Nat -> Prop} {p q : PV} {v : Value} (h : Qch w X p v) (hl : PV.leR p q) : Qch w X q v := by
 by_cases hp : ∃ ps, p = .tup ps
 ·obtain ⟨ps, rfl⟩ := hp
  by_cases hq : ∃ qs, q = .tup qs
  ·obtain ⟨qs, rfl⟩ := hq
   obtain ⟨h1, h2⟩ := Qrh ps qs hl
   obtain ⟨vs, rfl, g1, g2⟩ := h
   refine ⟨vs, rfl, by omega, fun i x hx => ?_⟩
   obtain ⟨p, hp, hle⟩ := h2 i x hx
   exact (g2 i p hp).le hle
  ·have : PV.le (.tup ps) q := by
    cases q <;> first | exact hl | exact absurd ⟨_, rfl⟩ hq
   have : PV.le1 (.tup ps) q := this
   have : q = .tup ps := by
    unfold PV.le1 at this
    split at this
    ·rename_i h1; cases h1
    ·exact this.symm
   exact absurd ⟨_, this⟩ hq
 ·have h1 : Qai w X p v := by
   cases p <;> first | exact h | exact absurd ⟨_, rfl⟩ hp
  have h2 : PV.le p q := by
   cases p <;> first | exact hl | exact absurd ⟨_, rfl⟩ hp
  exact Qch.of1 (h1.le h2)
def Qjk (P : Program) (f : FuncId) : Prop := (P.funcs[f]?).any (fun fn => fn.body.isSome && fn.name != "runtime.NumGoroutine") = true
def Qd (P : Program) (f : FuncId) (args : List PV) (R : PV -> Prop) : Prop :=
 Qjk P f /\ ∀ (w : World) (X : Nat -> Prop) (vals : Array Value), (∀ b, X b -> b < w.heap.size) -> vals.size = args.length -> (∀ (i : Nat) (x : PV), args[i]? = some x -> Qai w X x (vals.getD i undef)) ->
  Calls P f vals w fun e w' => ∃ v r, e = .returned v /\ Ext Qbh w w' /\ Qch w' X r v /\ R r
theorem Qd.le {P : Program} {f : FuncId} {args args' : List PV} {R : PV -> Prop} (h : Qd P f args R) (hl : PV.leT args' args) : Qd P f args' R := by
 obtain ⟨h1, h2⟩ := Qrh _ _ hl
 refine ⟨h.1, fun w X vals g1 g2 g3 => h.2 w X vals g1 (by omega) (fun i x hx => ?_)⟩
 obtain ⟨p, hp, hle⟩ := h2 i x hx
 exact (g3 i p hp).le hle
def Qfp (args : List PV) : Fr := fun i => (args[i]?).getD .undef
def okR (fr : Fr) (hp : HP) : RV -> Prop
 | .t s => (Q9 hp (fr s)).isData = true
 | .cell s n ag => match fr s with
  | .mp β i o => match hp β with
   | some hb => i < hb.xs.length /\ o + n <= hb.e /\ (ag = false -> n = 1)
   | none => False
  | _ => False
def rvP (fr : Fr) (hp : HP) : RV -> PV
 | .t s => Q9 hp (fr s)
 | .cell s n ag => match fr s with
  | .mp β i o => match hp β with
   | some hb => ldV ag n o ((hb.xs[i]?).getD .undef)
   | none => .undef
  | _ => .undef
def Qc8 (rs : List RV) (R : PV -> Prop) : Qf := fun fr hp => match rs with
 | [r] => okR fr hp r /\ ∃ p, PV.le (rvP fr hp r) p /\ R p
 | rs => (∀ r ∈ rs, okR fr hp r) /\ ∃ p, PV.leR (.tup (rs.map (rvP fr hp))) p /\ R p
def Qjl (tmps : Array Value) : ResultVar -> Sem Value
 | .tmp t => pure (tmps.getD t undef)
 | .cell x t => do loadVar t (<- asAddr (tmps.getD x undef))
def lr (fr : Fr) : RV -> List Nat
 | .t s => (fr s).refs
 | .cell _ _ _ => []
theorem Qub {l l' : List Nat} (h : ∀ β ∈ l, β ∈ l') {b : Nat} (hx : Xof C ρ (Q8 hp l') b) : Xof C ρ (Q8 hp l) b := by
 rcases hx with hx | ⟨γ, hg, h1, h2, h3⟩
 ·exact .inl hx
 ·obtain ⟨hg0, g1, _, _, _, g5, g6⟩ := Qgb h1
  refine .inr ⟨γ, hg0, ?_, by rw [<- g5 h2]; exact h2, h3⟩
  have hn : γ ∉ l := fun hl => g6 h2 (h γ hl)
  unfold Q8
  rw [if_neg (by simpa using hn)]
  exact g1
theorem Qp8 : Q8 hp [] = hp := by funext β; simp [Q8]
theorem Qym {p : PV} (h : (Q9 hp p).isData = true) : ∀ β ∈ p.refs, isY β = false := by
 have h1 : ∀ q : PV, (Qaw hp q).notU = true -> ∀ β ∈ q.ref1, isY β = false := by
  intro q hq β hβ
  cases q with
  | mp γ i o => simp only [PV.ref1, List.mem_singleton] at hβ; subst hβ; cases hy : isY β with
   | false => rfl
   | true => simp [Qaw, hy, PV.notU] at hq
  | mso γ o n => simp only [PV.ref1, List.mem_singleton] at hβ; subst hβ; cases hy : isY β with
   | false => rfl
   | true => simp [Qaw, hy, PV.notU] at hq
  | rb => simp [Qaw, PV.notU] at hq
  | _ => cases hβ
 intro β hβ
 cases p with
 | mp γ i o => exact h1 (.mp γ i o) (by cases hq : Qaw hp (.mp γ i o) <;> simp_all [Q9, PV.isData, PV.notU]) β hβ
 | mso γ o n => exact h1 (.mso γ o n) (by cases hq : Qaw hp (.mso γ o n) <;> simp_all [Q9, PV.isData, PV.notU]) β hβ
 | rb => simp [Q9, Qaw, PV.isData] at h
 | fn f first cap =>
  simp only [Q9, PV.isData, Bool.and_eq_true, List.all_map, List.all_eq_true] at h
  rcases List.mem_append.1 hβ with hβ | hβ
  ·obtain ⟨x, hx, hβ⟩ := List.mem_flatMap.1 hβ; exact h1 x (h.1 x hx) β hβ
  ·obtain ⟨x, hx, hβ⟩ := List.mem_flatMap.1 hβ; exact h1 x (h.2 x hx) β hβ
 | _ => cases hβ
theorem Qafm {rv : RV} (h : okR fr hp rv) : ∀ β ∈ lr fr rv, isY β = false := by
 cases rv with
 | t s => exact Qym h
 | cell => intro β hβ; cases hβ
theorem Q3y {P : Program} (hP : C.P = P) {r : ResultVar} {rv : RV} (hc : Qbi P r = some rv) (h : Q3 C ρ fr hp a.tmps w) (ho : okR fr hp rv) :
  ∃ v, (Qjl a.tmps r).run P w = .ok v w /\ Qai w (Xof C ρ (Q8 hp (lr fr rv))) (rvP fr hp rv) v := by
 subst hP
 cases r with
 | tmp t =>
  simp [Qbi] at hc; subst hc
  exact ⟨_, rfl, Qel h (h.slots t) (fun β hβ => hβ) ho⟩
 | cell x t =>
  simp only [Qbi, Option.bind_eq_some_iff, Option.map_eq_some_iff] at hc
  obtain ⟨n, hn, ag, hag, rfl⟩ := hc
  have hx := h.slots x
  simp only [okR] at ho
  split at ho
  ·rename_i β i o hfx
   rw [hfx] at hx
   split at ho
   ·rename_i hb hβ
    obtain ⟨h1, h2, h3⟩ := ho
    obtain ⟨b, hb2, g1, g2, g3⟩ := hx.mp_inv
    rw [hβ] at g2; cases g2
    have hown := h.own β hb hβ
    have hblk := hown.blk
    rw [g1] at hblk
    obtain ⟨_, hlt', cur, cap, c1, c2, c3, c4, c5⟩ := hblk
    have hxi := List.getElem?_eq_getElem h1
    have hcl := (hown.len i _ hxi).1
    have hcap : i < cap := by omega
    have hin : ∀ j, j < n -> i * hb.e + o + j < cur.size := fun j hj => by rw [c2]; exact Qew hcap h2 hj
    have hrun := Qgv (P := C.P) (t := t) (b := b) (off := i * hb.e + o) (vs := Array.ofFn (n := n) fun j => cur.getD (i * hb.e + o + j.val) undef) hn hag h3 (by simp) w
     (fun j hj => by rw [Qey (f := fun j => cur.getD (i * hb.e + o + j) undef) hj]; exact Qbe c1 (hin j hj))
    obtain ⟨V, hV⟩ : ∃ V : Value, V = (if ag then .agg (Array.ofFn (n := n) fun j => cur.getD (i * hb.e + o + j.val) undef) else (Array.ofFn (n := n) fun j => cur.getD (i * hb.e + o + j.val) undef).getD 0 undef) := ⟨_, rfl⟩
    rw [<- hV] at hrun
    refine ⟨V, ?_, ?_⟩
    ·simp only [Qjl, g3, asAddr, Sem.run_bind, Sem.run_pure, Result.andThen_ok]
     exact hrun
    ·have : Qai w (Xof C ρ hp) (ldV ag n o (hb.xs[i]'h1)) (if ag then .agg (Array.ofFn (n := n) fun j => cur.getD (i * hb.e + o + j.val) undef) else (Array.ofFn (n := n) fun j => cur.getD (i * hb.e + o + j.val) undef).getD 0 undef) :=
      Qk6 (by simp) (by rw [hcl]; exact h2) h3 (fun j y hj hy => by
       rw [Qey (f := fun j => cur.getD (i * hb.e + o + j) undef) hj, Nat.add_assoc]
       exact c5 i _ hxi (o + j) y hy)
     simp only [rvP, hfx, hβ, hxi, Option.getD_some]
     rw [hV]
     simp only [lr, Qp8]; exact this
   ·exact ho.elim
  ·exact ho.elim
theorem Qsc {P : Program} (hP : C.P = P) (h : Q3 C ρ fr hp a.tmps w) : ∀ (rl : List ResultVar) (rs : List RV), rl.mapM (Qbi P) = some rs -> (∀ r ∈ rs, okR fr hp r) ->
  ∃ vs : List Value, vs.length = rs.length /\ (rl.mapM (Qjl a.tmps)).run P w = .ok vs w /\ ∀ (i : Nat) (r : RV), rs[i]? = some r -> ∃ v, vs[i]? = some v /\ Qai w (Xof C ρ (Q8 hp (rs.flatMap (lr fr)))) (rvP fr hp r) v
 | [], rs, hc, _ => by simp at hc; subst hc; exact ⟨[], rfl, by simp, by simp⟩
 | x :: rl, rs, hc, ho => by
  rw [List.mapM_cons] at hc
  simp only [Option.bind_eq_bind, Option.pure_def, Option.bind_eq_some_iff, Option.some.injEq] at hc
  obtain ⟨r, hr, rs', hrs, rfl⟩ := hc
  obtain ⟨v, h1, h2⟩ := Q3y hP hr h (ho r (by simp))
  obtain ⟨vs, g1, g2, g3⟩ := Qsc hP h rl rs' hrs (fun q hq => ho q (by simp [hq]))
  refine ⟨v :: vs, by simp [g1], by simp [List.mapM_cons, Sem.run_bind, h1, g2], fun i q hq => ?_⟩
  cases i with
  | zero =>
   simp at hq; subst hq
   exact ⟨v, rfl, h2.mono (fun _ _ _ => rfl) (fun _ _ hn hx => hn (Qub (fun β hβ => by rw [List.flatMap_cons]; exact List.mem_append_left _ hβ) hx)) (Nat.le_refl _)⟩
  | succ i =>
   simp at hq
   obtain ⟨v', k1, k2⟩ := g3 i q hq
   exact ⟨v', by simpa using k1, k2.mono (fun _ _ _ => rfl) (fun _ _ hn hx => hn (Qub (fun β hβ => by rw [List.flatMap_cons]; exact List.mem_append_right _ hβ) hx)) (Nat.le_refl _)⟩
theorem Ql0 {P : Program} (hP : C.P = P) {fn : Func} {rs : List RV} {Rr : PV -> Prop} (hc : fn.results.toList.mapM (Qbi P) = some rs) (h : Q3 C ρ fr hp a.tmps w) (hr : Qc8 rs Rr fr hp) :
  ∃ v r, (results fn a.tmps).run P w = .ok v w /\ Qch w (Xof C ρ (Q8 hp (rs.flatMap (lr fr)))) r v /\ (∀ β ∈ rs.flatMap (lr fr), isY β = false) /\ Rr r := by
 have hall : (∀ r ∈ rs, okR fr hp r) := by
  intro r hr'
  match rs, hr, hr' with
  | [r0], hr, hr' => simp at hr'; subst hr'; exact hr.1
  | [], hr, hr' => cases hr'
  | r0 :: r1 :: rest, hr, hr' => exact hr.1 r hr'
 have hN : ∀ β ∈ rs.flatMap (lr fr), isY β = false := fun β hβ => by
  obtain ⟨r, hr, hβ⟩ := List.mem_flatMap.1 hβ
  exact Qafm (hall r hr) β hβ
 obtain ⟨vs, hlen, hrun, hspec⟩ := Qsc hP h _ rs hc hall
 have hres : (results fn a.tmps).run P w = .ok (if h : vs.toArray.size = 1 then vs.toArray[0] else .tuple vs.toArray) w := by
  have e : results fn a.tmps = (do let vs <- fn.results.mapM (Qjl a.tmps); pure (if h : vs.size = 1 then vs[0] else .tuple vs)) := rfl
  rw [e, Array.mapM_eq_mapM_toList]
  simp only [Sem.run_bind]
  have h2 : (List.toArray <$> fn.results.toList.mapM (Qjl a.tmps) : Sem (Array Value)).run P w = .ok vs.toArray w := by simp [hrun]
  rw [h2]
  rfl
 match rs, hr, hlen, hspec, hN with
 | [r0], hr, hlen, hspec, hN =>
  have h1 : vs.toArray.size = 1 := by simpa using hlen
  rw [dif_pos h1] at hres
  obtain ⟨v, h2, h3⟩ := hspec 0 r0 rfl
  have e : vs.toArray[0] = v := by
   have : vs[0]? = some (vs.toArray[0]) := by simp [hlen]
   rw [h2] at this; exact (Option.some.inj this).symm
  rw [e] at hres
  obtain ⟨_, p, hle, hRp⟩ := hr
  exact ⟨_, _, hres, Qch.of1 (h3.le hle), hN, hRp⟩
 | [], hr, hlen, hspec, hN =>
  have h1 : ¬ vs.toArray.size = 1 := by simp [hlen]
  rw [dif_neg h1] at hres
  obtain ⟨_, p, hle, hRp⟩ := hr
  exact ⟨_, _, hres, Qch.le (p := .tup []) ⟨vs.toArray, rfl, by simp [hlen], by simp⟩ hle, hN, hRp⟩
 | r0 :: r1 :: rest, hr, hlen, hspec, hN =>
  have h1 : ¬ vs.toArray.size = 1 := by simp [hlen]
  rw [dif_neg h1] at hres
  obtain ⟨_, p, hle, hRp⟩ := hr
  refine ⟨_, _, hres, Qch.le (p := .tup ((r0 :: r1 :: rest).map (rvP fr hp))) ⟨vs.toArray, rfl, by simp [hlen], fun i x hx => ?_⟩ hle, hN, hRp⟩
  simp only [List.getElem?_map, Option.map_eq_some_iff] at hx
  obtain ⟨rv, hrv, rfl⟩ := hx
  obtain ⟨v, h2, h3⟩ := hspec i rv hrv
  rw [Qgz, List.getD_eq_getElem?_getD, h2]
  exact h3
theorem Qsd {P : Program} (hP : C.P = P) {fn : Func} {rs : List RV} {Rr : PV -> Prop} (hc : fn.results.toList.mapM (Qbi P) = some rs) (h : Q3 C ρ fr hp a.tmps w) (hr : Qc8 rs Rr fr hp) :
  ∃ v r, (results fn a.tmps).run P w = .ok v w /\ Qch w C.X0 r v /\ Rr r := by
 obtain ⟨v, r, h1, h2, _, h3⟩ := Ql0 hP hc h hr
 exact ⟨v, r, h1, h2.mono (fun _ _ _ => rfl) (fun _ _ hn hx => hn (.inl hx)) (Nat.le_refl _), h3⟩
theorem Qyn {P : Program} (hP : C.P = P) {fn : Func} {rs : List RV} {Rr : PV -> Prop} (hc : fn.results.toList.mapM (Qbi P) = some rs) (h : Q3 C ρ fr hp a.tmps w) (hr : Qc8 rs Rr fr hp)
  {X : Nat -> Prop} (hX : ∀ c, X c -> C.X0 c ∨ ∃ β hb, isY β = true /\ hp β = some hb /\ hb.fz = false /\ ρ β = some c) :
  ∃ v r, (results fn a.tmps).run P w = .ok v w /\ Qch w X r v /\ Rr r := by
 obtain ⟨v, r, h1, h2, h3, h4⟩ := Ql0 hP hc h hr
 refine ⟨v, r, h1, h2.mono (fun _ _ _ => rfl) (fun c _ hn hx => hn ?_) (Nat.le_refl _), h4⟩
 rcases hX c hx with hx | ⟨β, hb, k1, k2, k3, k4⟩
 ·exact .inl hx
 ·refine .inr ⟨β, hb, ?_, k3, k4⟩
  have hn : β ∉ rs.flatMap (lr fr) := fun hl => by rw [h3 β hl] at k1; cases k1
  unfold Q8
  rw [if_neg (by simpa using hn)]
  exact k2
theorem Qh {P : Program} {f : FuncId} {fn : Func} {sf : SFn} {args : List PV} {Rr : PV -> Prop} (hm : P.follows .mixedOrders = true) (hf : P.funcs[f]? = some fn) (hname : (fn.name != "runtime.NumGoroutine") = true) (hc : Qe P fn = some sf) (hn : args.length <= sf.n /\ sf.n <= 1000000)
  (hv : ∀ C : Ctx, C.P = P -> vc C (Qc8 sf.rs Rr) [.c sf.body] (Qfp args) hp0) : Qd P f args Rr := by
 simp only [Qe, Option.bind_eq_some_iff, Option.map_eq_some_iff] at hc
 obtain ⟨c, hb, sb, hcb, rs, hrs, rfl⟩ := hc
 refine ⟨by simp [Qjk, hf, hb]; simpa using hname, fun w X vals hX hsz hrep => ?_⟩
 let C : Ctx := Ctx.plain P fn.ntmps w X hX hn.2
 refine calls_of_wp hf hb ?_
 have hsz' : (vals ++ Array.replicate (fn.ntmps - vals.size) undef).size = fn.ntmps := by simp at hn ⊢; omega
 have hsim : Sim C (Qfp args) hp0 (vals ++ Array.replicate (fn.ntmps - vals.size) undef) w := by
  refine ⟨fun _ => none, hsz', Ext.refl _ _, (fun _ _ h => by cases h), by simp [hp0], by simp [hp0], fun i => ?_⟩
  unfold Qfp
  cases hi : args[i]? with
  | none => trivial
  | some p =>
   simp only [Option.getD_some]
   have hil : i < vals.size := by rw [hsz]; exact (List.getElem?_eq_some_iff.1 hi).1
   have hr := hrep i p hi
   have e : (vals ++ Array.replicate (fn.ntmps - vals.size) undef).getD i undef = vals.getD i undef := by
    rw [Qbt, if_pos hil]
   rw [e]
   refine Qk.ofData (hr.mono (fun _ _ _ => rfl) (fun b _ hn hx => ?_) (Nat.le_refl _))
   rcases hx with hx | ⟨_, _, h1, _⟩
   ·exact hn hx
   ·simp [hp0] at h1
 have fin : ∀ (fr : Fr) (hp : HP) (a : Act) (w' : World), a.defers = [] -> Sim C fr hp a.tmps w' -> Qc8 rs Rr fr hp ->
   a.defers = [] /\ ∃ v, (results fn a.tmps).run P w' = .ok v w' /\ ∃ v' r, Ending.returned v = .returned v' /\ Ext Qbh w w' /\ Qch w' X r v' /\ Rr r := by
  intro fr hp a w' hd ⟨ρ, hs⟩ hr
  obtain ⟨v, r, h1, h2, h3⟩ := Qsd (C := C) rfl hrs hs hr
  exact ⟨hd, v, h1, v, r, rfl, Ctx.plain_ext hs.ext, h2, h3⟩
 exact Qlz (C := C) (R := Qc8 rs Rr) hm c sb [] _ (Qfp args) hp0 _ w hcb ⟨fun fr hp a w' hd hs hv => (by rw [Qh5] at hv; exact fin fr hp a w' hd hs hv), fun id sk' he => (by simp [FW.Qag] at he), fin⟩ rfl hsim (hv C rfl)
end Go.FW
namespace Go.FW
open Go
variable {C : Ctx} {ρ : Nat -> Option Nat} {fr : Fr} {hp : HP} {w : World} {a : Act} {K R : Qf}
def Qby (fr : Fr) (d : Option Nat) (r : PV) : Fr := match d with | some d => upd fr d r | none => fr
theorem Qk.ofV {p : PV} {v : Value} (h : Qch w (Xof C ρ hp) p v) : Qk C ρ hp w p v := by
 cases p with
 | tup ps => exact h
 | _ => exact Qk.ofData h
theorem Qnf {tmps : Array Value} (h : Q3 C ρ fr hp tmps w) : ∀ b, Xof C ρ hp b -> b < w.heap.size := by
 rintro b (hx | ⟨β, hb, h1, _, h3⟩)
 ·exact Nat.lt_of_lt_of_le (C.hX0 b hx) h.ext.size
 ·have := (h.own β hb h1).blk
  rw [h3] at this
  exact this.2.1
theorem Q3.updO {tmps : Array Value} {d : Option Nat} (h : Q3 C ρ fr hp tmps w) {p : PV} {v : Value} (hv : Qk C ρ hp w p v) (hd : ∀ x, d = some x -> x < C.N) : Q3 C ρ (Qby fr d p) hp (Qm7 tmps d v) w := by
 cases d with
 | some d => exact h.upd hv (hd d rfl)
 | none => exact h
theorem Quc {tmps : Array Value} {first cap args : List PV} {fv cv av : Array Value} (hs : Q3 C ρ fr hp tmps w) (h1 : fv.size = first.length) (_h2 : cv.size = cap.length) (h3 : av.size = args.length)
  (hr1 : ∀ (i : Nat) (x : PV), first[i]? = some x -> Qbc C ρ hp w x (fv.getD i undef)) (hr2 : ∀ (i : Nat) (x : PV), cap[i]? = some x -> Qbc C ρ hp w x (cv.getD i undef)) (hr3 : ∀ (i : Nat) (x : PV), args[i]? = some x -> Qk C ρ hp w x (av.getD i undef))
  (hdat : ((first ++ args ++ cap).map (Q9 hp)).all PV.isData = true) :
  ∀ (i : Nat) (x : PV), ((first ++ args ++ cap).map (Q9 hp))[i]? = some x -> Qai w (Xof C ρ (Q8 hp ((first ++ args ++ cap).flatMap PV.refs))) x ((fv ++ av ++ cv).getD i undef) := by
 intro i x hx
 rw [List.all_eq_true] at hdat
 have hxd := hdat x (List.mem_of_getElem? hx)
 simp only [List.getElem?_map, Option.map_eq_some_iff] at hx
 obtain ⟨p, hp', rfl⟩ := hx
 have hmem := List.mem_of_getElem? hp'
 have hl : ∀ β ∈ p.refs, β ∈ (first ++ args ++ cap).flatMap PV.refs := fun β hβ => List.mem_flatMap.2 ⟨p, hmem, hβ⟩
 have toF : ∀ {p : PV} {v : Value}, Qbc C ρ hp w p v -> (Q9 hp p).isData = true -> Qk C ρ hp w p v := by
  intro p v hr hd
  cases p with
  | undef => trivial
  | mp => exact hr
  | mso => exact hr
  | rb => exact hr
  | np => exact hr
  | nso => exact hr
  | _ => exact Qk.ofData (Qai.of_c hr)
 rw [Qbt]
 rw [List.getElem?_append] at hp'
 by_cases c1 : i < (first ++ args).length
 ·rw [if_pos c1] at hp'
  rw [if_pos (by simp only [Array.size_append, h1, h3]; simpa using c1), Qbt]
  rw [List.getElem?_append] at hp'
  by_cases c2 : i < first.length
  ·rw [if_pos c2] at hp'
   rw [if_pos (by omega)]
   exact Qel hs (toF (hr1 i p hp') hxd) hl hxd
  ·rw [if_neg c2] at hp'
   rw [if_neg (by omega), h1]
   exact Qel hs (hr3 _ p hp') hl hxd
 ·rw [if_neg c1] at hp'
  have hsz : (fv ++ av).size = (first ++ args).length := by simp [h1, h3]
  rw [if_neg (by omega), hsz]
  exact Qel hs (toF (hr2 _ p hp') hxd) hl hxd
theorem Qse {P : Program} (hP : C.P = P) {g : FuncId} {first cap args pargs : List PV} {pr : Bool} {d : Option Nat} {Rr : PV -> Prop} (h : Qd P g pargs Rr) (hargs : (first ++ args ++ cap).map (Q9 hp) = pargs) (hdat : pargs.all PV.isData = true)
  (hK : ∀ r, Rr r -> K (Qby fr d r) (Q8 hp ((first ++ args ++ cap).flatMap PV.refs))) : Qcj C pr (.fn g first cap) args d fr hp K := by
 subst hP
 refine ⟨h.1, fun ρ tmps w fv cv av hdN hs h1 h2 h3 hr1 hr2 hr3 => ?_⟩
 have hf := hs.freeze ((first ++ args ++ cap).flatMap PV.refs)
 refine (h.2 w _ (fv ++ av ++ cv) (Qnf hf) (by rw [<- hargs]; simp [h1, h2, h3]) (by rw [<- hargs]; exact Quc hs h1 h2 h3 hr1 hr2 hr3 (by rw [hargs]; exact hdat))).mono ?_
 rintro e w' ⟨v, r, rfl, hx, hr, hRr⟩
 exact ⟨v, _, _, rfl, ⟨ρ, (hf.grow hx).updO (Qk.ofV hr) hdN⟩, fun _ => hx, hK r hRr⟩
theorem Qcn {P : Program} (hP : C.P = P) {g : FuncId} {first cap args pargs : List PV} {pr : Bool} {d : Option Nat} {r : PV} (h : Qd P g pargs (· = r)) (hargs : (first ++ args ++ cap).map (Q9 hp) = pargs) (hdat : pargs.all PV.isData = true)
  (hK : K (Qby fr d r) (Q8 hp ((first ++ args ++ cap).flatMap PV.refs))) : Qcj C pr (.fn g first cap) args d fr hp K :=
 Qse hP h hargs hdat (fun _ hr => hr ▸ hK)
def PV.isScal : PV -> Bool
 | .int .. | .bool _ => true
 | .tup ps => ps.all fun p => match p with | .int .. | .bool _ => true | _ => false
 | _ => false
theorem Q3z {X X' : Nat -> Prop} {p : PV} {v : Value} (hs : p.isScal = true) (h : Qch w X p v) : Qch w X' p v := by
 have one : ∀ (p : PV) (v : Value), (match p with | .int .. | .bool _ => true | _ => false : Bool) = true -> Qai w X p v -> Qai w X' p v := by
  intro p v hs h
  cases p with
  | int k n => cases h; exact Qu.int k n
  | bool b => cases h; exact Qu.bool b
  | _ => cases hs
 cases p with
 | int k n => exact one (.int k n) v rfl h
 | bool b => exact one (.bool b) v rfl h
 | tup ps =>
  obtain ⟨vs, rfl, h1, h2⟩ := h
  simp only [PV.isScal, List.all_eq_true] at hs
  exact ⟨vs, rfl, h1, fun i x hx => one x _ (hs x (List.mem_of_getElem? hx)) (h2 i x hx)⟩
 | _ => cases hs
def Qfj (C : Ctx) (R : Qf) (c : PV) (x y : SC) (sk : List It) (fr : Fr) (hp : HP) : Prop := Qip c (vc C R (.c x :: sk) fr hp) (vc C R (.c y :: sk) fr hp)
def brV (C : Ctx) (R : Qf) (x y : RT) (sk : List It) (fr : Fr) (hp : HP) : Prop := vc C R (.o x :: sk) fr hp /\ vc C R (.o y :: sk) fr hp
def Qce (C : Ctx) (p : PV) (s : Nat) (want : Bool) (o : SOp) (fr : Fr) (hp : HP) (K : Qf) : Prop := match p with
  | .bool t => (t = want -> opV C o (upd fr s (.bool want)) hp K) /\ (t = (!want) -> Qdp o (upd fr s (.bool !want)) hp K)
  | .tup [] => Qdp o fr hp K
  | _ => False
theorem Qb {p : Prop} [Decidable p] {x y : SC} {sk : List It} (h1 : p -> vc C R (.c x :: sk) fr hp) (h2 : ¬ p -> vc C R (.c y :: sk) fr hp) : Qfj C R (.bool (decide p)) x y sk fr hp :=
 ⟨fun h => h1 (of_decide_eq_true h), fun h => h2 (of_decide_eq_false h)⟩
theorem Qh6 {b : Bool} {x y : SC} {sk : List It} (h1 : b = true -> vc C R (.c x :: sk) fr hp) (h2 : b = false -> vc C R (.c y :: sk) fr hp) : Qfj C R (.bool b) x y sk fr hp := ⟨h1, h2⟩
theorem Qb2 {p : Prop} [Decidable p] {s : Nat} {o : SOp} (h1 : p -> Qce C (.bool true) s true o (upd fr s (.bool true)) hp K) (h2 : ¬ p -> Qce C (.bool false) s true o (upd fr s (.bool false)) hp K) : Qce C (.bool (decide p)) s true o fr hp K := by
 have hu : ∀ (b : Bool), upd (upd fr s (.bool b)) s (.bool b) = upd fr s (.bool b) := fun b => by funext i; unfold upd; split <;> rfl
 refine ⟨fun h => ?_, fun h => ?_⟩
 ·have := (h1 (of_decide_eq_true h)).1 rfl
  rwa [hu] at this
 ·have := (h2 (of_decide_eq_false h)).2 rfl
  rwa [show (!true) = false from rfl, hu] at this
theorem Qa7 {p : Prop} [Decidable p] {s : Nat} {o : SOp} (h1 : p -> Qce C (.bool true) s false o (upd fr s (.bool true)) hp K) (h2 : ¬ p -> Qce C (.bool false) s false o (upd fr s (.bool false)) hp K) : Qce C (.bool (decide p)) s false o fr hp K := by
 have hu : ∀ (b : Bool), upd (upd fr s (.bool b)) s (.bool b) = upd fr s (.bool b) := fun b => by funext i; unfold upd; split <;> rfl
 refine ⟨fun h => ?_, fun h => ?_⟩
 ·have := (h2 (of_decide_eq_false h)).1 rfl
  rwa [hu] at this
 ·have := (h1 (of_decide_eq_true h)).2 rfl
  rwa [show (!false) = true from rfl, hu] at this
theorem Qf0 {b want : Bool} {s : Nat} {o : SOp} (h1 : b = true -> Qce C (.bool true) s want o (upd fr s (.bool true)) hp K) (h2 : b = false -> Qce C (.bool false) s want o (upd fr s (.bool false)) hp K) : Qce C (.bool b) s want o fr hp K := by
 have := @Qb2 C fr hp K (b = true) _ s o
 have e : b = decide (b = true) := by cases b <;> rfl
 rw [e]
 cases want with
 | true => exact Qb2 h1 (fun h => h2 (by simpa using h))
 | false => exact Qa7 h1 (fun h => h2 (by simpa using h))
theorem Q30 {sk : List It} {c : Opd} {x y : SC} : vc C R (.c (.cond c x y) :: sk) fr hp = Qfj C R (ev fr c) x y sk fr hp := Qn3
theorem Qack {sk : List It} {x y : RT} : vc C R (.o (.br x y) :: sk) fr hp = brV C R x y sk fr hp := Q8b
theorem Qacl {sk : List It} {o : SOp} {r : RT} : vc C R (.o (.o none o r) :: sk) fr hp = opV C o fr hp (vc C R (.o r :: sk)) := Qp3
theorem Qacm {sk : List It} {s : Nat} {b : Bool} {o : SOp} {r : RT} : vc C R (.o (.o (some (s, b)) o r) :: sk) fr hp = Qce C (fr s) s b o fr hp (vc C R (.o r :: sk)) := Qp3
theorem vcs :
  (∀ (C : Ctx) (R : Qf) (sk : List It) (x y : SC) (fr : Fr) (hp : HP), vc C R (.c (.seq x y) :: sk) fr hp = vc C R (.c x :: .c y :: sk) fr hp) /\
  (∀ (C : Ctx) (R : Qf) (sk : List It) (id : Nat) (x : SC) (fr : Fr) (hp : HP), vc C R (.c (.block id x) :: sk) fr hp = vc C R (.c x :: .eb id :: sk) fr hp) /\
  (∀ (C : Ctx) (R : Qf) (sk : List It) (fr : Fr) (hp : HP), vc C R (.c .skip :: sk) fr hp = vc C R sk fr hp) /\
  (∀ (C : Ctx) (R : Qf) (sk : List It) (r : RT) (fr : Fr) (hp : HP), vc C R (.c (.rg r) :: sk) fr hp = vc C R (.o r :: sk) fr hp) /\
  (∀ (C : Ctx) (R : Qf) (sk : List It) (id : Nat) (fr : Fr) (hp : HP), vc C R (.eb id :: sk) fr hp = vc C R sk fr hp) /\
  (∀ (C : Ctx) (R : Qf) (sk : List It) (J : Qf) (fr : Fr) (hp : HP), vc C R (.el J :: sk) fr hp = J fr hp) /\
  (∀ (C : Ctx) (R : Qf) (sk : List It) (fr : Fr) (hp : HP), vc C R (.c .ret :: sk) fr hp = R fr hp) /\
  (∀ (C : Ctx) (R : Qf) (fr : Fr) (hp : HP), vc C R [] fr hp = R fr hp) /\
  (∀ (C : Ctx) (R : Qf) (sk : List It) (c : Opd) (x y : SC) (fr : Fr) (hp : HP), vc C R (.c (.cond c x y) :: sk) fr hp = Qfj C R (ev fr c) x y sk fr hp) /\
  (∀ (C : Ctx) (R : Qf) (sk : List It) (id : Nat) (fr : Fr) (hp : HP), vc C R (.c (.exit id) :: sk) fr hp = Qly C R (FW.Qag id sk) fr hp) /\
  (∀ (C : Ctx) (R : Qf) (sk : List It) (fr : Fr) (hp : HP), vc C R (.o .nil :: sk) fr hp = vc C R sk fr hp) /\
  (∀ (C : Ctx) (R : Qf) (sk : List It) (o : SOp) (r : RT) (fr : Fr) (hp : HP), vc C R (.o (.o none o r) :: sk) fr hp = opV C o fr hp (vc C R (.o r :: sk))) /\
  (∀ (C : Ctx) (R : Qf) (sk : List It) (s : Nat) (b : Bool) (o : SOp) (r : RT) (fr : Fr) (hp : HP), vc C R (.o (.o (some (s, b)) o r) :: sk) fr hp = Qce C (fr s) s b o fr hp (vc C R (.o r :: sk))) /\
  (∀ (C : Ctx) (R : Qf) (sk : List It) (x y : RT) (fr : Fr) (hp : HP), vc C R (.o (.br x y) :: sk) fr hp = brV C R x y sk fr hp) /\
  (∀ (C : Ctx) (R : Qf) (x y : SC) (sk : List It) (fr : Fr) (hp : HP), Qfj C R (.bool true) x y sk fr hp = vc C R (.c x :: sk) fr hp) /\
  (∀ (C : Ctx) (R : Qf) (x y : SC) (sk : List It) (fr : Fr) (hp : HP), Qfj C R (.bool false) x y sk fr hp = vc C R (.c y :: sk) fr hp) /\
  (∀ (C : Ctx) (R : Qf) (sk : List It) (fr : Fr) (hp : HP), Qly C R (some sk) fr hp = vc C R sk fr hp) /\
  (∀ (id : Nat) (s : SC) (sk : List It), FW.Qag id (.c s :: sk) = FW.Qag id sk) /\
  (∀ (id : Nat) (r : RT) (sk : List It), FW.Qag id (.o r :: sk) = FW.Qag id sk) /\
  (∀ (id : Nat) (J : Qf) (sk : List It), FW.Qag id (.el J :: sk) = FW.Qag id sk) /\
  (∀ (id i : Nat) (sk : List It), FW.Qag id (.eb i :: sk) = if i = id then some sk else FW.Qag id sk) /\
  (∀ (C : Ctx) (s : Nat) (o : SOp) (fr : Fr) (hp : HP) (K : Qf), Qce C (.bool true) s true o fr hp K = opV C o (upd fr s (.bool true)) hp K) /\
  (∀ (C : Ctx) (s : Nat) (o : SOp) (fr : Fr) (hp : HP) (K : Qf), Qce C (.bool false) s true o fr hp K = Qdp o (upd fr s (.bool false)) hp K) /\
  (∀ (C : Ctx) (s : Nat) (o : SOp) (fr : Fr) (hp : HP) (K : Qf), Qce C (.bool true) s false o fr hp K = Qdp o (upd fr s (.bool true)) hp K) /\
  (∀ (C : Ctx) (s : Nat) (o : SOp) (fr : Fr) (hp : HP) (K : Qf), Qce C (.bool false) s false o fr hp K = opV C o (upd fr s (.bool false)) hp K) /\
  (∀ (C : Ctx) (s : Nat) (b : Bool) (o : SOp) (fr : Fr) (hp : HP) (K : Qf), Qce C (.tup []) s b o fr hp K = Qdp o fr hp K) := by
 refine ⟨fun _ _ _ _ _ _ _ => Qp6, fun _ _ _ _ _ _ _ => Qlw, fun _ _ _ _ _ => Qn2, fun _ _ _ _ _ _ => Qyh, fun _ _ _ _ _ _ => Qtj, fun _ _ _ _ _ _ => Qlx, fun _ _ _ _ _ => Qp7, fun _ _ _ _ => Qh5, fun _ _ _ _ _ _ _ _ => Q30,
  fun _ _ _ _ _ _ => Qn4, fun _ _ _ _ _ => Qnc, fun _ _ _ _ _ _ _ => Qacl, fun _ _ _ _ _ _ _ _ _ => Qacm, fun _ _ _ _ _ _ _ => Qack, fun _ _ _ _ _ _ _ => ?_, fun _ _ _ _ _ _ _ => ?_, fun _ _ _ _ _ => rfl, fun _ _ _ => rfl, fun _ _ _ => rfl, fun _ _ _ => rfl, fun _ _ _ => rfl, ?_, ?_, ?_, ?_, fun _ _ _ _ _ _ _ => rfl⟩
 ·simp [Qfj, Qip]
 ·simp [Qfj, Qip]
 all_goals intros; simp [Qce]
end Go.FW
namespace Go.FW
open Go
variable {C : Ctx} {fr : Fr} {hp : HP} {K R : Qf}
theorem Qgj {n : Int} (h1 : -9223372036854775808 <= n) (h2 : n <= 9223372036854775807) : IntKind.i64.wrap n = n := by rw [IntKind.wrap_i64]; omega
theorem Q31 {n : Int} (h1 : -2147483648 <= n) (h2 : n <= 2147483647) : IntKind.i32.wrap n = n := by rw [IntKind.wrap_i32]; omega
theorem Qe3 {n : Int} (h1 : 0 <= n) (h2 : n <= 18446744073709551615) : IntKind.u64.wrap n = n := by rw [IntKind.wrap_u64]; omega
theorem Ql1 {n : Int} (h1 : 0 <= n) (h2 : n <= 4294967295) : IntKind.u32.wrap n = n := by rw [IntKind.wrap_u32]; omega
theorem Q32 {n : Int} (h1 : 0 <= n) (h2 : n <= 65535) : IntKind.u16.wrap n = n := by simp only [IntKind.wrap, IntKind.bits, IntKind.signed]; simp; omega
theorem Q8m {n : Int} (h1 : 0 <= n) (h2 : n <= 255) : IntKind.u8.wrap n = n := by rw [IntKind.wrap_u8]; omega
theorem Q8n {x y : Int} (h : 0 <= x) : x.tdiv y = x / y := Int.tdiv_eq_ediv_of_nonneg h
theorem Q8o {x y : Int} (h : 0 <= x) : x.tmod y = x % y := Int.tmod_eq_emod_of_nonneg h
def ldM (hb : Option HB) (n : Nat) (ag : Bool) (i o : Nat) (d : Nat) (fr : Fr) (hp : HP) (K : Qf) : Prop := match hb with
 | some hb => ∃ h : i < hb.xs.length, o + n <= hb.e /\ (ag = false -> n = 1) /\ K (upd fr d (ldV ag n o (hb.xs[i]'h))) hp
 | none => False
def stM (hb : Option HB) (β : Nat) (n : Nat) (i o : Nat) (v : PV) (fr : Fr) (hp : HP) (K : Qf) : Prop := match hb with
  | some hb => hb.fz = false /\ v.isData = true /\ v.cells.length = n /\ ∃ h : i < hb.xs.length, o + n <= hb.e /\
        K fr (Qj hp β { hb with xs := hb.xs.set i (if n = hb.e then v else stV (hb.xs[i]'h) o v) })
  | none => False
def Qri (R : PV -> Prop) (p : PV) : Prop := p.isData = true /\ ∃ q, PV.le p q /\ R q
theorem Qc {p r : PV} (h : p = r) (hd : r.isData = true) : Qri (· = r) p := by subst h; exact ⟨hd, _, Qx _, rfl⟩
theorem Qhk {p r : PV} (h : PV.le p r) (hd : p.isData = true) : Qri (· = r) p := ⟨hd, _, h, rfl⟩
theorem Qxa {e ty n : Nat} {ag fz : Bool} {o d : Nat} {x : PV} (h : o + n <= e) (ha : ag = false -> n = 1) : ldM (some ⟨e, ty, [x], fz⟩) n ag 0 o d fr hp K = K (upd fr d (ldV ag n o x)) hp := by
 simp [ldM, h]; intro _; exact ha
theorem Qh7 {e ty n i : Nat} {ag fz : Bool} {o d : Nat} {xs : List PV} (h : i < xs.length) (h1 : o + n <= e) (ha : ag = false -> n = 1) : ldM (some ⟨e, ty, xs, fz⟩) n ag i o d fr hp K = K (upd fr d (ldV ag n o (xs[i]'h))) hp := by
 simp [ldM, h, h1]; intro _; exact ha
theorem Qacn {e ty n β i : Nat} {o : Nat} {xs : List PV} {v : PV} (h : i < xs.length) (hv : v.isData = true) (hl : v.cells.length = n) (h1 : o + n <= e) : stM (some ⟨e, ty, xs, false⟩) β n i o v fr hp K = K fr (Qj hp β ⟨e, ty, xs.set i (if n = e then v else stV (xs[i]'h) o v), false⟩) := by
 simp [stM, h, h1, hv, hl]
theorem Qfq {ty n β i : Nat} {xs : List PV} {v : PV} (h : i < xs.length) (hv : v.isData = true) (hl : v.cells.length = n) : stM (some ⟨n, ty, xs, false⟩) β n i 0 v fr hp K = K fr (Qj hp β ⟨n, ty, xs.set i v, false⟩) := by
 rw [Qacn h hv hl (by omega)]; simp
theorem Qud {e d : Nat} {k : IntKind} {m : Int} {xs : List PV} (h0 : 0 <= m) (h : m < xs.length) : Qd7 e (.sl e xs) (.int k m) d fr hp K = K (upd fr d (.pt (xs[m.toNat]'(by omega)).cells)) hp := by
 have : m.toNat < xs.length := by omega
 simp [Qd7, h0, this]
theorem Qix {α : Type} {f : α -> PV} {e d : Nat} {k : IntKind} {m : Int} {xs : List α} (h0 : 0 <= m) (h : m < xs.length) : Qd7 e (.sl e (xs.map f)) (.int k m) d fr hp K = K (upd fr d (.pt (f (xs[m.toNat]'(by omega))).cells)) hp := by
 rw [Qud h0 (by simpa using h)]; simp
theorem Qaco {e d β o n : Nat} {k : IntKind} {m : Int} (h0 : 0 <= m) (h : m < n) (he : (hp β).map (·.e) = some e) : Qd7 e (.mso β o n) (.int k m) d fr hp K = K (upd fr d (.mp β (o + m.toNat) 0)) hp := by
 have : m.toNat < n := by omega
 simp [Qd7, h0, this, he]
theorem Qtk {e by_ ty d : Nat} {z : PV} {k k' : IntKind} {L Cc : Int} (h0 : 0 < e) (hz : z.cells.length = e) (h1 : 0 <= L) (h2 : L <= Cc) (h3 : by_ * Cc <= 281474976710656) (h4 : Cc <= 9223372036854775807) :
  mkK e by_ ty z (.int k L) (.int k' Cc) d fr hp K = K (upd (Qaq d fr) d (.ms d L.toNat)) (Qj hp d ⟨e, ty, List.replicate L.toNat z, false⟩) := by
 simp [mkK, h0, hz, h1, h2, h3, h4]
theorem Qacp {n ty d β o m : Nat} (hB : isY β = true) : Qd1 n ty (.mso β o m) d fr hp K = K (upd fr d (.rb β o m)) hp := by
 simp [Qd1, hB]
theorem Qafn {d β o m : Nat} : ldK 1 false (.rb β o m) d fr hp K = K (upd fr d (.mso β o m)) hp := by simp [ldK]
theorem Qp9 {e by_ ty d : Nat} {x : PV} {ys : List PV} (hs : Qdk hp x = some (e, ys)) (h0 : 0 < e) (h1 : ys.length * by_ <= 140737488355328) (h2 : ys.length <= 9223372036854775807) :
  Qek e by_ ty .nilS x d fr hp K = K (upd (Qaq d fr) d (.ms d ys.length)) (Qj hp d ⟨e, ty, ys, false⟩) := by
 simp [Qek, hs, h0, h1, h2]
theorem Ql2 {e by_ ty d β n : Nat} {x : PV} {ys xs : List PV} (hs : Qdk hp x = some (e, ys)) (hb : hp β = some ⟨e, ty, xs, false⟩) (h0 : 0 < e) (hn : n <= xs.length) (h1 : (n + ys.length) * by_ <= 140737488355328) (h2 : n + ys.length <= 9223372036854775807) (hB : isB β = false := by decide) :
  Qek e by_ ty (.ms β n) x d fr hp K = K (upd (Qaq β fr) d (.ms β (n + ys.length))) (Qj hp β ⟨e, ty, xs.take n ++ ys, false⟩) := by
 simp [Qek, hs, hb, h0, hn, h1, h2, hB]
theorem Qyo {e d : Nat} {xs : List PV} {lo hi : Option PV} {L H : Int} (h1 : Qbw 0 lo = some L) (h2 : Qbw xs.length hi = some H) (h3 : 0 <= L) (h4 : L <= H) (h5 : H <= xs.length) :
  slK e (.sl e xs) lo hi none d fr hp K = K (upd fr d (.sl e ((xs.take H.toNat).drop L.toNat))) hp := by
 have hM : Qbw (xs.length) none = some (xs.length : Int) := rfl
 simp only [slK, h1, h2, hM]
 simp [h3, h4, h5]
theorem Qafo {e d : Nat} {xs : List PV} {k : IntKind} {H : Int} (h4 : 0 <= H) (h5 : H <= xs.length) :
  slK e (.sl e xs) none (some (.int k H)) none d fr hp K = K (upd fr d (.sl e (xs.take H.toNat))) hp := by
 rw [Qyo (L := 0) (H := H) rfl rfl (by omega) h4 h5]; simp
theorem Qafp {e d : Nat} {xs : List PV} {k : IntKind} {L : Int} (h4 : 0 <= L) (h5 : L <= xs.length) :
  slK e (.sl e xs) (some (.int k L)) none none d fr hp K = K (upd fr d (.sl e (xs.drop L.toNat))) hp := by
 rw [Qyo (L := L) (H := xs.length) rfl rfl h4 h5 (by omega)]; simp
theorem ops1 :
  (∀ (C : Ctx) (d : Nat) (x : Opd) (fr : Fr) (hp : HP) (K : Qf), opV C (.mv d x) fr hp K = K (upd fr d (ev fr x)) hp) /\
  (∀ (C : Ctx) (d : Nat) (c a b : Opd) (fr : Fr) (hp : HP) (K : Qf), opV C (.pick d c a b) fr hp K = Qik (ev fr c) (ev fr a) (ev fr b) d fr hp K) /\
  (∀ (C : Ctx) (d : Nat) (op : BinOp) (bt : Bool) (a b : Opd) (fr : Fr) (hp : HP) (K : Qf), opV C (.bin d op bt a b) fr hp K = Qa2 op bt (ev fr a) (ev fr b) d fr hp K) /\
  (∀ (C : Ctx) (d : Nat) (op : UnOp) (a : Opd) (fr : Fr) (hp : HP) (K : Qf), opV C (.un d op a) fr hp K = unK op (ev fr a) d fr hp K) /\
  (∀ (C : Ctx) (d : Nat) (k : IntKind) (a : Opd) (fr : Fr) (hp : HP) (K : Qf), opV C (.conv d k a) fr hp K = Qls k (ev fr a) d fr hp K) /\
  (∀ (C : Ctx) (d : Nat) (a : Opd) (fr : Fr) (hp : HP) (K : Qf), opV C (.len d a) fr hp K = Qif (ev fr a) d fr hp K) /\
  (∀ (C : Ctx) (d : Nat) (a b : Opd) (fr : Fr) (hp : HP) (K : Qf), opV C (.mx d a b) fr hp K = mxK (ev fr a) (ev fr b) d fr hp K) /\
  (∀ (C : Ctx) (d e : Nat) (a b : Opd) (fr : Fr) (hp : HP) (K : Qf), opV C (.idx d e a b) fr hp K = Qd7 e (ev fr a) (ev fr b) d fr hp K) /\
  (∀ (C : Ctx) (d n e : Nat) (a b : Opd) (fr : Fr) (hp : HP) (K : Qf), opV C (.idxA d n e a b) fr hp K = Qn0 n e (ev fr a) (ev fr b) d fr hp K) /\
  (∀ (C : Ctx) (d n e : Nat) (ag : Bool) (a b : Opd) (fr : Fr) (hp : HP) (K : Qf), opV C (.ixv d n e ag a b) fr hp K = Qra n e ag (ev fr a) (ev fr b) d fr hp K) /\
  (∀ (C : Ctx) (d off : Nat) (a : Opd) (fr : Fr) (hp : HP) (K : Qf), opV C (.fld d off a) fr hp K = Qkk off (ev fr a) d fr hp K) /\
  (∀ (C : Ctx) (d off n : Nat) (ag : Bool) (a : Opd) (fr : Fr) (hp : HP) (K : Qf), opV C (.fldv d off n ag a) fr hp K = Qhs off n ag (ev fr a) d fr hp K) /\
  (∀ (C : Ctx) (d n : Nat) (ag : Bool) (a : Opd) (fr : Fr) (hp : HP) (K : Qf), opV C (.ld d n ag a) fr hp K = ldK n ag (ev fr a) d fr hp K) /\
  (∀ (C : Ctx) (n : Nat) (a b : Opd) (fr : Fr) (hp : HP) (K : Qf), opV C (.st n a b) fr hp K = stK n (ev fr a) (ev fr b) fr hp K) /\
  (∀ (C : Ctx) (d n ty : Nat) (a : Opd) (fr : Fr) (hp : HP) (K : Qf), opV C (.box d n ty a) fr hp K = Qd1 n ty (ev fr a) d fr hp K) /\
  (∀ (C : Ctx) (d n ty : Nat) (z : PV) (fr : Fr) (hp : HP) (K : Qf), opV C (.alloc d n ty z) fr hp K = Qd1 n ty z d fr hp K) /\
  (∀ (C : Ctx) (d e by_ ty : Nat) (z : PV) (l c : Opd) (fr : Fr) (hp : HP) (K : Qf), opV C (.mk d e by_ ty z l c) fr hp K = mkK e by_ ty z (ev fr l) (ev fr c) d fr hp K) /\
  (∀ (C : Ctx) (d e ty : Nat) (ps : List Opd) (fr : Fr) (hp : HP) (K : Qf), opV C (.bs d e ty ps) fr hp K = bsK e ty (ps.map (ev fr)) d fr hp K) /\
  (∀ (C : Ctx) (d e by_ ty : Nat) (a b : Opd) (fr : Fr) (hp : HP) (K : Qf), opV C (.app d e by_ ty a b) fr hp K = Qek e by_ ty (ev fr a) (ev fr b) d fr hp K) /\
  (∀ (C : Ctx) (d e : Nat) (a b : Opd) (fr : Fr) (hp : HP) (K : Qf), opV C (.cpy d e a b) fr hp K = Qjc e (ev fr a) (ev fr b) d fr hp K) /\
  (∀ (C : Ctx) (d e : Nat) (a : Opd) (l h m : Option Opd) (fr : Fr) (hp : HP) (K : Qf), opV C (.sl d e a l h m) fr hp K = slK e (ev fr a) (l.map (ev fr)) (h.map (ev fr)) (m.map (ev fr)) d fr hp K) /\
  (∀ (C : Ctx) (d : Nat) (a : Opd) (i : Nat) (fr : Fr) (hp : HP) (K : Qf), opV C (.ext d a i) fr hp K = Qjd (ev fr a) i d fr hp K) /\
  (∀ (C : Ctx) (d : Nat) (z : List PV) (ps : List (Nat × Nat × Opd)) (fr : Fr) (hp : HP) (K : Qf), opV C (.bld d z ps) fr hp K = Qfn z (ps.map fun p => (p.1, p.2.1, ev fr p.2.2)) d fr hp K) /\
  (∀ (C : Ctx) (d f : Nat) (x y : List Opd) (fr : Fr) (hp : HP) (K : Qf), opV C (.fn d f x y) fr hp K = ((x.map (ev fr) ++ y.map (ev fr)).all PV.isCap = true /\ K (upd fr d (.fn f (x.map (ev fr)) (y.map (ev fr)))) hp)) /\
  (∀ (C : Ctx) (d : Option Nat) (pr : Bool) (f : Opd) (ars : List Opd) (fr : Fr) (hp : HP) (K : Qf), opV C (.call d pr f ars) fr hp K = Qcj C pr (ev fr f) (ars.map (ev fr)) d fr hp K) /\
  (∀ (C : Ctx) (d : Option Nat) (x : Opd) (fr : Fr) (hp : HP) (K : Qf), opV C (.nilc d x) fr hp K = Qpv (ev fr x) d fr hp K) /\
  (∀ (fr : Fr) (n : Nat), ev fr (.t n) = fr n) /\ (∀ (fr : Fr) (p : PV), ev fr (.c p) = p) := by
 refine ⟨?_, ?_, ?_, ?_, ?_, ?_, ?_, ?_, ?_, ?_, ?_, ?_, ?_, ?_, ?_, ?_, ?_, ?_, ?_, ?_, ?_, ?_, ?_, ?_, ?_, ?_, ?_, ?_⟩ <;> intros <;> rfl
theorem ops2 :
  (∀ (bt : Bool) (k : IntKind) (x y : Int) (d : Nat) (fr : Fr) (hp : HP) (K : Qf), Qa2 .add bt (.int k x) (.int k y) d fr hp K = K (upd fr d (.int k (k.wrap (x + y)))) hp) /\
  (∀ (bt : Bool) (k : IntKind) (x y : Int) (d : Nat) (fr : Fr) (hp : HP) (K : Qf), Qa2 .sub bt (.int k x) (.int k y) d fr hp K = K (upd fr d (.int k (k.wrap (x - y)))) hp) /\
  (∀ (bt : Bool) (k : IntKind) (x y : Int) (d : Nat) (fr : Fr) (hp : HP) (K : Qf), Qa2 .mul bt (.int k x) (.int k y) d fr hp K = K (upd fr d (.int k (k.wrap (x * y)))) hp) /\
  (∀ (bt : Bool) (k : IntKind) (x y : Int) (d : Nat) (fr : Fr) (hp : HP) (K : Qf), Qa2 .eql bt (.int k x) (.int k y) d fr hp K = K (upd fr d (.bool (decide (x = y)))) hp) /\
  (∀ (bt : Bool) (k : IntKind) (x y : Int) (d : Nat) (fr : Fr) (hp : HP) (K : Qf), Qa2 .neq bt (.int k x) (.int k y) d fr hp K = K (upd fr d (.bool (decide (¬ x = y)))) hp) /\
  (∀ (bt : Bool) (k : IntKind) (x y : Int) (d : Nat) (fr : Fr) (hp : HP) (K : Qf), Qa2 .lss bt (.int k x) (.int k y) d fr hp K = K (upd fr d (.bool (decide (x < y)))) hp) /\
  (∀ (bt : Bool) (k : IntKind) (x y : Int) (d : Nat) (fr : Fr) (hp : HP) (K : Qf), Qa2 .leq bt (.int k x) (.int k y) d fr hp K = K (upd fr d (.bool (decide (x <= y)))) hp) /\
  (∀ (bt : Bool) (k : IntKind) (x y : Int) (d : Nat) (fr : Fr) (hp : HP) (K : Qf), Qa2 .gtr bt (.int k x) (.int k y) d fr hp K = K (upd fr d (.bool (decide (y < x)))) hp) /\
  (∀ (bt : Bool) (k : IntKind) (x y : Int) (d : Nat) (fr : Fr) (hp : HP) (K : Qf), Qa2 .geq bt (.int k x) (.int k y) d fr hp K = K (upd fr d (.bool (decide (y <= x)))) hp) /\
  (∀ (x y : Bool) (d : Nat) (fr : Fr) (hp : HP) (K : Qf), Qa2 .eql true (.bool x) (.bool y) d fr hp K = K (upd fr d (.bool (x == y))) hp) /\
  (∀ (x y : Bool) (d : Nat) (fr : Fr) (hp : HP) (K : Qf), Qa2 .neq true (.bool x) (.bool y) d fr hp K = K (upd fr d (.bool (!(x == y)))) hp) /\
  (∀ (b : Bool) (d : Nat) (fr : Fr) (hp : HP) (K : Qf), unK .not (.bool b) d fr hp K = K (upd fr d (.bool (!b))) hp) /\
  (∀ (k : IntKind) (n : Int) (d : Nat) (fr : Fr) (hp : HP) (K : Qf), unK .neg (.int k n) d fr hp K = K (upd fr d (.int k (k.wrap (0 - n)))) hp) /\
  (∀ (k k' : IntKind) (n : Int) (d : Nat) (fr : Fr) (hp : HP) (K : Qf), Qls k (.int k' n) d fr hp K = K (upd fr d (.int k (k.wrap n))) hp) /\
  (∀ (d : Nat) (fr : Fr) (hp : HP) (K : Qf), Qif .nilS d fr hp K = K (upd fr d (.int .i64 0)) hp) /\
  (∀ (e : Nat) (xs : List PV) (d : Nat) (fr : Fr) (hp : HP) (K : Qf), Qif (.sl e xs) d fr hp K = K (upd fr d (.int .i64 xs.length)) hp) /\
  (∀ (β o n : Nat) (d : Nat) (fr : Fr) (hp : HP) (K : Qf), Qif (.mso β o n) d fr hp K = K (upd fr d (.int .i64 n)) hp) /\
  (∀ (k k' : IntKind) (x y : Int) (d : Nat) (fr : Fr) (hp : HP) (K : Qf), mxK (.int k x) (.int k' y) d fr hp K = K (upd fr d (.int k (max x y))) hp) /\
  (∀ (a b : PV) (d : Nat) (fr : Fr) (hp : HP) (K : Qf), Qik (.bool true) a b d fr hp K = K (upd fr d a) hp) /\
  (∀ (a b : PV) (d : Nat) (fr : Fr) (hp : HP) (K : Qf), Qik (.bool false) a b d fr hp K = K (upd fr d b) hp) /\
  (∀ (off β i o : Nat) (d : Nat) (fr : Fr) (hp : HP) (K : Qf), Qkk off (.mp β i o) d fr hp K = K (upd fr d (.mp β i (o + off))) hp) /\
  (∀ (n : Nat) (ag : Bool) (β i o : Nat) (d : Nat) (fr : Fr) (hp : HP) (K : Qf), ldK n ag (.mp β i o) d fr hp K = ldM (hp β) n ag i o d fr hp K) /\
  (∀ (c : PV) (cs : List PV) (d : Nat) (fr : Fr) (hp : HP) (K : Qf), ldK 1 false (.pt (c :: cs)) d fr hp K = K (upd fr d c) hp) /\
  (∀ (n : Nat) (β i o : Nat) (v : PV) (fr : Fr) (hp : HP) (K : Qf), stK n (.mp β i o) v fr hp K = stM (Q8 hp v.refs β) β n i o (Q9 hp v) fr (Q8 hp v.refs) K) /\
  (∀ (ps : List PV) (p : PV) (d : Nat) (fr : Fr) (hp : HP) (K : Qf), Qjd (.tup (p :: ps)) 0 d fr hp K = (p.isData = true /\ K (upd fr d p) hp)) /\
  (∀ (ps : List PV) (p q : PV) (d : Nat) (fr : Fr) (hp : HP) (K : Qf), Qjd (.tup (p :: q :: ps)) 1 d fr hp K = (q.isData = true /\ K (upd fr d q) hp)) /\
  (∀ (ps : List PV) (p q r : PV) (d : Nat) (fr : Fr) (hp : HP) (K : Qf), Qjd (.tup (p :: q :: r :: ps)) 2 d fr hp K = (r.isData = true /\ K (upd fr d r) hp)) /\
  (∀ (s : Nat) (Rr : PV -> Prop) (fr : Fr) (hp : HP), Qc8 [.t s] Rr fr hp = Qri Rr (Q9 hp (fr s))) /\
  (∀ (e : Nat) (xs : List PV), Qdk hp0 (.sl e xs) = some (e, xs)) /\
  (∀ (hp : HP), Q8 hp [] = hp) /\
  (∀ (fr : Fr) (r : PV), Qby fr none r = fr) /\ (∀ (fr : Fr) (d : Nat) (r : PV), Qby fr (some d) r = upd fr d r) /\
  (∀ (β : Nat) (fr : Fr) (i : Nat), Qaq β fr i = Qan β (fr i)) := by
 refine ⟨?_, ?_, ?_, ?_, ?_, ?_, ?_, ?_, ?_, ?_, ?_, ?_, ?_, ?_, ?_, ?_, ?_, ?_, ?_, ?_, ?_, ?_, ?_, ?_, ?_, ?_, ?_, ?_, ?_, ?_, ?_, ?_, ?_⟩ <;> intros
 all_goals first
  | rfl
  | (simp [Qa2, Qik, Qjd, ldK, ldV, PV.cells, stK, stM]; done)
  | (simp [Qa2, Qik, Qjd, ldK, ldV, PV.cells, stK, stM]; try rfl)
  | skip
end Go.FW
namespace Go.FW
open Go
variable {C : Ctx} {ρ : Nat -> Option Nat} {fr : Fr} {hp : HP} {w : World} {K R : Qf}
theorem Q0n (i β e ty : Nat) (he : 0 < e) (hi : fr i = .nilS) (hB : isB β = false := by decide) : Wk fr hp (upd (Qaq β fr) i (.ms β 0)) (Qj hp β ⟨e, ty, [], false⟩) := by
 rintro C tmps w ⟨ρ, hs⟩
 have hr := hs.rebind (w' := w) β none ⟨e, ty, [], false⟩ hB (Ext.refl _ _) (by simp) he (by simp) (by simp) (by simp)
 refine ⟨_, hr.sz, hr.ext, hr.keep, hr.own, hr.inj, fun j => ?_⟩
 unfold upd
 split
 ·rename_i hj
  subst hj
  have := hs.slots j
  rw [hi] at this
  have e := Qk.nil_inv this
  exact ⟨_, by simp [Qj]; rfl, by simp, .inl ⟨Qdy _ _ _, e, rfl, rfl⟩⟩
 ·exact hr.slots j
end Go.FW
namespace Go.FW
open Go
variable {C : Ctx} {ρ : Nat -> Option Nat} {fr : Fr} {hp : HP} {w : World} {K R : Qf}
theorem Q8p (fr : Fr) (a : Nat) (v w : PV) : upd (upd fr a v) a w = upd fr a w := by funext i; unfold upd; split <;> rfl
theorem Qh8 {α : Type} {f : α -> PV} {e d : Nat} {xs : List α} {k : IntKind} {H : Int} (h4 : 0 <= H) (h5 : H <= xs.length) :
  slK e (.sl e (xs.map f)) none (some (.int k H)) none d fr hp K = K (upd fr d (.sl e ((xs.take H.toNat).map f))) hp := by
 rw [Qafo h4 (by simpa using h5)]; simp
theorem Q0o {α : Type} {f : α -> PV} {e d : Nat} {xs : List α} {k : IntKind} {L : Int} (h4 : 0 <= L) (h5 : L <= xs.length) :
  slK e (.sl e (xs.map f)) (some (.int k L)) none none d fr hp K = K (upd fr d (.sl e ((xs.drop L.toNat).map f))) hp := by
 rw [Qafp h4 (by simpa using h5)]; simp
theorem Qwb {α : Type} {f : α -> PV} {e d : Nat} {xs : List α} {k k' : IntKind} {L H : Int} (h3 : 0 <= L) (h4 : L <= H) (h5 : H <= xs.length) :
  slK e (.sl e (xs.map f)) (some (.int k L)) (some (.int k' H)) none d fr hp K = K (upd fr d (.sl e (((xs.take H.toNat).drop L.toNat).map f))) hp := by
 rw [Qyo (L := L) (H := H) rfl rfl h3 h4 (by simpa using h5)]; simp
theorem Q8q (hp : HP) (e : Nat) (xs : List PV) : Q9 hp (.sl e xs) = .sl e xs := rfl
theorem Q33 (hp : HP) (k : IntKind) (n : Int) : Q9 hp (.int k n) = .int k n := rfl
theorem Q0p (hp : HP) (b : Bool) : Q9 hp (.bool b) = .bool b := rfl
theorem Q34 (hp : HP) (cs : List PV) : Q9 hp (.agg cs) = .agg cs := rfl
theorem Q35 (hp : HP) : Q9 hp .nilS = .nilS := rfl
theorem Qxb (hp : HP) (β n : Nat) (e ty : Nat) (xs : List PV) (fz : Bool) (h : hp β = some ⟨e, ty, xs, fz⟩) (hB : isB β = false := by decide) : Q9 hp (.ms β n) = .sl e (xs.take n) := by simp [Q9, Qaw, h, Qjb hB]
theorem Q8r (e : Nat) (xs : List PV) : (PV.sl e xs).refs = [] := rfl
theorem Q36 (k : IntKind) (n : Int) : (PV.int k n).refs = [] := rfl
theorem Q0q (b : Bool) : (PV.bool b).refs = [] := rfl
theorem Q37 (cs : List PV) : (PV.agg cs).refs = [] := rfl
theorem Q38 : PV.nilS.refs = [] := rfl
theorem Q39 (β e : Nat) (xs : List PV) : Qan β (.sl e xs) = .sl e xs := rfl
theorem Q0r (β : Nat) (k : IntKind) (n : Int) : Qan β (.int k n) = .int k n := rfl
theorem Qyp (β : Nat) (b : Bool) : Qan β (.bool b) = .bool b := rfl
theorem Q0s (β : Nat) (cs : List PV) : Qan β (.agg cs) = .agg cs := rfl
theorem Q0t (β : Nat) : Qan β .nilS = .nilS := rfl
theorem Que (β γ o n : Nat) : Qan β (.mso γ o n) = if γ = β then .undef else .mso γ o n := by
 by_cases h : γ = β
 ·subst h; simp [Qan, PV.refs]
 ·simp [Qan, PV.refs, h]; intro h'; exact absurd h'.symm h
theorem Q4a (β γ o n : Nat) : Qan β (.rb γ o n) = if γ = β then .undef else .rb γ o n := by
 by_cases h : γ = β
 ·subst h; simp [Qan, PV.refs]
 ·simp [Qan, PV.refs, h]; intro h'; exact absurd h'.symm h
theorem Quf (β γ i o : Nat) : Qan β (.mp γ i o) = if γ = β then .undef else .mp γ i o := by
 by_cases h : γ = β
 ·subst h; simp [Qan, PV.refs]
 ·simp [Qan, PV.refs, h]; intro h'; exact absurd h'.symm h
theorem Qafq :
  (∀ (fr : Fr) (a : Nat) (v : PV) (b : Nat), upd fr a v b = if b = a then v else fr b) /\
  (∀ (h : HP) (a : Nat) (v : HB) (b : Nat), Qj h a v b = if b = a then some v else h b) /\
  (∀ (β : Nat), hp0 β = none) /\
  (∀ (hp : HP) (e : Nat) (xs : List PV), Q9 hp (.sl e xs) = .sl e xs) /\
  (∀ (hp : HP) (k : IntKind) (n : Int), Q9 hp (.int k n) = .int k n) /\
  (∀ (hp : HP) (b : Bool), Q9 hp (.bool b) = .bool b) /\
  (∀ (hp : HP) (cs : List PV), Q9 hp (.agg cs) = .agg cs) /\
  (∀ (hp : HP), Q9 hp .nilS = .nilS) /\
  (∀ (e : Nat) (xs : List PV), (PV.sl e xs).refs = []) /\
  (∀ (k : IntKind) (n : Int), (PV.int k n).refs = []) /\
  (∀ (b : Bool), (PV.bool b).refs = []) /\
  (∀ (cs : List PV), (PV.agg cs).refs = []) /\
  (PV.nilS.refs = []) /\
  (∀ (β o n : Nat), (PV.mso β o n).refs = [β]) /\
  (∀ (β i o : Nat), (PV.mp β i o).refs = [β]) /\
  (∀ (β e : Nat) (xs : List PV), Qan β (.sl e xs) = .sl e xs) /\
  (∀ (β : Nat) (k : IntKind) (n : Int), Qan β (.int k n) = .int k n) /\
  (∀ (β : Nat) (b : Bool), Qan β (.bool b) = .bool b) /\
  (∀ (β : Nat) (cs : List PV), Qan β (.agg cs) = .agg cs) /\
  (∀ (β : Nat), Qan β .nilS = .nilS) /\
  (∀ (β γ o n : Nat), Qan β (.mso γ o n) = if γ = β then .undef else .mso γ o n) /\
  (∀ (β γ i o : Nat), Qan β (.mp γ i o) = if γ = β then .undef else .mp γ i o) /\
  (∀ (β γ o n : Nat), Qan β (.rb γ o n) = if γ = β then .undef else .rb γ o n) /\
  (∀ (β o n : Nat), (PV.rb β o n).refs = [β]) /\
  (∀ (o : SOp) (fr : Fr) (hp : HP) (K : Qf), Qdp o fr hp K = match o.dst with | some d => K (upd fr d (.tup [])) hp | none => K fr hp) /\
  (∀ (f : Opd -> PV), Option.map f none = none) /\ (∀ (f : Opd -> PV) (x : Opd), Option.map f (some x) = some (f x)) /\
  (∀ (k : IntKind) (n : Int), (PV.int k n).cells = [.int k n]) /\
  (∀ (b : Bool), (PV.bool b).cells = [.bool b]) /\
  (∀ (e : Nat) (xs : List PV), (PV.sl e xs).cells = [.sl e xs]) /\
  (∀ (cs : List PV), (PV.agg cs).cells = cs) := by
 refine ⟨fun _ _ _ _ => rfl, fun _ _ _ _ => rfl, fun _ => rfl, Q8q, Q33, Q0p, Q34, Q35, Q8r, Q36, Q0q, Q37, Q38, fun _ _ _ => rfl, fun _ _ _ => rfl, Q39, Q0r, Qyp, Q0s, Q0t, Que, Quf, Q4a, fun _ _ _ => rfl, fun _ _ _ _ => rfl, fun _ => rfl, fun _ _ => rfl, fun _ _ => rfl, fun _ => rfl, fun _ _ => rfl, fun _ => rfl⟩
theorem Qafr {p : Nat -> Prop} (h : ∃ m, p m) : ∃ m, p m /\ ∀ k, p k -> m <= k := by
 obtain ⟨m, hm⟩ := h
 induction m using Nat.strongRecOn with
 | ind m ih =>
  by_cases hk : ∃ k, k < m /\ p k
  ·obtain ⟨k, h1, h2⟩ := hk; exact ih k h1 h2
  ·exact ⟨m, hm, fun k hk' => Nat.le_of_not_lt fun hlt => hk ⟨k, hlt, hk'⟩⟩
def Qk8 (I : Nat -> Qf) (n : Nat) : Qf := fun fr' hp' => ∃ fr0 hp0, Wk fr' hp' fr0 hp0 /\ ∃ m, m < n /\ I m fr0 hp0
theorem Qb3 {I : Nat -> Qf} {n m : Nat} (hl : m < n) (h : I m fr hp) : Qk8 I n fr hp := ⟨fr, hp, Wk.refl _ _, m, hl, h⟩
theorem Qpe {I : Nat -> Qf} {n m : Nat} {fr' : Fr} {hp' : HP} (hl : m < n) (hw : Wk fr hp fr' hp') (h : I m fr' hp') : Qk8 I n fr hp := ⟨fr', hp', hw, m, hl, h⟩
theorem Qh9 {sk : List It} {x : SC} (I : Nat -> Qf) (m0 : Nat) {fr0 : Fr} {hp0 : HP} (hw : Wk fr hp fr0 hp0) (h0 : I m0 fr0 hp0) (h : ∀ m fr hp, I m fr hp -> vc C R (.c x :: .el (Qk8 I m) :: sk) fr hp) : vc C R (.c (.loop x) :: sk) fr hp := by
 refine Q3w (fun fr hp => ∃ m, I m fr hp) (fun fr hp => Classical.epsilon fun m => I m fr hp /\ ∀ k, I k fr hp -> m <= k) hw ⟨m0, h0⟩ ?_
 intro fr hp hI
 have key : ∀ fr hp, (∃ m, I m fr hp) -> I (Classical.epsilon fun m => I m fr hp /\ ∀ k, I k fr hp -> m <= k) fr hp /\ ∀ k, I k fr hp -> (Classical.epsilon fun m => I m fr hp /\ ∀ k, I k fr hp -> m <= k) <= k := fun fr hp hI => Classical.epsilon_spec (Qafr hI)
 have e : Qn5 (fun fr hp => ∃ m, I m fr hp) (fun fr hp => Classical.epsilon fun m => I m fr hp /\ ∀ k, I k fr hp -> m <= k) (Classical.epsilon fun m => I m fr hp /\ ∀ k, I k fr hp -> m <= k) = Qk8 I (Classical.epsilon fun m => I m fr hp /\ ∀ k, I k fr hp -> m <= k) := by
  funext fr' hp'
  apply propext
  constructor
  ·rintro ⟨fr0, hp0, h1, h2, h3⟩; exact ⟨fr0, hp0, h1, _, h3, (key fr0 hp0 h2).1⟩
  ·rintro ⟨fr0, hp0, h1, m, h2, h3⟩; exact ⟨fr0, hp0, h1, ⟨m, h3⟩, Nat.lt_of_le_of_lt ((key fr0 hp0 ⟨m, h3⟩).2 m h3) h2⟩
 rw [e]
 exact h _ fr hp (key fr hp hI).1
theorem Qen {sk : List It} {x : SC} (I : Nat -> Qf) (m0 : Nat) (h0 : I m0 fr hp) (h : ∀ m fr hp, I m fr hp -> vc C R (.c x :: .el (Qk8 I m) :: sk) fr hp) : vc C R (.c (.loop x) :: sk) fr hp :=
 Qh9 I m0 (Wk.refl _ _) h0 h
theorem Qacq {α : Type} {e : Nat} {f : α -> PV} : PV.le .nilS (.sl e (([] : List α).map f)) := trivial
theorem Qa {P : Program} (hP : C.P = P) {g : FuncId} {first cap args pargs : List PV} {pr : Bool} {d : Option Nat} {r : PV} (h : Qd P g pargs (· = r)) (hargs : (first ++ args ++ cap).map (Q9 hp) = pargs) (hdat : pargs.all PV.isData = true) (hr : (first ++ args ++ cap).flatMap PV.refs = [])
  (hK : K (Qby fr d r) hp) : Qcj C pr (.fn g first cap) args d fr hp K := by
 refine Qcn hP h hargs hdat ?_
 rw [hr]; exact hK
theorem Qck {P : Program} (hP : C.P = P) {g : FuncId} {first cap args pargs : List PV} {pr : Bool} {d : Option Nat} {Rr : PV -> Prop} (h : Qd P g pargs Rr) (hargs : (first ++ args ++ cap).map (Q9 hp) = pargs) (hdat : pargs.all PV.isData = true) (hr : (first ++ args ++ cap).flatMap PV.refs = [])
  (hK : ∀ r, Rr r -> K (Qby fr d r) hp) : Qcj C pr (.fn g first cap) args d fr hp K := by
 refine Qse hP h hargs hdat fun r h => ?_
 rw [hr]; exact hK r h
theorem Q8s {d β n ty : Nat} {xs ys : List PV} (hb : hp β = some ⟨1, ty, xs, false⟩) (hn : n = xs.length) :
  Qjc 1 (.ms β n) (.sl 1 ys) d fr hp K = K (upd fr d (.int .i64 (min (ys.length : Int) n))) (Qj hp β ⟨1, ty, ys.take n ++ xs.drop ys.length, false⟩) := by
 simp [Qjc, Qdk, hb, hn]
theorem Q4b {d β n ty e : Nat} {xs ys : List PV} (hb : hp β = some ⟨e, ty, xs, false⟩) (he : 0 < e) (hn : n = xs.length) :
  Qjc e (.ms β n) (.sl e ys) d fr hp K = K (upd fr d (.int .i64 (min (ys.length : Int) n))) (Qj hp β ⟨e, ty, ys.take n ++ xs.drop ys.length, false⟩) := by
 simp [Qjc, Qdk, hb, hn, he]
theorem Q0u {by_ ty d : Nat} {kz k k' : IntKind} {nz : Int} {L Cc : Int} (h1 : 0 <= L) (h2 : L <= Cc) (h3 : by_ * Cc <= 281474976710656) (h4 : Cc <= 9223372036854775807) :
  mkK 1 by_ ty (.int kz nz) (.int k L) (.int k' Cc) d fr hp K = K (upd (Qaq d fr) d (.ms d L.toNat)) (Qj hp d ⟨1, ty, List.replicate L.toNat (.int kz nz), false⟩) := by
 exact Qtk (e := 1) (by omega) rfl h1 h2 h3 h4
theorem Q0v {ty β i : Nat} {xs : List PV} {k : IntKind} {n : Int} (h : i < xs.length) : stM (some ⟨1, ty, xs, false⟩) β 1 i 0 (.int k n) fr hp K = K fr (Qj hp β ⟨1, ty, xs.set i (.int k n), false⟩) :=
 Qfq h rfl rfl
theorem Q0w (h : HP) (a : Nat) (v w : HB) : Qj (Qj h a v) a w = Qj h a w := by funext i; unfold Qj; split <;> rfl
theorem Qacr {ty d : Nat} {k : IntKind} {n : Int} : bsK 1 ty [.int k n] d fr hp K = K (upd (Qaq d fr) d (.ms d 1)) (Qj hp d ⟨1, ty, [.int k n], false⟩) := by
 simp [bsK, Qn1, Q9, Qaw, PV.refs, PV.isData, PV.cells]
 rfl
theorem Qn6 {β n e ty : Nat} {xs : List PV} {fz : Bool} {r : PV} (hb : hp β = some ⟨e, ty, xs, fz⟩) (h : PV.sl e (xs.take n) = r) (hB : isB β = false := by decide) : Qri (· = r) (Q9 hp (.ms β n)) := by
 rw [Qxb hp β n e ty xs fz hb hB]; exact Qc h (by rw [<- h]; rfl)
theorem Qpf {e by_ ty ty' d β γ n : Nat} {xs : List PV} {y : PV} {fz : Bool} (hb : hp β = some ⟨e, ty, xs, false⟩) (hy : hp γ = some ⟨e, ty', [y], fz⟩) (h0 : 0 < e) (hn : n = xs.length) (h1 : (n + 1) * by_ <= 140737488355328) (h2 : n + 1 <= 9223372036854775807) (hB : isB β = false := by decide) :
  Qek e by_ ty (.ms β n) (.ms γ 1) d fr hp K = K (upd (Qaq β fr) d (.ms β (n + 1))) (Qj hp β ⟨e, ty, xs ++ [y], false⟩) := by
 subst hn
 rw [Ql2 (ys := [y]) (xs := xs) (by simp [Qdk, hy]) hb h0 (Nat.le_refl _) (by simpa using h1) (by simpa using h2) hB]
 simp
theorem Qjm (n : Nat) : IntKind.u16.wrap (n : Int) = ((n % 65536 : Nat) : Int) := by simp only [IntKind.wrap, IntKind.bits, IntKind.signed]; simp
theorem Qug {bt : Bool} {k k' : IntKind} {x y : Int} {d : Nat} (h : 0 <= y) : Qa2 .shr bt (.int k x) (.int k' y) d fr hp K = K (upd fr d (.int k (x.fdiv (2 ^ (min y.toNat k.bits))))) hp := by simp [Qa2, h]
theorem Qng {bt : Bool} {k' : IntKind} {n d : Nat} : Qa2 .shr bt (.int .u64 (n : Int)) (.int k' 16) d fr hp K = K (upd fr d (.int .u64 ((n / 65536 : Nat) : Int))) hp := by
 rw [Qug (by omega)]
 have : min (16 : Int).toNat IntKind.u64.bits = 16 := by decide
 rw [this, Int.fdiv_eq_ediv_of_nonneg _ (by omega)]
 simp
theorem Q0x {bt : Bool} {k' : IntKind} {n d : Nat} : Qa2 .shr bt (.int .u32 (n : Int)) (.int k' 16) d fr hp K = K (upd fr d (.int .u32 ((n / 65536 : Nat) : Int))) hp := by
 rw [Qug (by omega)]
 have : min (16 : Int).toNat IntKind.u32.bits = 16 := by decide
 rw [this, Int.fdiv_eq_ediv_of_nonneg _ (by omega)]
 simp
end Go.FW
namespace Go.FW
def val : List Nat -> Nat
 | [] => 0
 | x :: xs => x + 65536 * val xs
def Qg (l : List Nat) : Prop := ∀ x ∈ l, x < 65536
def dig (n : Nat) : List Nat := if h : n = 0 then [] else n % 65536 :: dig (n / 65536)
termination_by n
decreasing_by omega
def nl (n : Nat) : Nat := (dig n).length
theorem Qco : Qg [] := by simp [Qg]
theorem Qau {x : Nat} {l : List Nat} : Qg (x :: l) ↔ x < 65536 /\ Qg l := by simp [Qg]
theorem Qbq {l m : List Nat} : Qg (l ++ m) ↔ Qg l /\ Qg m := by
 simp only [Qg, List.mem_append]; constructor
 ·intro h; exact ⟨fun x hx => h x (.inl hx), fun x hx => h x (.inr hx)⟩
 ·rintro ⟨h1, h2⟩ x (hx | hx)
  ·exact h1 x hx
  ·exact h2 x hx
theorem Qf1 {l : List Nat} (h : Qg l) (n : Nat) : Qg (l.take n) := fun x hx => h x (List.mem_of_mem_take hx)
theorem Qg0 {l : List Nat} (h : Qg l) (n : Nat) : Qg (l.drop n) := fun x hx => h x (List.mem_of_mem_drop hx)
theorem Qaj {l : List Nat} (h : Qg l) {i : Nat} (hi : i < l.length) : l[i] < 65536 := h _ (List.getElem_mem hi)
theorem Qa1 : dig 0 = [] := by rw [dig]; simp
theorem Qgn {n : Nat} (h : n ≠ 0) : dig n = n % 65536 :: dig (n / 65536) := by rw [dig]; simp [h]
theorem Qi (n : Nat) : Qg (dig n) := by
 induction n using dig.induct with
 | case1 => rw [Qa1]; exact Qco
 | case2 n h ih => rw [Qgn h, Qau]; exact ⟨by omega, ih⟩
theorem Qy (n : Nat) : val (dig n) = n := by
 induction n using dig.induct with
 | case1 => rw [Qa1]; rfl
 | case2 n h ih => rw [Qgn h, val, ih]; omega
theorem Qbk {n : Nat} : dig n = [] ↔ n = 0 := by
 constructor
 ·intro h; have := Qy n; rw [h] at this; exact this.symm
 ·rintro rfl; exact Qa1
theorem Qrj : nl 0 = 0 := by simp [nl, Qa1]
theorem Qiq {n : Nat} : nl n = 0 ↔ n = 0 := by rw [nl, List.length_eq_zero_iff, Qbk]
theorem Qacs {n : Nat} (h : n ≠ 0) : nl n = nl (n / 65536) + 1 := by simp [nl, Qgn h]
theorem Qb7 (l m : List Nat) : val (l ++ m) = val l + 65536 ^ l.length * val m := by
 induction l with
 | nil => simp [val]
 | cons x l ih => simp only [List.cons_append, val, ih, List.length_cons, Nat.pow_succ]; rw [Nat.mul_add, <- Nat.mul_assoc, Nat.mul_comm 65536 (65536 ^ _)]; omega
theorem Qfa {l : List Nat} (h : Qg l) : val l < 65536 ^ l.length := by
 induction l with
 | nil => simp [val]
 | cons x l ih => rw [Qau] at h; have := ih h.2; simp only [val, List.length_cons, Nat.pow_succ]; omega
theorem Qsf (n : Nat) : val (List.replicate n 0) = 0 := by
 induction n with
 | zero => rfl
 | succ n ih => simp [List.replicate_succ, val, ih]
theorem Qk9 {l : List Nat} (h : Qg l) (hl : l.getLast? ≠ some 0) : dig (val l) = l := by
 induction l with
 | nil => simp [val, Qa1]
 | cons x l ih =>
  rw [Qau] at h
  have hl' : l.getLast? ≠ some 0 := by
   intro hh; apply hl
   rw [List.getLast?_cons, hh]; rfl
  have hne : val (x :: l) ≠ 0 := by
   simp only [val]
   intro h0
   have h1 : val l = 0 := by omega
   have := ih h.2 hl'
   rw [h1, Qa1] at this
   subst this
   simp at hl; omega
  rw [Qgn hne]
  simp only [val]
  rw [show (x + 65536 * val l) % 65536 = x by omega, show (x + 65536 * val l) / 65536 = val l by omega, ih h.2 hl']
theorem Qjn (n : Nat) : (dig n).getLast? ≠ some 0 := by
 induction n using dig.induct with
 | case1 => simp [Qa1]
 | case2 n h ih =>
  rw [Qgn h, List.getLast?_cons]
  cases hd : (dig (n / 65536)).getLast? with
  | none =>
   have : n / 65536 = 0 := by rw [List.getLast?_eq_none_iff, Qbk] at hd; exact hd
   simp; omega
  | some y => rw [hd] at ih; simpa using ih
def cut (l : List Nat) : Nat -> List Nat
 | 0 => []
 | n + 1 => if l[n]? = some 0 then cut l n else l.take (n + 1)
theorem Q0y {l : List Nat} (h : Qg l) : ∀ n, n <= l.length -> cut l n = dig (val (l.take n))
 | 0, _ => by simp [cut, val, Qa1]
 | n + 1, hn => by
  have e : l.take (n + 1) = l.take n ++ [l[n]] := by rw [List.take_succ_eq_append_getElem (by omega)]
  unfold cut
  split
  ·rename_i hz
   rw [Q0y h n (by omega), e, Qb7]
   rw [List.getElem?_eq_getElem (by omega)] at hz
   have hz' : l[n] = 0 := by simpa using hz
   simp [val, hz']
  ·rename_i hz
   rw [Qk9 (Qf1 h _)]
   rw [e, List.getLast?_concat]
   intro h0; apply hz; rw [List.getElem?_eq_getElem (by omega)]; exact h0
theorem Qla {l : List Nat} (h : Qg l) : cut l l.length = dig (val l) := by rw [Q0y h _ (Nat.le_refl _), List.take_length]
theorem Qal {l : List Nat} (h : Qg l) : nl (val l) <= l.length := by
 rw [nl, <- Qla h]
 have : ∀ n, (cut l n).length <= n := by
  intro n
  induction n with
  | zero => simp [cut]
  | succ n ih =>
   unfold cut
   split
   ·omega
   ·simp; omega
 have h1 := this l.length
 exact h1
theorem Qfk {n k : Nat} : nl n <= k ↔ n < 65536 ^ k := by
 induction k generalizing n with
 | zero => simp [Qiq]
 | succ k ih =>
  by_cases h : n = 0
  ·subst h; simp [Qrj]
   exact Nat.pow_pos (by omega)
  ·rw [Qacs h, Nat.add_le_add_iff_right, ih, Nat.pow_succ, Nat.div_lt_iff_lt_mul (by omega)]
theorem Qbx {m n : Nat} (h : m <= n) : nl m <= nl n := Qfk.2 (Nat.lt_of_le_of_lt h (Qfk.1 (Nat.le_refl _)))
theorem Q0z (m n : Nat) : nl (m + n) <= max (nl m) (nl n) + 1 := by
 rw [Qfk, Nat.pow_succ]
 have h1 : m < 65536 ^ (max (nl m) (nl n)) := Qfk.1 (by omega)
 have h2 : n < 65536 ^ (max (nl m) (nl n)) := Qfk.1 (by omega)
 omega
theorem Qfr (m n : Nat) : nl (m * n) <= nl m + nl n := by
 rw [Qfk, Nat.pow_add]
 exact Nat.mul_lt_mul'' (Qfk.1 (Nat.le_refl _)) (Qfk.1 (Nat.le_refl _))
theorem Qd3 {n : Nat} (h : n < 18446744073709551616) : nl n <= 4 := Qfk.2 (by simpa using h)
theorem Qj2 {n : Nat} : nl n <= 4 ↔ n < 18446744073709551616 := by rw [Qfk]
theorem Qf2 : dig 1 = [1] := by rw [Qgn (by omega)]; simp [Qa1]
end Go.FW
namespace Go.FW
open Go
variable {C : Ctx} {ρ : Nat -> Option Nat} {fr : Fr} {hp : HP} {w : World} {K R : Qf}
abbrev Qaz (l : List Nat) : List PV := l.map fun (x : Nat) => .int .u16 x
abbrev Qpg (l : List Int) : List PV := l.map fun (x : Int) => .int .i64 x
theorem Qact (a b : Nat) : (a : Int) + (b : Int) = ((a + b : Nat) : Int) := rfl
theorem Q8t (a : Nat) : (a : Int) + 1 = ((a + 1 : Nat) : Int) := rfl
theorem Q8u (a : Nat) : (a : Int) + 2 = ((a + 2 : Nat) : Int) := rfl
theorem Q8v (a : Nat) : (a : Int) + 3 = ((a + 3 : Nat) : Int) := rfl
theorem Qacu (a b : Nat) : (a : Int) * (b : Int) = ((a * b : Nat) : Int) := rfl
theorem Q8w {α : Type} {f : α -> PV} {e d : Nat} {k : IntKind} {i : Nat} {xs : List α} (h : i < xs.length) :
  Qd7 e (.sl e (xs.map f)) (.int k (i : Int)) d fr hp K = K (upd fr d (.pt (f (xs[i]'h)).cells)) hp := by
 rw [Qix (by omega) (by omega)]; rfl
theorem Q8x {e d β o n i : Nat} {k : IntKind} (h : i < n) (he : (hp β).map (·.e) = some e) : Qd7 e (.mso β o n) (.int k (i : Int)) d fr hp K = K (upd fr d (.mp β (o + i) 0)) hp := by
 rw [Qaco (by omega) (by omega) he]; rfl
theorem Qacv {α : Type} {f : α -> PV} {e d : Nat} {xs : List α} {k : IntKind} {n : Nat} (h5 : n <= xs.length) :
  slK e (.sl e (xs.map f)) none (some (.int k (n : Int))) none d fr hp K = K (upd fr d (.sl e ((xs.take n).map f))) hp := by
 rw [Qh8 (by omega) (by omega)]; rfl
theorem Qacw {α : Type} {f : α -> PV} {e d : Nat} {xs : List α} {k : IntKind} {n : Nat} (h5 : n <= xs.length) :
  slK e (.sl e (xs.map f)) (some (.int k (n : Int))) none none d fr hp K = K (upd fr d (.sl e ((xs.drop n).map f))) hp := by
 rw [Q0o (by omega) (by omega)]; rfl
theorem Q4c {α : Type} {f : α -> PV} {e d : Nat} {xs : List α} {k k' : IntKind} {m n : Nat} (h4 : m <= n) (h5 : n <= xs.length) :
  slK e (.sl e (xs.map f)) (some (.int k (m : Int))) (some (.int k' (n : Int))) none d fr hp K = K (upd fr d (.sl e (((xs.take n).drop m).map f))) hp := by
 rw [Qwb (by omega) (by omega) (by omega)]; rfl
theorem Qacx {by_ ty d : Nat} {k k' : IntKind} {n c : Nat} (h2 : n <= c) (h3 : by_ * c <= 281474976710656) (h4 : c <= 9223372036854775807) :
  mkK 1 by_ ty (.int .u16 0) (.int k (n : Int)) (.int k' (c : Int)) d fr hp K = K (upd (Qaq d fr) d (.ms d n)) (Qj hp d ⟨1, ty, Qaz (List.replicate n 0), false⟩) := by
 rw [Q0u (by omega) (by omega) (by omega) (by omega)]
 simp [Qaz]
theorem Qacy {ty i d : Nat} {fz : Bool} {l : List Nat} (h : i < l.length) : ldM (some ⟨1, ty, Qaz l, fz⟩) 1 false i 0 d fr hp K = K (upd fr d (.int .u16 (l[i]'h : Nat))) hp := by
 rw [Qh7 (by simpa using h) (by omega) (by simp)]; simp [ldV, PV.cells]
theorem Qacz {ty i d : Nat} {fz : Bool} {l : List Int} (h : i < l.length) : ldM (some ⟨1, ty, Qpg l, fz⟩) 1 false i 0 d fr hp K = K (upd fr d (.int .i64 (l[i]'h))) hp := by
 rw [Qh7 (by simpa using h) (by omega) (by simp)]; simp [ldV, PV.cells]
theorem Q00 {ty β i v : Nat} {l : List Nat} (h : i < l.length) : stM (some ⟨1, ty, Qaz l, false⟩) β 1 i 0 (.int .u16 (v : Int)) fr hp K = K fr (Qj hp β ⟨1, ty, Qaz (l.set i v), false⟩) := by
 rw [Q0v (by simpa using h)]; simp [Qaz, List.map_set]
theorem Qac0 {ty β i : Nat} {v : Int} {l : List Int} (h : i < l.length) : stM (some ⟨1, ty, Qpg l, false⟩) β 1 i 0 (.int .i64 v) fr hp K = K fr (Qj hp β ⟨1, ty, Qpg (l.set i v), false⟩) := by
 rw [Q0v (by simpa using h)]; simp [Qpg, List.map_set]
theorem Q4d {β n ty : Nat} {l : List Nat} {fz : Bool} (h : hp β = some ⟨1, ty, Qaz l, fz⟩) (hn : n = l.length) (hB : isB β = false := by decide) : Q9 hp (.ms β n) = .sl 1 (Qaz l) := by
 rw [Qxb hp β n _ _ _ _ h hB, List.take_of_length_le (by simp [hn])]
theorem Qfs {P : Program} (hP : C.P = P) {g : FuncId} {first cap args pargs : List PV} {pr : Bool} {d : Option Nat} {r : PV} (h : Qd P g pargs (· = r)) (hargs : (first ++ args ++ cap).map (Q9 hp) = pargs) (hdat : pargs.all PV.isData = true)
  (hK : ∀ hp', K (Qby fr d r) hp') : Qcj C pr (.fn g first cap) args d fr hp K := Qcn hP h hargs hdat (hK _)
end Go.FW
namespace Go.FW
def Qdr (x y : Nat) : Int := if x < y then -1 else if y < x then 1 else 0
theorem Qrk {x y : Nat} (h : x < y) : Qdr x y = -1 := by simp [Qdr, h]
theorem Qrl {x y : Nat} (h : y < x) : Qdr x y = 1 := by simp [Qdr, h]; omega
theorem Qxc {x y : Nat} (h : x = y) : Qdr x y = 0 := by simp [Qdr, h]
theorem Quh {x y : Nat} (h : nl x < nl y) : x < y := by
 rcases Nat.lt_or_ge x y with h1 | h1
 ·exact h1
 ·have := Qbx h1; omega
theorem Qdi (l : List Nat) (k : Nat) (hk : k <= l.length) : val l = val (l.take k) + 65536 ^ k * val (l.drop k) := by
 have := Qb7 (l.take k) (l.drop k)
 rw [List.take_append_drop, List.length_take, Nat.min_eq_left hk] at this
 exact this
theorem Qdv {l : List Nat} (h : Qg l) (k : Nat) (hk : k <= l.length) : val (l.take k) < 65536 ^ k := by
 have := Qfa (Qf1 h k)
 rwa [List.length_take, Nat.min_eq_left hk] at this
theorem Qcl {l : List Nat} {k : Nat} (hk : k < l.length) : val (l.drop k) = l[k] + 65536 * val (l.drop (k + 1)) := by
 rw [List.drop_eq_getElem_cons hk, val]
theorem Qwc {a b : List Nat} (ha : Qg a) {k : Nat} (hka : k <= a.length) (hkb : k <= b.length) (h : val (a.drop k) < val (b.drop k)) : val a < val b := by
 rw [Qdi a k hka, Qdi b k hkb]
 have h1 := Qdv ha k hka
 have h2 : 65536 ^ k * (val (a.drop k) + 1) <= 65536 ^ k * val (b.drop k) := Nat.mul_le_mul_left _ h
 rw [Nat.mul_add] at h2
 omega
theorem Qsg {a b : List Nat} (ha : Qg a) {k : Nat} (hka : k < a.length) (hkb : k < b.length) (h : a[k] < b[k]) (he : val (a.drop (k + 1)) = val (b.drop (k + 1))) : val a < val b := by
 refine Qwc ha (k := k) (by omega) (by omega) ?_
 rw [Qcl hka, Qcl hkb, he]; omega
def Qex : List Nat -> List Nat -> Nat -> List Nat
 | [], _, c => if c = 0 then [] else [c]
 | x :: xs, ys, c => (c + x + ys.headD 0) % 65536 :: Qex xs ys.tail ((c + x + ys.headD 0) / 65536)
theorem Qia (l : List Nat) : val l = l.headD 0 + 65536 * val l.tail := by cases l <;> simp [val]
theorem Qui : ∀ (a b : List Nat) (c : Nat), b.length <= a.length -> val (Qex a b c) = val a + val b + c
 | [], b, c, h => by
  have : b = [] := List.length_eq_zero_iff.1 (by simpa using h)
  subst this
  unfold Qex; split <;> simp [val]; omega
 | x :: xs, b, c, h => by
  rw [Qex, val, Qui xs b.tail _ (by simp at h ⊢; omega), val, Qia b]
  omega
theorem Qqa : ∀ (a b : List Nat) (c : Nat), c < 65536 -> Qg a -> Qg b -> b.length <= a.length -> Qg (Qex a b c)
 | [], b, c, hc, _, _, _ => by unfold Qex; split <;> simp [Qg]; exact hc
 | x :: xs, b, c, hc, ha, hb, h => by
  rw [Qau] at ha
  have hb0 : b.headD 0 < 65536 := by cases b with | nil => simp | cons y ys => exact hb _ (by simp)
  rw [Qex, Qau]
  exact ⟨by omega, Qqa xs b.tail _ (by omega) ha.2 (fun x hx => hb x (List.mem_of_mem_tail hx)) (by simp at h ⊢; omega)⟩
theorem Qsh : ∀ (a b : List Nat) (c : Nat), a.getLast? ≠ some 0 -> (Qex a b c).getLast? ≠ some 0
 | [], b, c, _ => by unfold Qex; split <;> simp; assumption
 | x :: xs, b, c, h => by
  rw [Qex, List.getLast?_cons]
  cases xs with
  | nil =>
   simp only [List.getLast?_singleton, ne_eq, Option.some.injEq] at h
   simp only [Qex]
   generalize b.headD 0 = y
   split
   ·rename_i h0; simp; omega
   ·rename_i h0; simp; omega
  | cons y ys =>
   have ih := Qsh (y :: ys) b.tail ((c + x + b.headD 0) / 65536) (by rw [List.getLast?_cons] at h; simpa [List.getLast?_cons] using h)
   cases hl : (Qex (y :: ys) b.tail ((c + x + b.headD 0) / 65536)).getLast? with
   | none => rw [List.getLast?_eq_none_iff] at hl; simp [Qex] at hl
   | some z => rw [hl] at ih; simpa using ih
theorem Q4e {x y : Nat} (h : nl y <= nl x) : Qex (dig x) (dig y) 0 = dig (x + y) := by
 have h1 := Qui (dig x) (dig y) 0 h
 rw [Qy, Qy, Nat.add_zero] at h1
 rw [<- h1, Qk9 (Qqa _ _ _ (by omega) (Qi x) (Qi y) h) (Qsh _ _ _ (Qjn x))]
def Qgk : List Nat -> List Nat -> Nat -> List Nat
 | [], _, _ => []
 | x :: xs, ys, c => (x + 65536 - c - ys.headD 0) % 65536 :: Qgk xs ys.tail (if x < c + ys.headD 0 then 1 else 0)
theorem Qqb : ∀ (a b : List Nat) (c : Nat), Qg (Qgk a b c)
 | [], _, _ => Qco
 | x :: xs, b, c => by rw [Qgk, Qau]; exact ⟨by omega, Qqb xs _ _⟩
theorem Qoq : ∀ (a b : List Nat) (c : Nat), (Qgk a b c).length = a.length
 | [], _, _ => rfl
 | x :: xs, b, c => by simp [Qgk, Qoq xs]
theorem Quj : ∀ (a b : List Nat) (c : Nat), c <= 1 -> Qg a -> Qg b -> b.length <= a.length -> val b + c <= val a -> val (Qgk a b c) + val b + c = val a
 | [], b, c, _, _, _, h, h2 => by
  have : b = [] := List.length_eq_zero_iff.1 (by simpa using h)
  subst this
  simp [val] at h2 ⊢; simp [Qgk, val, h2]
 | x :: xs, b, c, hc, ha, hb, h, h2 => by
  rw [Qau] at ha
  have hb0 : b.headD 0 < 65536 := by cases b with | nil => simp | cons y ys => exact hb _ (by simp)
  rw [val, Qia b] at h2
  rw [Qgk, val, val, Qia b]
  have ih := Quj xs b.tail (if x < c + b.headD 0 then 1 else 0) (by split <;> omega) ha.2 (fun x hx => hb x (List.mem_of_mem_tail hx)) (by simp at h ⊢; omega) (by generalize b.headD 0 = y at *; split <;> omega)
  generalize b.headD 0 = y at *
  split at ih
  ·rename_i h0; rw [if_pos h0]; omega
  ·rename_i h0; rw [if_neg h0]; omega
theorem Qeo {done : List Nat} {i n v : Nat} (h : done.length = i) (hn : 0 < n) : (done ++ List.replicate n 0).set i v = (done ++ [v]) ++ List.replicate (n - 1) 0 := by
 subst h
 obtain ⟨n, rfl⟩ : ∃ k, n = k + 1 := ⟨n - 1, by omega⟩
 simp [List.replicate_succ]
theorem Qph {done : List Nat} {i n m : Nat} (h : done.length = i) (hn : i + n = m) : (done ++ List.replicate n 0).length = m := by simp [h, hn]
theorem Q01 {a b : List Nat} {i c : Nat} (h : i < a.length) : Qex (a.drop i) (b.drop i) c = (c + a[i] + b.getD i 0) % 65536 :: Qex (a.drop (i + 1)) (b.drop (i + 1)) ((c + a[i] + b.getD i 0) / 65536) := by
 rw [List.drop_eq_getElem_cons h, Qex]
 simp [List.headD_eq_head?_getD, List.head?_drop, List.getD_eq_getElem?_getD]
theorem Q02 {a b : List Nat} {i c : Nat} (h : i < a.length) : Qgk (a.drop i) (b.drop i) c = (a[i] + 65536 - c - b.getD i 0) % 65536 :: Qgk (a.drop (i + 1)) (b.drop (i + 1)) (if a[i] < c + b.getD i 0 then 1 else 0) := by
 rw [List.drop_eq_getElem_cons h, Qgk]
 simp [List.headD_eq_head?_getD, List.head?_drop, List.getD_eq_getElem?_getD]
theorem Qbf {b : List Nat} {i : Nat} (h : i < b.length) : b.getD i 0 = b[i] := by simp [List.getD_eq_getElem?_getD, h]
theorem Qbg {b : List Nat} {i : Nat} (h : ¬ i < b.length) : b.getD i 0 = 0 := by simp [List.getD_eq_getElem?_getD, h]
end Go.FW
namespace Go.FW
open Go
variable {C : Ctx} {ρ : Nat -> Option Nat} {fr : Fr} {hp : HP} {w : World} {K K' R : Qf}
theorem Qpi (h : ∀ fr hp, K fr hp -> K' fr hp) (o : SOp) : opV C o fr hp K -> opV C o fr hp K' := by
 cases o with
 | call d pr f args =>
  simp only [opV, Qcj]
  split
  ·rintro ⟨h1, h2⟩
   refine ⟨h1, fun ρ tmps w fv cv av a1 a2 a3 a4 a5 a6 a7 a8 => (h2 ρ tmps w fv cv av a1 a2 a3 a4 a5 a6 a7 a8).mono ?_⟩
   rintro e w' ⟨v, fr', hp', e1, e2, e3, e4⟩
   exact ⟨v, fr', hp', e1, e2, e3, h _ _ e4⟩
  ·exact id
 | app d e by_ ty s x =>
  simp only [opV, Qek]
  intro H; revert H
  split
  ·exact id
  ·rintro ⟨h0, h1, H⟩
   refine ⟨h0, h1, ?_⟩
   revert H
   split
   ·rintro ⟨a, b, c⟩; exact ⟨a, b, h _ _ c⟩
   ·split
    ·rintro (⟨a1, a2, a3, a4, a5, a6, a7, c⟩ | ⟨a1, a2, a3, c⟩)
     ·exact .inl ⟨a1, a2, a3, a4, a5, a6, a7, h _ _ c⟩
     ·exact .inr ⟨a1, a2, a3, h _ _ c⟩
    ·exact id
   ·exact id
 | bin d op bt x y =>
  simp only [opV, Qa2]
  intro H; revert H
  split
  ·split <;> first | exact fun H => ⟨H.1, H.2.1, h _ _ H.2.2⟩ | exact fun H => ⟨H.1, h _ _ H.2⟩ | exact id
  ·split <;> first | exact fun H => ⟨H.1, h _ _ H.2⟩ | exact id
  ·exact id
 | _ =>
  simp only [opV, Qkj, Qik, unK, Qls, Qif, mxK, Qd7, Qn0, Qra, Qkk, Qhs, ldK, stK, Qd1, mkK, bsK, Qek, Qjc, slK, Qjd, Qfn, Qpu, Qpv]
  try (intro H; revert H)
  try (repeat' split)
  all_goals first
   | exact id
   | exact h _ _
   | grind
theorem Qqc (h : ∀ fr hp, K fr hp -> K' fr hp) (o : SOp) : Qdp o fr hp K -> Qdp o fr hp K' := by
 unfold Qdp; split <;> exact h _ _
theorem Q03 (h : ∀ fr hp, K fr hp -> K' fr hp) (g : Option (Nat × Bool)) (o : SOp) : Qig C g o fr hp K -> Qig C g o fr hp K' := by
 unfold Qig
 split
 ·exact Qpi h o
 ·split
  ·exact fun H => ⟨fun e => Qpi h o (H.1 e), fun e => Qqc h o (H.2 e)⟩
  ·exact Qqc h o
  ·exact id
theorem Q04 {sk : List It} {g : Option (Nat × Bool)} {o : SOp} {r : RT} : vc C R (.o (.o g o r) :: sk) fr hp = Qig C g o fr hp (fun fr hp => vc C R (.o r :: sk) fr hp) := by rw [vc]
theorem Q05 {sk : List It} {x y : RT} : vc C R (.o (.br x y) :: sk) fr hp = (vc C R (.o x :: sk) fr hp /\ vc C R (.o y :: sk) fr hp) := by rw [vc]
theorem Qg1 {id : Nat} {M : Qf} {sk : List It} : ∀ (pre : List It), (∃ p, FW.Qag id (pre ++ .el M :: sk) = some (p ++ .el M :: sk) /\ FW.Qag id (pre ++ sk) = some (p ++ sk) /\ Qat p <= Qat pre) ∨ FW.Qag id (pre ++ .el M :: sk) = FW.Qag id (pre ++ sk)
 | [] => .inr rfl
 | .c s :: pre => by
  rcases Qg1 (id := id) (M := M) (sk := sk) pre with ⟨p, h1, h2, h3⟩ | h
  ·exact .inl ⟨p, h1, h2, by simp only [Qat]; omega⟩
  ·exact .inr h
 | .o s :: pre => by
  rcases Qg1 (id := id) (M := M) (sk := sk) pre with ⟨p, h1, h2, h3⟩ | h
  ·exact .inl ⟨p, h1, h2, by simp only [Qat]; omega⟩
  ·exact .inr h
 | .el s :: pre => by
  rcases Qg1 (id := id) (M := M) (sk := sk) pre with ⟨p, h1, h2, h3⟩ | h
  ·exact .inl ⟨p, h1, h2, by simp only [Qat]; omega⟩
  ·exact .inr h
 | .eb i :: pre => by
  by_cases hi : i = id
  ·exact .inl ⟨pre, by simp [FW.Qag, hi], by simp [FW.Qag, hi], by simp only [Qat]; omega⟩
  ·rcases Qg1 (id := id) (M := M) (sk := sk) pre with ⟨p, h1, h2, h3⟩ | h
   ·exact .inl ⟨p, by simp [FW.Qag, hi, h1], by simp [FW.Qag, hi, h2], by simp only [Qat]; omega⟩
   ·exact .inr (by simp [FW.Qag, hi, h])
theorem Qlb {M : Qf} {sk : List It} (hM : ∀ fr hp, M fr hp -> vc C R sk fr hp) : ∀ (n : Nat) (pre : List It) (fr : Fr) (hp : HP), Qat pre <= n -> vc C R (pre ++ .el M :: sk) fr hp -> vc C R (pre ++ sk) fr hp := by
 intro n
 induction n with
 | zero =>
  intro pre fr hp hn h
  cases pre with
  | nil => simp only [List.nil_append, Qlx] at h ⊢; exact hM _ _ h
  | cons i pre =>
   exfalso
   have := SC.sz_pos
   cases i <;> simp only [Qat, It.sz] at hn
   ·rename_i s; have := SC.sz_pos s; omega
   ·rename_i s; have := RT.sz_pos s; omega
   ·omega
   ·omega
 | succ n ih =>
  intro pre fr hp hn h
  cases pre with
  | nil => simp only [List.nil_append, Qlx] at h ⊢; exact hM _ _ h
  | cons i pre =>
   cases i with
   | eb i =>
    simp only [List.cons_append, Qtj] at h ⊢
    exact ih _ _ _ (by simp only [Qat, It.sz] at hn; omega) h
   | el J => simp only [List.cons_append, Qlx] at h ⊢; exact h
   | o r =>
    cases r with
    | nil =>
     simp only [List.cons_append, Qnc] at h ⊢
     exact ih _ _ _ (by simp only [Qat, It.sz, RT.sz] at hn; omega) h
    | o g o r =>
     simp only [List.cons_append, Q04] at h ⊢
     refine Q03 (fun fr hp h => ?_) g o h
     exact ih (.o r :: pre) _ _ (by simp only [Qat, It.sz, RT.sz] at hn ⊢; omega) h
    | wk r =>
     simp only [List.cons_append, Qp4] at h ⊢
     obtain ⟨fr0, hp0, hw, h⟩ := h
     exact ⟨fr0, hp0, hw, ih (.o r :: pre) _ _ (by simp only [Qat, It.sz, RT.sz] at hn ⊢; omega) h⟩
    | br x y =>
     simp only [List.cons_append, Q05] at h ⊢
     exact ⟨ih (.o x :: pre) _ _ (by simp only [Qat, It.sz, RT.sz] at hn ⊢; omega) h.1, ih (.o y :: pre) _ _ (by simp only [Qat, It.sz, RT.sz] at hn ⊢; omega) h.2⟩
   | c s =>
    cases s with
    | skip =>
     simp only [List.cons_append, Qn2] at h ⊢
     exact ih _ _ _ (by simp only [Qat, It.sz, SC.sz] at hn; omega) h
    | rg r =>
     simp only [List.cons_append, Qyh] at h ⊢
     exact ih (.o r :: pre) _ _ (by simp only [Qat, It.sz, SC.sz] at hn ⊢; omega) h
    | raw id ops =>
     simp only [List.cons_append] at h ⊢
     rw [vc] at h ⊢
     intro tmps w Q hs hQ
     refine h tmps w Q hs fun fr' hp' tmps' w' hs' hv => hQ fr' hp' tmps' w' hs' ?_
     exact ih _ _ _ (by simp only [Qat, It.sz, SC.sz] at hn; omega) hv
    | seq a b =>
     simp only [List.cons_append, Qp6] at h ⊢
     exact ih (.c a :: .c b :: pre) _ _ (by simp only [Qat, It.sz, SC.sz] at hn ⊢; omega) h
    | block id a =>
     simp only [List.cons_append, Qlw] at h ⊢
     exact ih (.c a :: .eb id :: pre) _ _ (by simp only [Qat, It.sz, SC.sz] at hn ⊢; omega) h
    | ret => simp only [List.cons_append, Qp7] at h ⊢; exact h
    | cond c x y =>
     simp only [List.cons_append, Qn3] at h ⊢
     unfold Qip at h ⊢
     split at h
     ·exact ⟨fun e => ih (.c x :: pre) _ _ (by simp only [Qat, It.sz, SC.sz] at hn ⊢; omega) (h.1 e), fun e => ih (.c y :: pre) _ _ (by simp only [Qat, It.sz, SC.sz] at hn ⊢; omega) (h.2 e)⟩
     ·exact h
    | exit id =>
     simp only [List.cons_append, Qn4] at h ⊢
     rcases Qg1 (id := id) (M := M) (sk := sk) pre with ⟨p, h1, h2, h3⟩ | he
     ·rw [h1] at h; rw [h2]
      simp only [Qly] at h ⊢
      exact ih _ _ _ (by simp only [Qat, It.sz, SC.sz] at hn; omega) h
     ·rw [he] at h; exact h
    | loop a =>
     simp only [List.cons_append, Qfz] at h ⊢
     obtain ⟨I, μ, h1, h2⟩ := h
     refine ⟨I, μ, h1, fun fr hp hI => ?_⟩
     exact ih (.c a :: .el _ :: pre) _ _ (by simp only [Qat, It.sz, SC.sz] at hn ⊢; omega) (h2 fr hp hI)
theorem Qgo {c : PV} {x y : SC} {sk : List It} (M : Qf) (h : Qfj C R c x y (.el M :: sk) fr hp) (hM : ∀ fr hp, M fr hp -> vc C R sk fr hp) : Qfj C R c x y sk fr hp := by
 unfold Qfj Qip at h ⊢
 split at h
 ·exact ⟨fun e => Qlb hM _ [.c x] _ _ (Nat.le_refl _) (h.1 e), fun e => Qlb hM _ [.c y] _ _ (Nat.le_refl _) (h.2 e)⟩
 ·exact h
end Go.FW
namespace Go.FW
open Go
variable {C : Ctx} {ρ : Nat -> Option Nat} {fr : Fr} {hp : HP} {w : World} {K K' R : Qf}
def Qtl (R : PV -> Prop) (p q : PV) : Prop := (p.isData = true /\ q.isData = true) /\ ∃ r, PV.leR (.tup [p, q]) r /\ R r
def Qtm (R : PV -> Prop) (p q s : PV) : Prop := (p.isData = true /\ q.isData = true /\ s.isData = true) /\ ∃ r, PV.leR (.tup [p, q, s]) r /\ R r
def Q8c (R : PV -> Prop) : Prop := ∃ r, PV.leR (.tup []) r /\ R r
theorem Qac1 {a b : Nat} {Rr : PV -> Prop} : Qc8 [.t a, .t b] Rr fr hp = Qtl Rr (Q9 hp (fr a)) (Q9 hp (fr b)) := by simp [Qc8, Qtl, okR, rvP]
theorem Qac2 {a b c : Nat} {Rr : PV -> Prop} : Qc8 [.t a, .t b, .t c] Rr fr hp = Qtm Rr (Q9 hp (fr a)) (Q9 hp (fr b)) (Q9 hp (fr c)) := by simp [Qc8, Qtm, okR, rvP]
theorem Qac3 {Rr : PV -> Prop} : Qc8 [] Rr fr hp = Q8c Rr := by simp [Qc8, Q8c]
theorem Qc9 {p q p' q' r : PV} (h : r = .tup [p', q']) (d1 : p.isData = true) (d2 : q.isData = true) (h1 : PV.le p p') (h2 : PV.le q q') : Qtl (· = r) p q := ⟨⟨d1, d2⟩, r, by subst h; exact ⟨h1, h2, trivial⟩, rfl⟩
theorem Ql3 {p q s p' q' s' r : PV} (h : r = .tup [p', q', s']) (d1 : p.isData = true) (d2 : q.isData = true) (d3 : s.isData = true) (h1 : PV.le p p') (h2 : PV.le q q') (h3 : PV.le s s') : Qtm (· = r) p q s := ⟨⟨d1, d2, d3⟩, r, by subst h; exact ⟨h1, h2, h3, trivial⟩, rfl⟩
theorem Qgl {p q : PV} (h : p = q) : PV.le p q := h ▸ Qx p
theorem Qjo {β n ty : Nat} {l : List Nat} {fz : Bool} (h : hp β = some ⟨1, ty, Qaz l, fz⟩) (hn : n = l.length) (hB : isB β = false := by decide) : (([] : List PV) ++ [PV.ms β n] ++ ([] : List PV)).map (Q9 hp) = [.sl 1 (Qaz l)] := by
 simp [Q4d h hn hB]
theorem Qcy {n : Nat} (h : (dig n).length = 0) : dig n = [] := List.length_eq_zero_iff.1 h
abbrev PV.nat (l : List Nat) : PV := .sl 1 (Qaz l)
abbrev PV.num (n : Nat) : PV := PV.nat (dig n)
theorem Qhl : PV.le .nilS (PV.num 0) := by rw [PV.num, Qa1]; trivial
theorem Qlc {n : Nat} (h : n = 0) : PV.le .nilS (PV.num n) := by subst h; exact Qhl
end Go.FW
namespace Go.FW
def Qfg : List Nat -> List Nat -> Nat -> Nat -> List Nat
 | r :: rs, y :: ys, x, c => (c + (r + x * y)) % 65536 :: Qfg rs ys x ((c + (r + x * y)) / 65536)
 | _, _, _, c => [c]
theorem Quk : ∀ (r b : List Nat) (x c : Nat), r.length = b.length -> val (Qfg r b x c) = val r + x * val b + c
 | [], [], x, c, _ => by simp [Qfg, val]
 | r :: rs, y :: ys, x, c, h => by
  rw [Qfg, val, Quk rs ys x _ (by simpa using h), val, val, Nat.mul_add x, Nat.mul_left_comm x 65536]
  generalize x * y = p
  generalize x * val ys = q
  omega
 | [], _ :: _, _, _, h => by simp at h
 | _ :: _, [], _, _, h => by simp at h
theorem Qe1 {x y : Nat} (hx : x < 65536) (hy : y < 65536) : x * y <= 4294836225 := by
 have := Nat.mul_le_mul (show x <= 65535 by omega) (show y <= 65535 by omega)
 omega
theorem Qqd : ∀ (r b : List Nat) (x c : Nat), c < 65536 -> x < 65536 -> Qg r -> Qg b -> Qg (Qfg r b x c)
 | r :: rs, y :: ys, x, c, hc, hx, hr, hb => by
  rw [Qau] at hr hb
  have := Qe1 hx hb.1
  rw [Qfg, Qau]
  exact ⟨by omega, Qqd rs ys x _ (by omega) hx hr.2 hb.2⟩
 | [], _, x, c, hc, _, _, _ => by simp [Qfg, Qg]; exact hc
 | _ :: _, [], x, c, hc, _, _, _ => by simp [Qfg, Qg]; exact hc
theorem Qor : ∀ (r b : List Nat) (x c : Nat), r.length = b.length -> (Qfg r b x c).length = r.length + 1
 | r :: rs, y :: ys, x, c, h => by simp [Qfg, Qor rs ys x _ (by simpa using h)]
 | [], [], x, c, _ => rfl
 | [], _ :: _, _, _, h => by simp at h
 | _ :: _, [], _, _, h => by simp at h
theorem Qn7 {p t : List Nat} {r j : Nat} (h : p.length = j) (hj : j < (p ++ r :: t).length) : (p ++ r :: t)[j] = r := by subst h; simp
theorem Qb4 {p t : List Nat} {r j v : Nat} (h : p.length = j) : (p ++ r :: t).set j v = p ++ v :: t := by subst h; simp
theorem Qfb {l : List Nat} {i : Nat} (h : i < l.length) : val (l.take (i + 1)) = val (l.take i) + 65536 ^ i * l[i] := by
 rw [List.take_succ_eq_append_getElem h, Qb7, List.length_take, Nat.min_eq_left (by omega)]; simp [val]
theorem Q4f {a lo b : List Nat} {i : Nat} (h : i < a.length) (hl : lo.length = i + b.length) (hv : val lo = val (a.take i) * val b) :
  val (lo.take i ++ Qfg (lo.drop i) b a[i] 0) = val (a.take (i + 1)) * val b := by
 rw [Qb7, Quk _ _ _ _ (by simp [hl]), Qfb h, List.length_take, Nat.min_eq_left (by omega), Nat.add_mul, <- hv, Qdi lo i (by omega), Nat.add_zero, Nat.mul_add, Nat.mul_assoc]
 omega
end Go.FW
namespace Go.FW
open Go
variable {C : Ctx} {ρ : Nat -> Option Nat} {fr : Fr} {hp : HP} {w : World} {K K' R : Qf}
def B0 : Nat := 1000000
def Qg2 (xs : List PV) : Prop := ∀ x ∈ xs, ∃ k n, x = .int k n
theorem Qep (l : List Nat) : Qg2 (Qaz l) := by
 intro x hx; simp only [Qaz, List.mem_map] at hx; obtain ⟨n, _, rfl⟩ := hx; exact ⟨_, _, rfl⟩
def Qhm (w : World) (b : Nat) (ty : TypeId) (xs : List PV) : Prop := Qg2 xs /\ ∃ (cur : Array Value) (cap : Nat), w.heap[b]? = some (.cells cur ty (0, 0)) /\ cur.size = cap * 1 /\ xs.length <= cap /\ cap <= maxLen /\
 ∀ (i : Nat) (k : IntKind) (n : Int), xs[i]? = some (.int k n) -> cur.getD i undef = .int k n
theorem Qhm.toB {b : Nat} {ty : TypeId} {xs : List PV} {fz : Bool} {X : Nat -> Prop} (h : Qhm w b ty xs) : Qrb w X b ⟨1, ty, xs, fz⟩ := by
 obtain ⟨hi, cur, cap, h1, h2, h3, h4, h5⟩ := h
 refine ⟨cur, cap, h1, h2, h3, h4, fun i x hx j y hy => ?_⟩
 obtain ⟨k, n, rfl⟩ := hi x (List.mem_of_getElem? hx)
 cases j with
 | zero =>
  simp [PV.cells] at hy; subst hy
  rw [Nat.mul_one, Nat.add_zero, h5 i k n hx]
  exact Qu.int k n
 | succ j => simp [PV.cells] at hy
theorem Qhm.ofB {b : Nat} {ty : TypeId} {xs : List PV} {fz : Bool} {X : Nat -> Prop} (h : Qrb w X b ⟨1, ty, xs, fz⟩) (hi : Qg2 xs) : Qhm w b ty xs := by
 obtain ⟨cur, cap, h1, h2, h3, h4, h5⟩ := h
 refine ⟨hi, cur, cap, h1, h2, h3, h4, fun i k n hx => ?_⟩
 have := h5 i _ hx 0 (.int k n) rfl
 simp only [Nat.mul_one, Nat.add_zero] at this
 generalize hg : cur.getD i undef = v at this
 cases this; rfl
theorem Ql4 {xs : List PV} (h : Qg2 xs) : ∀ (i : Nat) (x : PV), xs[i]? = some x -> x.cells.length = 1 /\ x.isData = true := by
 intro i x hx
 obtain ⟨k, n, rfl⟩ := h x (List.mem_of_getElem? hx)
 exact ⟨rfl, rfl⟩
def Win (w : World) (b len : Nat) (o n : Nat) (v : Value) : Prop := o + n <= len /\ ∃ cap, v = .slice (some ⟨b, o * 1, none⟩) n cap /\ Qa4 w b 1 (o + cap) /\ o + cap <= maxLen
def ArgM (w : World) (X : Nat -> Prop) (b len : Nat) (p : PV) (v : Value) : Prop := match p with
 | .mso β o n => β = B0 /\ Win w b len o n v
 | p => Qai w X p v
def ResM (w : World) (X : Nat -> Prop) (b len : Nat) (p : PV) (v : Value) : Prop := match p with
 | .mso β o n => β = B0 /\ Win w b len o n v
 | p => Qch w X p v
def Qiy (P : Program) (f : FuncId) (args : List PV) (ty : TypeId) (xs : List PV) (Post : PV -> List PV -> Prop) : Prop :=
 Qjk P f /\ ∀ (w : World) (X : Nat -> Prop) (b : Nat) (vals : Array Value), (∀ c, X c -> c < w.heap.size) -> X b -> vals.size = args.length -> Qhm w b ty xs -> 0 < xs.length ->
  (∀ (i : Nat) (x : PV), args[i]? = some x -> ArgM w X b xs.length x (vals.getD i undef)) ->
  Calls P f vals w fun e w' => ∃ v r xs', e = .returned v /\ Ext (fun c => c = b) w w' /\ (∀ e cap, Qa4 w b e cap -> Qa4 w' b e cap) /\ Qhm w' b ty xs' /\ xs'.length = xs.length /\ ResM w' X b xs.length r v /\ Post r xs'
def Qir (rs : List RV) (ty : TypeId) (len : Nat) (Post : PV -> List PV -> Prop) : Qf := fun fr hp =>
 ∃ xs', hp B0 = some ⟨1, ty, xs', false⟩ /\ Qg2 xs' /\ xs'.length = len /\
  (Qc8 rs (fun r => (∀ β o n, r ≠ .mso β o n) /\ Post r xs') fr hp ∨ ∃ s o n, rs = [.t s] /\ fr s = .mso B0 o n /\ Post (.mso B0 o n) xs')
theorem Qj3 {P : Program} {f : FuncId} {fn : Func} {sf : SFn} {args : List PV} {ty : TypeId} {xs : List PV} {Post : PV -> List PV -> Prop} (hm : P.follows .mixedOrders = true) (hf : P.funcs[f]? = some fn) (hname : (fn.name != "runtime.NumGoroutine") = true) (hc : Qe P fn = some sf) (hn : args.length <= sf.n /\ sf.n <= 1000000)
  (hv : ∀ C : Ctx, C.P = P -> vc C (Qir sf.rs ty xs.length Post) [.c sf.body] (Qfp args) (Qj hp0 B0 ⟨1, ty, xs, false⟩)) : Qiy P f args ty xs Post := by
 simp only [Qe, Option.bind_eq_some_iff, Option.map_eq_some_iff] at hc
 obtain ⟨c, hb, sb, hcb, rs, hrs, rfl⟩ := hc
 refine ⟨by simp [Qjk, hf, hb]; simpa using hname, fun w X b vals hX hXb hsz hI hpos hrep => ?_⟩
 have hfx : ∀ β c, (fun β => if β = B0 then some b else none : Nat -> Option Nat) β = some c -> c < w.heap.size /\ (isR β = false -> ¬ (X c /\ c ≠ b)) := fun β c h => by
  simp only at h
  split at h
  ·cases h; exact ⟨hX b hXb, fun _ h => h.2 rfl⟩
  ·cases h
 let C : Ctx := ⟨P, fn.ntmps, w, fun c => X c /\ c ≠ b, fun c hc => hX c hc.1, hn.2, fun β => if β = B0 then some b else none, hfx, Qbh, fun _ h => h.elim⟩
 refine calls_of_wp hf hb ?_
 have hsz' : (vals ++ Array.replicate (fn.ntmps - vals.size) undef).size = fn.ntmps := by simp at hn ⊢; omega
 have hXof : ∀ c, Xof C (fun β => if β = B0 then some b else none) (Qj hp0 B0 ⟨1, ty, xs, false⟩) c -> X c := by
  rintro c (hx | ⟨β, _, h1, _, h3⟩)
  ·exact hx.1
  ·simp only at h3; split at h3
   ·cases h3; exact hXb
   ·cases h3
 have hsim : Sim C (Qfp args) (Qj hp0 B0 ⟨1, ty, xs, false⟩) (vals ++ Array.replicate (fn.ntmps - vals.size) undef) w := by
  refine ⟨fun β => if β = B0 then some b else none, hsz', Ext.refl _ _, fun _ _ _ _ _ h => h, fun β hb' hβ => ?_, fun β γ b' h1 h2 h3 h4 => ?_, fun i => ?_⟩
  ·unfold Qj at hβ
   split at hβ
   ·rename_i hβ0; cases hβ; subst hβ0
    refine ⟨by simp, Ql4 hI.1, ?_, (fun _ => rfl), fun h => by cases h⟩
    simp only [if_pos]
    exact ⟨rfl, hX b hXb, hI.toB⟩
   ·simp [hp0] at hβ
  ·have : ∀ β, (if β = B0 then some b else none : Option Nat) = some b' -> β = B0 := fun β h => by
    split at h
    ·assumption
    ·cases h
   rw [this β h3, this γ h4]
  ·unfold Qfp
   cases hi : args[i]? with
   | none => trivial
   | some p =>
    simp only [Option.getD_some]
    have hil : i < vals.size := by rw [hsz]; exact (List.getElem?_eq_some_iff.1 hi).1
    have hr := hrep i p hi
    have e : (vals ++ Array.replicate (fn.ntmps - vals.size) undef).getD i undef = vals.getD i undef := by
     rw [Qbt, if_pos hil]
    rw [e]
    have key : Qai w X p (vals.getD i undef) -> Qk C (fun β => if β = B0 then some b else none) (Qj hp0 B0 ⟨1, ty, xs, false⟩) w p (vals.getD i undef) := fun hr =>
     Qk.ofData (hr.mono (fun _ _ _ => rfl) (fun c _ hn hx => hn (hXof c hx)) (Nat.le_refl _))
    cases p with
    | mso β o n =>
     obtain ⟨rfl, h1, cap, h2, h3, h4⟩ := hr
     exact ⟨⟨1, ty, xs, false⟩, by simp [Qj], h1, .inr ⟨b, cap, by simp, h2, h3, h4⟩⟩
    | _ => exact key hr
 have fin : ∀ (fr : Fr) (hp : HP) (a : Act) (w' : World), a.defers = [] -> Sim C fr hp a.tmps w' -> Qir rs ty xs.length Post fr hp ->
   a.defers = [] /\ ∃ v, (results fn a.tmps).run P w' = .ok v w' /\ ∃ v' r xs', Ending.returned v = .returned v' /\ Ext (fun c => c = b) w w' /\ (∀ e cap, Qa4 w b e cap -> Qa4 w' b e cap) /\ Qhm w' b ty xs' /\ xs'.length = xs.length /\ ResM w' X b xs.length r v' /\ Post r xs' := by
  rintro fr hp a w' hd ⟨ρ, hs⟩ ⟨xs', hB, hint, hlen, hr⟩
  have hown := hs.own B0 _ hB
  have hblk := hown.blk
  have hρ : ρ B0 = some b := by
   cases hq : ρ B0 with
   | none => rw [hq] at hblk; simp only at hblk; rw [hblk] at hlen; simp at hlen; omega
   | some b' =>
    rw [<- hq]
    exact hown.fix rfl
  rw [hρ] at hblk
  have hI' : Qhm w' b ty xs' := Qhm.ofB hblk.2.2 hint
  have hxe : Ext (fun c => c = b) w w' := hs.ext.mono fun c _ hc => by
   rcases hc with ⟨β, _, hc⟩ | hc
   ·have hc : (if β = B0 then some b else none : Option Nat) = some c := hc
    split at hc
    ·cases hc; rfl
    ·cases hc
   ·exact hc.elim
  have hkp : ∀ e cap, Qa4 w b e cap -> Qa4 w' b e cap := hs.keep B0 b rfl
  rcases hr with hr | ⟨s, o, n, rfl, hfs, hp⟩
  ·obtain ⟨v, r, h1, h2, h3, h4⟩ := Qyn (C := C) rfl hrs hs hr (X := X) (fun c hc => by
    by_cases e : c = b
    ·subst e; exact .inr ⟨B0, _, rfl, hB, rfl, hρ⟩
    ·exact .inl ⟨hc, e⟩)
   refine ⟨hd, v, h1, v, r, xs', rfl, hxe, hkp, hI', hlen, ?_, h4⟩
   cases r with
   | mso β o n => exact absurd rfl (h3 β o n)
   | _ => exact h2
  ·have hsl := hs.slots s
   rw [hfs] at hsl
   obtain ⟨hb2, g1, g2, g3⟩ := hsl
   rw [hB] at g1; cases g1
   rcases g3 with ⟨g3, _⟩ | ⟨b', cap, g3, g4, g5, g6⟩
   ·rw [hρ] at g3; cases g3
   ·rw [hρ] at g3; cases g3
    obtain ⟨x, hx⟩ : ∃ x, fn.results.toList = [x] := by
     have := Qc5 hrs
     exact List.length_eq_one_iff.1 (by rw [<- this.1]; rfl)
    have hx2 : Qbi P x = some (.t s) := by
     rw [hx] at hrs
     simp only [List.mapM_cons, List.mapM_nil, Option.bind_eq_bind, Option.pure_def, Option.bind_eq_some_iff, Option.some.injEq] at hrs
     obtain ⟨y, h1, _, _, h2⟩ := hrs
     simp only [List.cons.injEq] at h2
     rw [<- h2.1]; exact h1
    have hx3 : x = .tmp s := by
     cases x with
     | tmp t => simpa [Qbi] using hx2
     | cell y t => simp [Qbi, Option.bind_eq_some_iff] at hx2
    subst hx3
    have hres : (results fn a.tmps).run P w' = .ok (a.tmps.getD s undef) w' := by
     have e : results fn a.tmps = (do let vs <- fn.results.mapM (Qjl a.tmps); pure (if h : vs.size = 1 then vs[0] else .tuple vs)) := rfl
     rw [e, Array.mapM_eq_mapM_toList, hx]
     simp [Sem.run_bind, Qjl]
    refine ⟨hd, _, hres, _, .mso B0 o n, xs', rfl, hxe, hkp, hI', hlen, ⟨rfl, hlen ▸ g2, cap, g4, g5, g6⟩, hp⟩
 exact Qlz (C := C) (R := Qir rs ty xs.length Post) hm c sb [] _ (Qfp args) _ _ w hcb ⟨fun fr hp a w' hd hs hv => (by rw [Qh5] at hv; exact fin fr hp a w' hd hs hv), fun id sk' he => (by simp [FW.Qag] at he), fin⟩ rfl hsim (hv C rfl)
def PV.isDataM : PV -> Bool
 | .mso .. => true
 | p => p.isData
def toB (β : Nat) : PV -> PV
 | .mso γ o n => if γ = β then .mso B0 o n else .undef
 | .mp _ _ _ => .undef
 | .rb _ _ _ => .undef
 | .fn _ _ _ => .undef
 | .nso _ _ _ | .np _ _ _ | .rag _ | .nst _ _ _ _ => .undef
 | p => p
def Qf3 (β : Nat) : PV -> PV
 | .mso _ o n => .mso β o n
 | p => p
theorem Qqe {P : Program} (hP : C.P = P) {g : FuncId} {args pargs : List PV} {d : Option Nat} {β : Nat} {ty : TypeId} {xs : List PV} {Post : PV -> List PV -> Prop} (h : Qiy P g pargs ty xs Post) (hβ : hp β = some ⟨1, ty, xs, false⟩) (hint : Qg2 xs) (hpos : 0 < xs.length)
  (hargs : args.map (toB β) = pargs) (hdat : pargs.all PV.isDataM = true)
  (hK : ∀ r xs', Qg2 xs' -> xs'.length = xs.length -> Post r xs' -> K (Qby fr d (Qf3 β r)) (Qj hp β ⟨1, ty, xs', false⟩)) : Qcj C false (.fn g [] []) args d fr hp K := by
 subst hP
 refine ⟨h.1, fun ρ tmps w fv cv av hdN hs h1 h2 h3 _ _ hr3 => ?_⟩
 have hown := hs.own β _ hβ
 have hblk := hown.blk
 obtain ⟨b, hρ⟩ : ∃ b, ρ β = some b := by
  cases hq : ρ β with
  | none => rw [hq] at hblk; simp only at hblk; rw [hblk] at hpos; simp at hpos
  | some b => exact ⟨b, rfl⟩
 rw [hρ] at hblk
 have hXb : Xof C ρ hp b := .inr ⟨β, _, hβ, rfl, hρ⟩
 have e1 : fv = #[] := Array.eq_empty_of_size_eq_zero (by simpa using h1)
 have e2 : cv = #[] := Array.eq_empty_of_size_eq_zero (by simpa using h2)
 subst e1; subst e2
 simp only [Array.empty_append, Array.append_empty]
 refine (h.2 w (Xof C ρ hp) b av (Qnf hs) hXb (by rw [<- hargs]; simp [h3]) (Qhm.ofB hblk.2.2 hint) hpos (fun i x hx => ?_)).mono ?_
 ·rw [<- hargs] at hx
  simp only [List.getElem?_map, Option.map_eq_some_iff] at hx
  obtain ⟨p, hp', hpx⟩ := hx
  have hr := hr3 i p hp'
  have hxd : PV.isDataM x = true := by
   rw [List.all_eq_true] at hdat
   refine hdat x ?_
   rw [<- hargs, <- hpx]
   exact List.mem_map_of_mem (List.mem_of_getElem? hp')
  subst hpx
  cases p with
  | mso γ o n =>
   simp only [toB] at hxd ⊢
   split
   ·rename_i hγ
    subst hγ
    obtain ⟨hb2, g1, g2, g3⟩ := hr
    rw [hβ] at g1; cases g1
    rcases g3 with ⟨g3, _⟩ | ⟨b', cap, g3, g4, g5, g6⟩
    ·rw [hρ] at g3; cases g3
    ·rw [hρ] at g3; cases g3
     exact ⟨rfl, g2, cap, g4, g5, g6⟩
   ·rename_i hγ; rw [if_neg hγ] at hxd; simp [PV.isDataM, PV.isData] at hxd
  | mp => simp [toB, PV.isDataM, PV.isData] at hxd
  | rb => simp [toB, PV.isDataM, PV.isData] at hxd
  | fn => simp [toB, PV.isDataM, PV.isData] at hxd
  | undef => simp [toB, PV.isDataM, PV.isData] at hxd
  | nso => simp [toB, PV.isDataM, PV.isData] at hxd
  | np => simp [toB, PV.isDataM, PV.isData] at hxd
  | rag => simp [toB, PV.isDataM, PV.isData] at hxd
  | nst => simp [toB, PV.isDataM, PV.isData] at hxd
  | tup => simp [toB, PV.isDataM, PV.isData] at hxd
  | agg cs => exact hr
  | _ => exact hr
 ·rintro e w' ⟨v, r, xs', rfl, hx, hcap, hI', hlen, hres, hpost⟩
  have hst := hs.store β b ⟨1, ty, xs, false⟩ ⟨1, ty, xs', false⟩ hβ rfl (by intro e; simp at e; rw [e] at hpos; simp at hpos) hρ hx rfl hlen rfl (Ql4 hI'.1) hcap (hI'.toB (X := Xof C ρ hp) (fz := false) |> fun ⟨cur, cap, c1, c2, c3, c4, c5⟩ => ⟨cur, cap, c1, c2, c3, c4, fun i x hi j y hy => by
   obtain ⟨k, n, rfl⟩ := hI'.1 x (List.mem_of_getElem? hi)
   have := c5 i _ hi j y hy
   cases j with
   | zero =>
    simp [PV.cells] at hy; subst hy
    generalize hg : cur.getD (i * 1 + 0) undef = u at this
    cases this
    exact Qu.int k n
   | succ j => simp [PV.cells] at hy⟩)
  have hXe : Xof C ρ (Qj hp β ⟨1, ty, xs', false⟩) = Xof C ρ hp := by
   funext c; apply propext; constructor
   ·rintro (hx | ⟨γ, hg, h1, h2, h3⟩)
    ·exact .inl hx
    ·by_cases hγ : γ = β
     ·subst hγ; exact .inr ⟨γ, _, hβ, rfl, h3⟩
     ·simp only [Qj, if_neg hγ] at h1; exact .inr ⟨γ, hg, h1, h2, h3⟩
   ·rintro (hx | ⟨γ, hg, h1, h2, h3⟩)
    ·exact .inl hx
    ·by_cases hγ : γ = β
     ·subst hγ; exact .inr ⟨γ, ⟨1, ty, xs', false⟩, by simp [Qj], rfl, h3⟩
     ·exact .inr ⟨γ, hg, by simp [Qj, hγ, h1], h2, h3⟩
  refine ⟨v, _, _, rfl, ⟨ρ, hst.updO (p := Qf3 β r) ?_ hdN⟩, by simp, hK r xs' hI'.1 hlen hpost⟩
  cases r with
  | mso γ o n =>
   obtain ⟨_, g1, cap, g2, g3, g4⟩ := hres
   exact ⟨⟨1, ty, xs', false⟩, by simp [Qj], by simp only [Qf3]; omega, .inr ⟨b, cap, hρ, g2, g3, g4⟩⟩
  | _ => exact Qk.ofV (p := _) (by rw [hXe]; exact hres)
end Go.FW
namespace Go.FW
open Go
variable {C : Ctx} {ρ : Nat -> Option Nat} {fr : Fr} {hp : HP} {w : World} {K K' R : Qf}
def Qld (P : Program) (f : FuncId) (args : List PV) (ty : TypeId) (Post : List PV -> Prop) : Prop :=
 Qjk P f /\ ∀ (w : World) (X : Nat -> Prop) (vals : Array Value), (∀ b, X b -> b < w.heap.size) -> vals.size = args.length -> (∀ (i : Nat) (x : PV), args[i]? = some x -> Qai w X x (vals.getD i undef)) ->
  Calls P f vals w fun e w' => ∃ v b cap ys, e = .returned v /\ v = .slice (some ⟨b, 0, none⟩) ys.length cap /\ w.heap.size <= b /\ Ext Qbh w w' /\ Qhm w' b ty ys /\ Qa4 w' b 1 cap /\ cap <= maxLen /\ Post ys
def Qn8 (rs : List RV) (ty : TypeId) (Post : List PV -> Prop) : Qf := fun fr hp =>
 ∃ s β n xs, rs = [.t s] /\ fr s = .mso β 0 n /\ isB β = false /\ hp β = some ⟨1, ty, xs, false⟩ /\ Qg2 xs /\ 0 < n /\ Post (xs.take n)
theorem Q06 {xs : List PV} (h : Qg2 xs) (n : Nat) : Qg2 (xs.take n) := fun x hx => h x (List.mem_of_mem_take hx)
theorem Q07 {P : Program} {f : FuncId} {fn : Func} {sf : SFn} {args : List PV} {ty : TypeId} {Post : List PV -> Prop} (hm : P.follows .mixedOrders = true) (hf : P.funcs[f]? = some fn) (hname : (fn.name != "runtime.NumGoroutine") = true) (hc : Qe P fn = some sf) (hn : args.length <= sf.n /\ sf.n <= 1000000)
  (hv : ∀ C : Ctx, C.P = P -> vc C (Qn8 sf.rs ty Post) [.c sf.body] (Qfp args) hp0) : Qld P f args ty Post := by
 simp only [Qe, Option.bind_eq_some_iff, Option.map_eq_some_iff] at hc
 obtain ⟨c, hb, sb, hcb, rs, hrs, rfl⟩ := hc
 refine ⟨by simp [Qjk, hf, hb]; simpa using hname, fun w X vals hX hsz hrep => ?_⟩
 let C : Ctx := Ctx.plain P fn.ntmps w X hX hn.2
 refine calls_of_wp hf hb ?_
 have hsz' : (vals ++ Array.replicate (fn.ntmps - vals.size) undef).size = fn.ntmps := by simp at hn ⊢; omega
 have hsim : Sim C (Qfp args) hp0 (vals ++ Array.replicate (fn.ntmps - vals.size) undef) w := by
  refine ⟨fun _ => none, hsz', Ext.refl _ _, (fun _ _ h => by cases h), by simp [hp0], by simp [hp0], fun i => ?_⟩
  unfold Qfp
  cases hi : args[i]? with
  | none => trivial
  | some p =>
   simp only [Option.getD_some]
   have hil : i < vals.size := by rw [hsz]; exact (List.getElem?_eq_some_iff.1 hi).1
   have hr := hrep i p hi
   have e : (vals ++ Array.replicate (fn.ntmps - vals.size) undef).getD i undef = vals.getD i undef := by
    rw [Qbt, if_pos hil]
   rw [e]
   refine Qk.ofData (hr.mono (fun _ _ _ => rfl) (fun b _ hn hx => ?_) (Nat.le_refl _))
   rcases hx with hx | ⟨_, _, h1, _⟩
   ·exact hn hx
   ·simp [hp0] at h1
 have fin : ∀ (fr : Fr) (hp : HP) (a : Act) (w' : World), a.defers = [] -> Sim C fr hp a.tmps w' -> Qn8 rs ty Post fr hp ->
   a.defers = [] /\ ∃ v, (results fn a.tmps).run P w' = .ok v w' /\ ∃ v' b cap ys, Ending.returned v = .returned v' /\ v' = .slice (some ⟨b, 0, none⟩) ys.length cap /\ w.heap.size <= b /\ Ext Qbh w w' /\ Qhm w' b ty ys /\ Qa4 w' b 1 cap /\ cap <= maxLen /\ Post ys := by
  rintro fr hp a w' hd ⟨ρ, hs⟩ ⟨s, β, n, xs, rfl, hfs, hB, hβ, hint, hpos, hp⟩
  have hown := hs.own β _ hβ
  have hblk := hown.blk
  have hsl := hs.slots s
  rw [hfs] at hsl
  obtain ⟨hb2, g1, g2, g3⟩ := hsl
  rw [hβ] at g1; cases g1
  rcases g3 with ⟨_, _, g3, _⟩ | ⟨b, cap, g3, g4, g5, g6⟩
  ·omega
  ·rw [g3] at hblk
   simp only [hB] at hblk
   obtain ⟨x, hx⟩ : ∃ x, fn.results.toList = [x] := by
    have := Qc5 hrs
    exact List.length_eq_one_iff.1 (by rw [<- this.1]; rfl)
   have hx2 : Qbi P x = some (.t s) := by
    rw [hx] at hrs
    simp only [List.mapM_cons, List.mapM_nil, Option.bind_eq_bind, Option.pure_def, Option.bind_eq_some_iff, Option.some.injEq] at hrs
    obtain ⟨y, h1, _, _, h2⟩ := hrs
    simp only [List.cons.injEq] at h2
    rw [<- h2.1]; exact h1
   have hx3 : x = .tmp s := by
    cases x with
    | tmp t => simpa [Qbi] using hx2
    | cell y t => simp [Qbi, Option.bind_eq_some_iff] at hx2
   subst hx3
   have hres : (results fn a.tmps).run P w' = .ok (a.tmps.getD s undef) w' := by
    have e : results fn a.tmps = (do let vs <- fn.results.mapM (Qjl a.tmps); pure (if h : vs.size = 1 then vs[0] else .tuple vs)) := rfl
    rw [e, Array.mapM_eq_mapM_toList, hx]
    simp [Qjl]
   have hlen : (xs.take n).length = n := by simp at g2 ⊢; omega
   refine ⟨hd, _, hres, _, b, cap, xs.take n, rfl, by rw [g4, hlen, Nat.zero_mul], (Ctx.cls_N hblk.1 (Qjb hB)).resolve_right (fun h => h), Ctx.plain_ext hs.ext, ?_, by rw [Nat.zero_add] at g5; exact g5, by omega, hp⟩
   obtain ⟨_, cur, cp, i1, i2, i3, i4, i5⟩ := Qhm.ofB hblk.2.2 hint
   exact ⟨Q06 hint n, cur, cp, i1, i2, by simp; omega, i4, fun i k m hi => i5 i k m (by
    have hi' : i < n := by have := (List.getElem?_eq_some_iff.1 hi).1; omega
    rwa [List.getElem?_take_of_lt hi'] at hi)⟩
 exact Qlz (C := C) (R := Qn8 rs ty Post) hm c sb [] _ (Qfp args) hp0 _ w hcb ⟨fun fr hp a w' hd hs hv => (by rw [Qh5] at hv; exact fin fr hp a w' hd hs hv), fun id sk' he => (by simp [FW.Qag] at he), fin⟩ rfl hsim (hv C rfl)
theorem Qac5 {P : Program} (hP : C.P = P) {g : FuncId} {args pargs : List PV} {d : Nat} {ty : TypeId} {Post : List PV -> Prop} (h : Qld P g pargs ty Post) (hargs : ([] ++ args ++ []).map (Q9 hp) = pargs) (hdat : pargs.all PV.isData = true) (hr : ([] ++ args ++ []).flatMap PV.refs = [])
  (hB : isB d = false) (hK : ∀ ys, Qg2 ys -> Post ys -> K (upd (Qaq d fr) d (.ms d ys.length)) (Qj hp d ⟨1, ty, ys, false⟩)) : Qcj C false (.fn g [] []) args (some d) fr hp K := by
 subst hP
 refine ⟨h.1, fun ρ tmps w fv cv av hdN hs h1 h2 h3 hr1 hr2 hr3 => ?_⟩
 have hf0 : Q8 hp (([] ++ args ++ []).flatMap PV.refs) = hp := by rw [hr]; rfl
 have hrep := Quc hs h1 h2 h3 hr1 hr2 hr3 (by rw [hargs]; exact hdat)
 rw [hf0, hargs] at hrep
 refine (h.2 w _ (fv ++ av ++ cv) (Qnf hs) (by rw [<- hargs]; simp [h1, h2, h3]) hrep).mono ?_
 rintro e w' ⟨v, b, cap, ys, rfl, rfl, hb, hx, hI, hcap, hm, hpost⟩
 have hbl : b < w'.heap.size := by
  obtain ⟨_, cur, cp, i1, _⟩ := hI
  exact (Array.getElem?_eq_some_iff.1 i1).1
 have hrb := hs.rebind (w' := w') d (some b) ⟨1, ty, ys, false⟩ hB (hx.mono (fun _ _ h => h.elim)) (fun c hc => by cases hc; exact ⟨.inl (Nat.le_trans hs.ext.size hb), hbl, .inl hb⟩) (by simp) (Ql4 hI.1) (by simp)
  (fun c hc => by
   cases hc
   obtain ⟨hint, cur, cp, i1, i2, i3, i4, i5⟩ := hI
   refine ⟨cur, cp, i1, i2, i3, i4, fun i x hi j y hy => ?_⟩
   obtain ⟨k, n, rfl⟩ := hint x (List.mem_of_getElem? hi)
   cases j with
   | zero =>
    simp [PV.cells] at hy; subst hy
    rw [Nat.mul_one, Nat.add_zero, i5 i k n hi]
    exact Qu.int k n
   | succ j => simp [PV.cells] at hy)
 refine ⟨_, _, _, rfl, ⟨_, hrb.updO (d := some d) (p := .ms d ys.length) ?_ hdN⟩, by simp, hK ys hI.1 hpost⟩
 exact ⟨⟨1, ty, ys, false⟩, by simp [Qj], by simp, .inr ⟨b, cap, Qdy _ _ _, by simp, by rw [Nat.zero_add]; exact hcap, by omega⟩⟩
def Qcr (hp : HP) : PV -> PV
 | .mp β i o => match hp β with
  | some hb => match hb.xs[i]? with
   | some x => .pt (x.cells.drop o)
   | none => .undef
  | none => .undef
 | .mso β o n => match hp β with
  | some hb => .sl hb.e ((hb.xs.drop o).take n)
  | none => .undef
 | .rb β o n => match hp β with
  | some hb => .pt [.sl hb.e ((hb.xs.drop o).take n)]
  | none => .undef
 | p => p
def Qpj (C : Ctx) (ρ : Nat -> Option Nat) (hp : HP) (l : List Nat) : Nat -> Prop := fun c => Xof C ρ hp c /\ ¬ ∃ β ∈ l, ρ β = some c
theorem Qu.but {l : List Nat} {q : PV} {u : Value} (h : Qu w (Xof C ρ hp) q u) : Qu w (Qpj C ρ hp l) q u :=
 h.mono (fun _ _ _ => rfl) (fun _ _ hn hx => hn hx.1) (Nat.le_refl _)
theorem Qd2.but {tmps : Array Value} (h : Q3 C ρ fr hp tmps w) {β o n : Nat} {v : Value} {l : List Nat} {hb : HB} (hr : Qd2 ρ hp w β o n v) (hβl : β ∈ l) (g1 : hp β = some hb) : Qu w (Qpj C ρ hp l) (.sl hb.e ((hb.xs.drop o).take n)) v := by
 obtain ⟨hb2, g1', g2, g3⟩ := hr
 rw [g1] at g1'; cases g1'
 rcases g3 with ⟨g3, rfl, rfl, rfl⟩ | ⟨b, cap, g3, rfl, g5, g6⟩
 ·simp only [List.take_zero]; exact .slE _ _ _ (Nat.zero_le _)
 ·have hown := h.own β hb g1
  have hblk := hown.blk
  rw [g3] at hblk
  obtain ⟨_, hlt, cur, cap', c1, c2, c3, c4, c5⟩ := hblk
  obtain ⟨cur', ty', d1, d2⟩ := g5
  rw [c1] at d1; cases d1
  have hcc : o + cap = cap' := by
   rw [c2] at d2
   exact (Nat.eq_of_mul_eq_mul_right hown.epos d2).symm
  subst hcc
  have hlen : ((hb.xs.drop o).take n).length = n := by simp; omega
  have hget : ∀ (i : Nat) (x : PV), ((hb.xs.drop o).take n)[i]? = some x -> i < n /\ hb.xs[o + i]? = some x := fun i x hx => by
   have hi : i < n := by have := (List.getElem?_eq_some_iff.1 hx).1; omega
   rw [List.getElem?_take_of_lt hi, List.getElem?_drop] at hx
   exact ⟨hi, hx⟩
  have := Qu.sl (w := w) (X := Qpj C ρ hp l) hb.e ((hb.xs.drop o).take n) b (o * hb.e) cap (fun i j => cur.getD ((o + i) * hb.e + j) undef) (fun hxb => hxb.2 ⟨β, hβl, g3⟩) hlt (by omega) (by omega)
   (fun i x hx => (hown.len _ x (hget i x hx).2).1)
   (fun i hi j hj => by
    rw [hlen] at hi
    have := Qew (i := o + i) (e := hb.e) (o := 0) (j := j) (n := hb.e) (cap := o + cap) (by omega) (by omega) hj
    rw [Nat.add_zero] at this
    rw [show o * hb.e + i * hb.e + j = (o + i) * hb.e + j by rw [Nat.add_mul]]
    exact Qbe c1 (by rw [c2]; exact this))
   (fun i x hx j y hy => (c5 _ x (hget i x hx).2 j y hy).but)
  rwa [hlen] at this
theorem Qj4 {tmps : Array Value} (h : Q3 C ρ fr hp tmps w) {p : PV} {v : Value} {l : List Nat} (hr : Qbc C ρ hp w p v) (hl : ∀ β ∈ p.ref1, β ∈ l) (hu : (Qcr hp p).isData = true) (hnf : ∀ f a b, p ≠ .fn f a b) : Qai w (Qpj C ρ hp l) (Qcr hp p) v := by
 cases p with
 | mp β i o =>
  obtain ⟨b, hb, g1, g2, rfl⟩ := hr
  have hβl := hl β (by simp [PV.ref1])
  have hown := h.own β hb g2
  have hblk := hown.blk
  rw [g1] at hblk
  obtain ⟨_, hlt, cur, cap, c1, c2, c3, c4, c5⟩ := hblk
  simp only [Qcr, g2] at hu ⊢
  cases hx : hb.xs[i]? with
  | none => simp [hx, PV.isData] at hu
  | some x =>
   have hi : i < hb.xs.length := (List.getElem?_eq_some_iff.1 hx).1
   have hcl := (hown.len i x hx).1
   refine Qu.pt _ b _ (fun j => cur.getD (i * hb.e + o + j) undef) (fun hxb => hxb.2 ⟨β, hβl, g1⟩) hlt (fun j hj => ?_) (fun j y hy => ?_)
   ·have hj' : o + (j + 1) <= hb.e := by simp [hcl] at hj; omega
    exact Qbe c1 (by rw [c2]; exact Qew (by omega) hj' (Nat.lt_succ_self j))
   ·rw [List.getElem?_drop] at hy
    rw [Nat.add_assoc]
    exact (c5 i x hx (o + j) y hy).but
 | mso β o n =>
  obtain ⟨hb, g1, _⟩ := id hr
  simp only [Qcr, g1]
  exact Qd2.but h hr (hl β (by simp [PV.ref1])) g1
 | rb β o n =>
  obtain ⟨b, u, rfl, e2, e3, e4, hb, g1, e5⟩ := hr
  simp only [Qcr, g1]
  refine Qu.pt _ b 0 (fun _ => u) (fun hx => e3 hx.1) e2 (fun j hj => ?_) (fun j y hy => ?_)
  ·obtain rfl : j = 0 := by simpa using hj
   simpa using e4
  ·cases j with
   | zero => simp at hy; subst hy; exact Qd2.but h ⟨hb, g1, e5⟩ (hl β (by simp [PV.ref1])) g1
   | succ j => simp at hy
 | undef => simp [Qcr, PV.isData] at hu
 | fn f a b => exact absurd rfl (hnf f a b)
 | tup => simp [Qcr, PV.isData] at hu
 | nso => simp [Qcr, PV.isData] at hu
 | np => simp [Qcr, PV.isData] at hu
 | rag => simp [Qcr, PV.isData] at hu
 | nst => simp [Qcr, PV.isData] at hu
 | agg => cases hr
 | _ => exact Qu.but hr
end Go.FW
namespace Go.FW
open Go
variable {C : Ctx} {ρ : Nat -> Option Nat} {fr : Fr} {hp : HP} {w : World} {K K' R : Qf}
def PV.notFn : PV -> Bool
 | .fn .. => false
 | p => p.isData
theorem Qqf {p : PV} (h : p.notFn = true) : p.isData = true /\ ∀ f a b, p ≠ .fn f a b := by
 cases p <;> simp_all [PV.notFn, PV.isData]
theorem Qyq {tmps : Array Value} (h : Q3 C ρ fr hp tmps w) {p : PV} {v : Value} {l : List Nat} (hr : Qk C ρ hp w p v) (hl : ∀ β ∈ p.refs, β ∈ l) (hu : (Qcr hp p).notFn = true) : Qai w (Qpj C ρ hp l) (Qcr hp p) v := by
 obtain ⟨hd, hnf⟩ := Qqf hu
 cases p with
 | mp β i o => exact Qj4 (p := .mp β i o) h hr (fun β' hβ' => hl β' hβ') hd (by simp)
 | mso β o n => exact Qj4 (p := .mso β o n) h hr (fun β' hβ' => hl β' hβ') hd (by simp)
 | rb β o n => exact Qj4 (p := .rb β o n) h hr (fun β' hβ' => hl β' hβ') hd (by simp)
 | fn f a b => exact absurd rfl (hnf f a b)
 | undef => simp [Qcr, PV.notFn, PV.isData] at hu
 | tup => simp [Qcr, PV.notFn, PV.isData] at hu
 | agg cs => exact Qai.mono (p := .agg cs) hr (fun _ _ _ => rfl) (fun _ _ hn hx => hn hx.1) (Nat.le_refl _)
 | nso => simp [Qcr, PV.isData] at hd
 | np => simp [Qcr, PV.isData] at hd
 | rag => simp [Qcr, PV.isData] at hd
 | nst => simp [Qcr, PV.isData] at hd
 | _ => exact Qu.but hr
theorem Qqg {tmps : Array Value} (h : Q3 C ρ fr hp tmps w) {p : PV} {v : Value} {l : List Nat} (hr : Qbc C ρ hp w p v) (hl : ∀ β ∈ p.refs, β ∈ l) (hu : (Qcr hp p).notFn = true) : Qai w (Qpj C ρ hp l) (Qcr hp p) v := by
 obtain ⟨hd, hnf⟩ := Qqf hu
 refine Qj4 h hr (fun β hβ => hl β ?_) hd ?_
 ·cases p <;> simp_all [PV.ref1, PV.refs]
 ·intro f a b hp'; subst hp'; exact hnf f a b rfl
theorem Q08 {P : Program} (hP : C.P = P) {g : FuncId} {first cap args pargs : List PV} {pr : Bool} {d : Option Nat} {r : PV} (h : Qd P g pargs (· = r)) (hargs : (first ++ args ++ cap).map (Qcr hp) = pargs) (hdat : pargs.all PV.notFn = true) (hr : r.isScal = true)
  (hK : K (Qby fr d r) hp) : Qcj C pr (.fn g first cap) args d fr hp K := by
 subst hP
 refine ⟨h.1, fun ρ tmps w fv cv av hdN hs h1 h2 h3 hr1 hr2 hr3 => ?_⟩
 refine (h.2 w (Qpj C ρ hp ((first ++ args ++ cap).flatMap PV.refs)) (fv ++ av ++ cv) (fun b hb => Qnf hs b hb.1) (by rw [<- hargs]; simp [h1, h2, h3]) (fun i x hx => ?_)).mono ?_
 ·have hdx : x.notFn = true := by rw [List.all_eq_true] at hdat; exact hdat x (List.mem_of_getElem? hx)
  rw [<- hargs] at hx
  simp only [List.getElem?_map, Option.map_eq_some_iff] at hx
  obtain ⟨p, hp', rfl⟩ := hx
  have hmem := List.mem_of_getElem? hp'
  have hl : ∀ β ∈ p.refs, β ∈ (first ++ args ++ cap).flatMap PV.refs := fun β hβ => List.mem_flatMap.2 ⟨p, hmem, hβ⟩
  rw [Qbt]
  rw [List.getElem?_append] at hp'
  by_cases c1 : i < (first ++ args).length
  ·rw [if_pos c1] at hp'
   rw [if_pos (by simp only [Array.size_append, h1, h3]; simpa using c1), Qbt]
   rw [List.getElem?_append] at hp'
   by_cases c2 : i < first.length
   ·rw [if_pos c2] at hp'
    rw [if_pos (by omega)]
    exact Qqg hs (hr1 i p hp') hl hdx
   ·rw [if_neg c2] at hp'
    rw [if_neg (by omega), h1]
    exact Qyq hs (hr3 _ p hp') hl hdx
  ·rw [if_neg c1] at hp'
   have hsz : (fv ++ av).size = (first ++ args).length := by simp [h1, h3]
   rw [if_neg (by omega), hsz]
   exact Qqg hs (hr2 _ p hp') hl hdx
 ·rintro e w' ⟨v, r', rfl, hx, hr', rfl⟩
  exact ⟨v, _, _, rfl, ⟨ρ, (hs.grow hx).updO (Qk.ofV (Q3z hr hr')) hdN⟩, fun _ => hx, hK⟩
end Go.FW
namespace Go.FW
def Qft : List Nat -> List Nat -> Nat -> List Nat
 | [], _, _ => []
 | x :: xs, ys, c => (c + x + ys.headD 0) % 65536 :: Qft xs ys.tail ((c + x + ys.headD 0) / 65536)
theorem Qos : ∀ (a b : List Nat) (c : Nat), (Qft a b c).length = a.length
 | [], _, _ => rfl
 | x :: xs, b, c => by simp [Qft, Qos xs]
theorem Qqh : ∀ (a b : List Nat) (c : Nat), Qg (Qft a b c)
 | [], _, _ => Qco
 | x :: xs, b, c => by rw [Qft, Qau]; exact ⟨by omega, Qqh xs _ _⟩
theorem Q09 {a b : List Nat} {i c : Nat} (h : i < a.length) : Qft (a.drop i) (b.drop i) c = (c + a[i] + b.getD i 0) % 65536 :: Qft (a.drop (i + 1)) (b.drop (i + 1)) ((c + a[i] + b.getD i 0) / 65536) := by
 rw [List.drop_eq_getElem_cons h, Qft]
 simp [List.headD_eq_head?_getD, List.head?_drop, List.getD_eq_getElem?_getD]
theorem Qul : ∀ (a b : List Nat) (c : Nat), b.length <= a.length -> ∃ k, val (Qft a b c) + 65536 ^ a.length * k = val a + val b + c
 | [], b, c, h => by
  have : b = [] := List.length_eq_zero_iff.1 (by simpa using h)
  subst this
  exact ⟨c, by simp [Qft, val]⟩
 | x :: xs, b, c, h => by
  obtain ⟨k, hk⟩ := Qul xs b.tail ((c + x + b.headD 0) / 65536) (by simp at h ⊢; omega)
  refine ⟨k, ?_⟩
  rw [Qft, val, val, Qia b, List.length_cons, Nat.pow_succ, Nat.mul_comm (65536 ^ xs.length) 65536, Nat.mul_assoc]
  generalize 65536 ^ xs.length * k = z at *
  generalize b.headD 0 = y at *
  omega
def Qcz : List Nat -> List Nat -> Nat -> Nat -> Nat -> List Nat × Nat × Nat
 | [], _, _, c, b => ([], c, b)
 | x :: xs, ys, q, c, b =>
  let r := Qcz xs ys.tail q ((c + q * ys.headD 0) / 65536) (if x < (c + q * ys.headD 0) % 65536 + b then 1 else 0)
  ((x + 65536 - (c + q * ys.headD 0) % 65536 - b) % 65536 :: r.1, r.2)
theorem Qot : ∀ (a v : List Nat) (q c b : Nat), (Qcz a v q c b).1.length = a.length
 | [], _, _, _, _ => rfl
 | x :: xs, v, q, c, b => by simp [Qcz, Qot xs]
theorem Qqi : ∀ (a v : List Nat) (q c b : Nat), Qg (Qcz a v q c b).1
 | [], _, _, _, _ => Qco
 | x :: xs, v, q, c, b => by simp only [Qcz]; rw [Qau]; exact ⟨by omega, Qqi xs _ _ _ _⟩
theorem Q1a {a v : List Nat} {i q c b : Nat} (h : i < a.length) : Qcz (a.drop i) (v.drop i) q c b =
    ((a[i] + 65536 - (c + q * v.getD i 0) % 65536 - b) % 65536 :: (Qcz (a.drop (i + 1)) (v.drop (i + 1)) q ((c + q * v.getD i 0) / 65536) (if a[i] < (c + q * v.getD i 0) % 65536 + b then 1 else 0)).1,
     (Qcz (a.drop (i + 1)) (v.drop (i + 1)) q ((c + q * v.getD i 0) / 65536) (if a[i] < (c + q * v.getD i 0) % 65536 + b then 1 else 0)).2) := by
  rw [List.drop_eq_getElem_cons h, Qcz]
  simp [List.headD_eq_head?_getD, List.head?_drop, List.getD_eq_getElem?_getD]
theorem Qum : ∀ (a v : List Nat) (q c b : Nat), Qg a -> b <= 1 -> v.length <= a.length ->
  val (Qcz a v q c b).1 + (q * val v + c + b) = val a + 65536 ^ a.length * ((Qcz a v q c b).2.1 + (Qcz a v q c b).2.2) /\ (Qcz a v q c b).2.2 <= 1
 | [], v, q, c, b, _, hb, h => by
  have : v = [] := List.length_eq_zero_iff.1 (by simpa using h)
  subst this
  simp [Qcz, val, hb]
 | x :: xs, v, q, c, b, ha, hb, h => by
  rw [Qau] at ha
  have hb' : (if x < (c + q * v.headD 0) % 65536 + b then 1 else 0) <= 1 := by split <;> omega
  obtain ⟨ih, ih2⟩ := Qum xs v.tail q ((c + q * v.headD 0) / 65536) (if x < (c + q * v.headD 0) % 65536 + b then 1 else 0) ha.2 hb' (by simp at h ⊢; omega)
  refine ⟨?_, ih2⟩
  simp only [Qcz]
  rw [val, val, Qia v, List.length_cons, Nat.pow_succ, Nat.mul_comm (65536 ^ xs.length) 65536, Nat.mul_assoc, Nat.mul_add q, Nat.mul_left_comm q 65536]
  generalize Qcz xs v.tail q ((c + q * v.headD 0) / 65536) (if x < (c + q * v.headD 0) % 65536 + b then 1 else 0) = r at *
  generalize 65536 ^ xs.length * (r.2.1 + r.2.2) = z at *
  generalize q * v.headD 0 = y at *
  generalize q * val v.tail = t at *
  have h0 := ha.1
  split at ih
  ·omega
  ·omega
end Go.FW
namespace Go.FW
open Go
variable {fr : Fr} {hp : HP}
theorem Qac6 {ty len : Nat} {Post : PV -> List PV -> Prop} {xs' : List PV} (hB : hp B0 = some ⟨1, ty, xs', false⟩) (hi : Qg2 xs') (hl : xs'.length = len) (hp' : Post (.tup []) xs') : Qir [] ty len Post fr hp :=
 ⟨xs', hB, hi, hl, .inl ⟨by simp, .tup [], trivial, by simp, hp'⟩⟩
theorem Q1b {ty len s : Nat} {Post : PV -> List PV -> Prop} {xs' : List PV} {p : PV} (hB : hp B0 = some ⟨1, ty, xs', false⟩) (hi : Qg2 xs') (hl : xs'.length = len) (hs : Q9 hp (fr s) = p) (hd : p.isData = true) (hp' : Post p xs') : Qir [.t s] ty len Post fr hp :=
 ⟨xs', hB, hi, hl, .inl ⟨by simp only [okR]; rw [hs]; exact hd, p, by simp only [rvP]; rw [hs]; exact Qx p, fun β o n e => by subst e; simp [PV.isData] at hd, hp'⟩⟩
theorem Qxd {ty len s o n : Nat} {Post : PV -> List PV -> Prop} {xs' : List PV} (hB : hp B0 = some ⟨1, ty, xs', false⟩) (hi : Qg2 xs') (hl : xs'.length = len) (hs : fr s = .mso B0 o n) (hp' : Post (.mso B0 o n) xs') : Qir [.t s] ty len Post fr hp :=
 ⟨xs', hB, hi, hl, .inr ⟨s, o, n, rfl, hs, hp'⟩⟩
end Go.FW
namespace Go.FW
open Go
variable {C : Ctx} {fr : Fr} {hp : HP} {K : Qf}
theorem Qnh {a b i : Nat} (h : b < 2 ^ i) : a * 2 ^ i ||| b = a * 2 ^ i + b := by
 rw [<- Nat.shiftLeft_eq, Nat.shiftLeft_add_eq_or_of_lt h]
theorem Qun {bt : Bool} {x y d : Nat} (hx : x < 18446744073709551616) (hy : y < 18446744073709551616) : Qa2 .or bt (.int .u64 (x : Int)) (.int .u64 (y : Int)) d fr hp K = K (upd fr d (.int .u64 ((x ||| y : Nat) : Int))) hp := by
 have h1 : (BitVec.ofInt 64 (x : Int) ||| BitVec.ofInt 64 (y : Int)).toNat = x ||| y := by
  rw [BitVec.toNat_or, BitVec.ofInt_natCast, BitVec.ofInt_natCast, BitVec.toNat_ofNat, BitVec.toNat_ofNat, Nat.mod_eq_of_lt hx, Nat.mod_eq_of_lt hy]
 have h2 : x ||| y < 18446744073709551616 := Nat.or_lt_two_pow (n := 64) hx hy
 simp only [Qa2, IntKind.bits, h1, true_and]
 rw [Qe3 (by omega) (by omega)]
 exact congrArg (fun z : Nat => K (upd fr d (.int .u64 (z : Int))) hp) h1
theorem Q1c {bt : Bool} {x y d : Nat} (hx : x < 4294967296) (hy : y < 4294967296) : Qa2 .or bt (.int .u32 (x : Int)) (.int .u32 (y : Int)) d fr hp K = K (upd fr d (.int .u32 ((x ||| y : Nat) : Int))) hp := by
 have h1 : (BitVec.ofInt 32 (x : Int) ||| BitVec.ofInt 32 (y : Int)).toNat = x ||| y := by
  rw [BitVec.toNat_or, BitVec.ofInt_natCast, BitVec.ofInt_natCast, BitVec.toNat_ofNat, BitVec.toNat_ofNat, Nat.mod_eq_of_lt hx, Nat.mod_eq_of_lt hy]
 have h2 : x ||| y < 4294967296 := Nat.or_lt_two_pow (n := 32) hx hy
 simp only [Qa2, IntKind.bits, h1, true_and]
 rw [Ql1 (by omega) (by omega)]
 exact congrArg (fun z : Nat => K (upd fr d (.int .u32 (z : Int))) hp) h1
theorem Q1d {bt : Bool} {x y d : Nat} (hx : x < 65536) (hy : y < 65536) : Qa2 .or bt (.int .u16 (x : Int)) (.int .u16 (y : Int)) d fr hp K = K (upd fr d (.int .u16 ((x ||| y : Nat) : Int))) hp := by
 have h1 : (BitVec.ofInt 16 (x : Int) ||| BitVec.ofInt 16 (y : Int)).toNat = x ||| y := by
  rw [BitVec.toNat_or, BitVec.ofInt_natCast, BitVec.ofInt_natCast, BitVec.toNat_ofNat, BitVec.toNat_ofNat, Nat.mod_eq_of_lt hx, Nat.mod_eq_of_lt hy]
 have h2 : x ||| y < 65536 := Nat.or_lt_two_pow (n := 16) hx hy
 simp only [Qa2, IntKind.bits, h1, true_and]
 rw [Q32 (by omega) (by omega)]
 exact congrArg (fun z : Nat => K (upd fr d (.int .u16 (z : Int))) hp) h1
theorem Qrm {bt : Bool} {k' : IntKind} {x s d : Nat} (hs : s <= 64) (h : x * 2 ^ s < 18446744073709551616) : Qa2 .shl bt (.int .u64 (x : Int)) (.int k' (s : Int)) d fr hp K = K (upd fr d (.int .u64 ((x * 2 ^ s : Nat) : Int))) hp := by
 have h0 : (0 : Int) <= s := by omega
 have h1 : min ((s : Int).toNat) IntKind.u64.bits = s := by simp [IntKind.bits]; omega
 simp only [Qa2, h0, true_and, h1]
 rw [show (x : Int) * 2 ^ s = ((x * 2 ^ s : Nat) : Int) by push_cast; rfl, Qe3 (by omega) (by omega)]
theorem Qrn {bt : Bool} {k' : IntKind} {x s d : Nat} (hs : s <= 32) (h : x * 2 ^ s < 4294967296) : Qa2 .shl bt (.int .u32 (x : Int)) (.int k' (s : Int)) d fr hp K = K (upd fr d (.int .u32 ((x * 2 ^ s : Nat) : Int))) hp := by
 have h0 : (0 : Int) <= s := by omega
 have h1 : min ((s : Int).toNat) IntKind.u32.bits = s := by simp [IntKind.bits]; omega
 simp only [Qa2, h0, true_and, h1]
 rw [show (x : Int) * 2 ^ s = ((x * 2 ^ s : Nat) : Int) by push_cast; rfl, Ql1 (by omega) (by omega)]
theorem Qj5 {bt : Bool} {k' : IntKind} {x d : Nat} (h : x < 281474976710656) : Qa2 .shl bt (.int .u64 (x : Int)) (.int k' 16) d fr hp K = K (upd fr d (.int .u64 ((x * 65536 : Nat) : Int))) hp :=
 Qrm (s := 16) (by omega) (by omega)
theorem Qj6 {bt : Bool} {k' : IntKind} {x d : Nat} (h : x < 65536) : Qa2 .shl bt (.int .u32 (x : Int)) (.int k' 16) d fr hp K = K (upd fr d (.int .u32 ((x * 65536 : Nat) : Int))) hp :=
 Qrn (s := 16) (by omega) (by omega)
theorem Qn9 {bt : Bool} {k' : IntKind} {x s d : Nat} (hs : s <= 32) : Qa2 .shr bt (.int .u32 (x : Int)) (.int k' (s : Int)) d fr hp K = K (upd fr d (.int .u32 ((x / 2 ^ s : Nat) : Int))) hp := by
 rw [Qug (by omega)]
 have h1 : min ((s : Int).toNat) IntKind.u32.bits = s := by simp [IntKind.bits]; omega
 rw [h1, Int.fdiv_eq_ediv_of_nonneg _ (Int.pow_nonneg (by omega))]
 rw [show (x : Int) / 2 ^ s = ((x / 2 ^ s : Nat) : Int) by push_cast; rfl]
theorem Ql5 {bt : Bool} {x y d : Nat} (hx : x < 281474976710656) (hy : y < 65536) : Qa2 .or bt (.int .u64 ((x * 65536 : Nat) : Int)) (.int .u64 (y : Int)) d fr hp K = K (upd fr d (.int .u64 ((x * 65536 + y : Nat) : Int))) hp := by
 rw [Qun (by omega) (by omega), show x * 65536 ||| y = x * 65536 + y from Qnh (i := 16) hy]
theorem Quo {bt : Bool} {x y d : Nat} (hx : x < 65536) (hy : y < 65536) : Qa2 .or bt (.int .u32 ((x * 65536 : Nat) : Int)) (.int .u32 (y : Int)) d fr hp K = K (upd fr d (.int .u32 ((x * 65536 + y : Nat) : Int))) hp := by
 rw [Q1c (by omega) (by omega), show x * 65536 ||| y = x * 65536 + y from Qnh (i := 16) hy]
theorem Qsi {bt : Bool} {x y d : Nat} (hx : x < 65536) (hy : y < 65536) : Qa2 .or bt (.int .u32 (y : Int)) (.int .u32 ((x * 65536 : Nat) : Int)) d fr hp K = K (upd fr d (.int .u32 ((x * 65536 + y : Nat) : Int))) hp := by
 rw [Q1c (by omega) (by omega), Nat.or_comm, show x * 65536 ||| y = x * 65536 + y from Qnh (i := 16) hy]
theorem Qro {bt : Bool} {k : IntKind} {x y d : Nat} (hy : 0 < y) (hw : k.wrap ((x / y : Nat) : Int) = ((x / y : Nat) : Int)) : Qa2 .quo bt (.int k (x : Int)) (.int k (y : Int)) d fr hp K = K (upd fr d (.int k ((x / y : Nat) : Int))) hp := by
 have : (y : Int) ≠ 0 := by omega
 simp only [Qa2, ne_eq, this, not_false_eq_true, true_and]
 rw [Q8n (by omega), <- hw]; rfl
theorem Qd0 {bt : Bool} {k : IntKind} {x y d : Nat} (hy : 0 < y) : Qa2 .rem bt (.int k (x : Int)) (.int k (y : Int)) d fr hp K = K (upd fr d (.int k ((x % y : Nat) : Int))) hp := by
 have : (y : Int) ≠ 0 := by omega
 simp only [Qa2, ne_eq, this, not_false_eq_true, true_and]
 rw [Q8o (by omega)]; rfl
theorem Q1e {n : Nat} (h : n < 18446744073709551616) : IntKind.u64.wrap (n : Int) = n := Qe3 (by omega) (by omega)
theorem Q1f {n : Nat} (h : n < 4294967296) : IntKind.u32.wrap (n : Int) = n := Ql1 (by omega) (by omega)
theorem Q1g {n : Nat} (h : n < 9223372036854775808) : IntKind.i64.wrap (n : Int) = n := Qgj (by omega) (by omega)
theorem Qiz {bt : Bool} {x y d : Nat} (hy : 0 < y) (hx : x < 18446744073709551616) : Qa2 .quo bt (.int .u64 (x : Int)) (.int .u64 (y : Int)) d fr hp K = K (upd fr d (.int .u64 ((x / y : Nat) : Int))) hp :=
 Qro hy (Q1e (Nat.lt_of_le_of_lt (Nat.div_le_self x y) hx))
theorem Qxe {bt : Bool} {x y d : Nat} (hy : 0 < y) (hx : x < 4294967296) : Qa2 .quo bt (.int .u32 (x : Int)) (.int .u32 (y : Int)) d fr hp K = K (upd fr d (.int .u32 ((x / y : Nat) : Int))) hp :=
 Qro hy (Q1f (Nat.lt_of_le_of_lt (Nat.div_le_self x y) hx))
theorem Qxf {bt : Bool} {x y d : Nat} (hy : 0 < y) (hx : x < 9223372036854775808) : Qa2 .quo bt (.int .i64 (x : Int)) (.int .i64 (y : Int)) d fr hp K = K (upd fr d (.int .i64 ((x / y : Nat) : Int))) hp :=
 Qro hy (Q1g (Nat.lt_of_le_of_lt (Nat.div_le_self x y) hx))
theorem Q8y {e d β o n H : Nat} {k : IntKind} (h : H <= n) (he : (hp β).map (·.e) = some e) : slK e (.mso β o n) none (some (.int k (H : Int))) none d fr hp K = K (upd fr d (.mso β o H)) hp := by
 have h1 : (H : Int) <= (n : Int) := by omega
 simp [slK, Qbw, he, h1]
theorem Q8z {e d β o n L H : Nat} {k k' : IntKind} (h1 : L <= H) (h : H <= n) (h0 : L < n) (he : (hp β).map (·.e) = some e) : slK e (.mso β o n) (some (.int k (L : Int))) (some (.int k' (H : Int))) none d fr hp K = K (upd fr d (.mso β (o + L) (H - L))) hp := by
 have q1 : (H : Int) <= (n : Int) := by omega
 have q2 : (L : Int) <= (H : Int) := by omega
 have q3 : (L : Int) < (n : Int) := by omega
 simp [slK, Qbw, he, q1, q2, q3]
theorem Qj7 {bt : Bool} {x d : Nat} (hx : x < 9223372036854775808) : Qa2 .quo bt (.int .i64 (x : Int)) (.int .i64 16) d fr hp K = K (upd fr d (.int .i64 ((x / 16 : Nat) : Int))) hp :=
 Qxf (y := 16) (by omega) hx
theorem Qj8 {bt : Bool} {x d : Nat} : Qa2 .rem bt (.int .i64 (x : Int)) (.int .i64 16) d fr hp K = K (upd fr d (.int .i64 ((x % 16 : Nat) : Int))) hp :=
 Qd0 (y := 16) (by omega)
def Qhn (s : Nat) : List Nat -> Nat -> List Nat
 | [], c => [c]
 | x :: xs, c => ((x * 2 ^ s) % 65536 + c) :: Qhn s xs (x * 2 ^ s / 65536)
theorem Qup (s : Nat) : ∀ (l : List Nat) (c : Nat), val (Qhn s l c) = val l * 2 ^ s + c
 | [], c => by simp [Qhn, val]
 | x :: xs, c => by
  rw [Qhn, val, Qup s xs, val, Nat.add_mul, Nat.mul_assoc]
  generalize x * 2 ^ s = y
  generalize val xs * 2 ^ s = z
  omega
theorem Qni {s : Nat} (h : s <= 16) : (65536 : Nat) = 2 ^ s * 2 ^ (16 - s) := by rw [<- Nat.pow_add, show s + (16 - s) = 16 by omega]
theorem Quq {s x c : Nat} (h : s <= 16) (hc : c < 2 ^ s) : (x * 2 ^ s) % 65536 + c < 65536 /\ c ||| (x * 2 ^ s) % 65536 = (x * 2 ^ s) % 65536 + c := by
 have e : (x * 2 ^ s) % 65536 = (x % 2 ^ (16 - s)) * 2 ^ s := by
  rw [Qni h, Nat.mul_comm x, Nat.mul_mod_mul_left, Nat.mul_comm]
 have h1 : x % 2 ^ (16 - s) < 2 ^ (16 - s) := Nat.mod_lt _ (Nat.pow_pos (by omega))
 have h2 : (x % 2 ^ (16 - s) + 1) * 2 ^ s <= 2 ^ (16 - s) * 2 ^ s := Nat.mul_le_mul_right _ h1
 rw [Nat.add_mul, Nat.mul_comm (2 ^ (16 - s)), <- Qni h] at h2
 rw [e]
 refine ⟨by omega, ?_⟩
 rw [Nat.or_comm, Qnh hc]
theorem Qsj {s x : Nat} (h : s <= 16) (hx : x < 65536) : x * 2 ^ s / 65536 < 2 ^ s := by
 rw [Nat.div_lt_iff_lt_mul (by omega), Nat.mul_comm]
 exact Nat.mul_lt_mul_of_pos_left hx (Nat.pow_pos (by omega))
theorem Qqj {s : Nat} (h : s <= 15) : ∀ (l : List Nat) (c : Nat), Qg l -> c < 2 ^ s -> Qg (Qhn s l c)
 | [], c, _, hc => by
  have : 2 ^ s <= 2 ^ 15 := Nat.pow_le_pow_right (by omega) h
  simp [Qhn, Qg]; omega
 | x :: xs, c, hl, hc => by
  rw [Qau] at hl
  rw [Qhn, Qau]
  exact ⟨(Quq (by omega) hc).1, Qqj h xs _ hl.2 (Qsj (by omega) hl.1)⟩
theorem Qou (s : Nat) : ∀ (l : List Nat) (c : Nat), (Qhn s l c).length = l.length + 1
 | [], _ => rfl
 | x :: xs, c => by simp [Qhn, Qou s xs]
theorem Qac7 {s x : Nat} (h : s <= 15) (hx : x < 65536) : x * 2 ^ s < 2147483648 := by
 have : 2 ^ s <= 2 ^ 15 := Nat.pow_le_pow_right (by omega) h
 have := Nat.mul_le_mul (show x <= 65535 by omega) this
 omega
theorem Qur (l : List Nat) : ∀ n, n <= l.length -> cut l n = l.take (cut l n).length
 | 0, _ => by simp [cut]
 | n + 1, h => by
  unfold cut
  split
  ·exact Qur l n (by omega)
  ·rw [List.length_take, Nat.min_eq_left h]
theorem Q4g {l : List Nat} (h : Qg l) : l.take (nl (val l)) = dig (val l) := by
 have := Qur l l.length (Nat.le_refl _)
 rw [Qla h] at this
 exact this.symm
end Go.FW
namespace Go.FW
open Go
theorem Qld.toV {P : Program} {f : FuncId} {args : List PV} {ty : TypeId} {ys : List PV} (h : Qld P f args ty (· = ys)) : Qd P f args (· = .sl 1 ys) := by
 refine ⟨h.1, fun w X vals hX h2 h3 => (h.2 w X vals hX h2 h3).mono ?_⟩
 rintro e w' ⟨v, b, cap, ys', rfl, rfl, hb, hx, hI, hcap, hm, rfl⟩
 refine ⟨_, _, rfl, hx, ?_, rfl⟩
 obtain ⟨hint, cur, cp, i1, i2, i3, i4, i5⟩ := hI
 obtain ⟨cur', ty', d1, d2⟩ := hcap
 rw [i1] at d1; cases d1
 have hbl : b < w'.heap.size := (Array.getElem?_eq_some_iff.1 i1).1
 have e : cp = cap := by omega
 subst e
 refine Qu.sl (w := w') (X := X) 1 ys' b 0 cp (fun i j => cur.getD (i + j) undef) (fun hxb => by have := hX b hxb; omega) hbl i3 i4 (Ql4 hint |> fun h i x hx => (h i x hx).1) (fun i hi j hj => ?_) (fun i x hx j y hy => ?_)
 ·have : j = 0 := by omega
  subst this
  simp only [Nat.zero_add, Nat.mul_one, Nat.add_zero]
  exact Qbe i1 (by omega)
 ·obtain ⟨k, n, rfl⟩ := hint x (List.mem_of_getElem? hx)
  cases j with
  | zero =>
   simp [PV.cells] at hy; subst hy
   show Qu w' X (.int k n) (cur.getD (i + 0) undef)
   rw [Nat.add_zero, i5 i k n hx]
   exact Qu.int k n
  | succ j => simp [PV.cells] at hy
end Go.FW
namespace Go.FW
def Qg3 (s : Nat) : List Nat -> List Nat
 | [] => []
 | x :: xs => ((xs.headD 0 * 65536 + x) / 2 ^ s) % 65536 :: Qg3 s xs
theorem Qko (s : Nat) : ∀ l, (Qg3 s l).length = l.length
 | [] => rfl
 | x :: xs => by simp [Qg3, Qko s xs]
theorem Qqk (s : Nat) : ∀ l, Qg (Qg3 s l)
 | [] => Qco
 | x :: xs => by rw [Qg3, Qau]; exact ⟨by omega, Qqk s xs⟩
theorem Q1h {s i : Nat} {l : List Nat} (h : i < l.length) : Qg3 s (l.drop i) = ((l.getD (i + 1) 0 * 65536 + l[i]) / 2 ^ s) % 65536 :: Qg3 s (l.drop (i + 1)) := by
 rw [List.drop_eq_getElem_cons h, Qg3]
 simp [List.headD_eq_head?_getD, List.head?_drop, List.getD_eq_getElem?_getD]
theorem Q4h {x V s : Nat} (hs : s <= 16) (hx : x < 65536) : (x + 65536 * V) / 2 ^ s = ((V % 65536 * 65536 + x) / 2 ^ s) % 65536 + 65536 * (V / 2 ^ s) := by
 have hp : 0 < 2 ^ s := Nat.pow_pos (by omega)
 have e0 := Nat.div_add_mod V (2 ^ s)
 have hr := Nat.mod_lt V hp
 generalize hq : V / 2 ^ s = q at *
 generalize hrr : V % 2 ^ s = r at *
 have hy : V % 65536 % 2 ^ s = r := by
  rw [Qni hs, Nat.mod_mul_right_mod]; exact hrr
 have e1 := Nat.div_add_mod (V % 65536) (2 ^ s)
 rw [hy] at e1
 generalize V % 65536 / 2 ^ s = t at *
 have hlt : (65536 * r + x) / 2 ^ s < 65536 := by
  rw [Nat.div_lt_iff_lt_mul hp]
  have : 65536 * (r + 1) <= 65536 * 2 ^ s := Nat.mul_le_mul_left _ hr
  omega
 have k1 : x + 65536 * V = (65536 * r + x) + 2 ^ s * (65536 * q) := by
  rw [<- e0, Nat.mul_add, Nat.mul_left_comm]; omega
 have k2 : V % 65536 * 65536 + x = (65536 * r + x) + 2 ^ s * (65536 * t) := by
  rw [<- e1, Nat.add_mul, Nat.mul_assoc, Nat.mul_comm t 65536]; omega
 rw [k1, k2, Nat.add_mul_div_left _ _ hp, Nat.add_mul_div_left _ _ hp, Nat.add_mul_mod_self_left, Nat.mod_eq_of_lt hlt]
theorem Qus {s : Nat} (hs : s <= 16) : ∀ l, Qg l -> val (Qg3 s l) = val l / 2 ^ s
 | [], _ => by simp [Qg3, val]
 | x :: xs, h => by
  rw [Qau] at h
  rw [Qg3, val, Qus hs xs h.2, val, Q4h hs h.1]
  have : xs.headD 0 = val xs % 65536 := by
   cases xs with
   | nil => simp [val]
   | cons y ys => have := h.2 y (by simp); simp [val]; omega
  rw [this]
end Go.FW
namespace Go.FW
open Go
variable {C : Ctx} {ρ : Nat -> Option Nat} {fr fr' : Fr} {hp : HP} {w : World} {K K' R R' : Qf}
def Fle (fr fr' : Fr) : Prop := ∀ s, fr' s = fr s ∨ fr' s = .undef
theorem Fle.refl (fr : Fr) : Fle fr fr := fun _ => .inl rfl
theorem Fle.trans {a b c : Fr} (h : Fle a b) (k : Fle b c) : Fle a c := fun s => by
 rcases k s with e | e
 ·rw [e]; exact h s
 ·exact .inr e
theorem Fle.upd (h : Fle fr fr') (d : Nat) {v v' : PV} (hv : v' = v ∨ v' = .undef) : Fle (upd fr d v) (upd fr' d v') := fun s => by
 unfold FW.upd; split
 ·exact hv
 ·exact h s
theorem Fle.upd' (h : Fle fr fr') (d : Nat) (v : PV) : Fle (FW.upd fr d v) (FW.upd fr' d v) := h.upd d (.inl rfl)
theorem Fle.kill (h : Fle fr fr') (β : Nat) : Fle (Qaq β fr) (Qaq β fr') := fun s => by
 unfold Qaq
 rcases h s with e | e
 ·exact .inl (by rw [e])
 ·right; rw [e]; simp [Qan, PV.refs]
theorem Fle.ev (h : Fle fr fr') (x : Opd) : ev fr' x = ev fr x ∨ ev fr' x = .undef := by
 cases x with
 | t n => exact h n
 | c p => exact .inl rfl
theorem Fle.mem (h : Fle fr fr') {q : PV -> Prop} (hq : ¬ q .undef) {l : List Opd} (hl : ∀ p ∈ l.map (FW.ev fr'), q p) : l.map (FW.ev fr') = l.map (FW.ev fr) := by
 refine List.map_congr_left fun x hx => ?_
 rcases h.ev x with e | e
 ·exact e
 ·exact absurd (e ▸ hl _ (List.mem_map_of_mem hx)) hq
theorem Fle.nst (h : Fle fr fr') {γ γ' e ty : Nat} {xs : List PV} (e1 : fr' γ = .nst γ' e ty xs) : fr γ = .nst γ' e ty xs := by
 rcases h γ with e2 | e2
 ·rw [<- e2]; exact e1
 ·rw [e1] at e2; cases e2
theorem Fle.drop (h : Fle fr fr') (γ : Nat) : Fle (Qdc γ fr) (Qdc γ fr') := fun s => by
 unfold Qdc
 rcases h s with e | e
 ·exact .inl (by rw [e])
 ·right; rw [e]; rfl
theorem Fle.take (h : Fle fr fr') (β : Nat) : Fle (Qdo β fr) (Qdo β fr') := fun s => by
 unfold Qdo
 rcases h s with e | e
 ·exact .inl (by rw [e])
 ·right; rw [e]; simp [Qbd, Qan, PV.refs]
theorem Fle.wk (h : Fle fr fr') : Wk fr hp fr' hp := by
 rintro C tmps w ⟨ρ, hs⟩
 refine ⟨ρ, hs.sz, hs.ext, hs.keep, hs.own, hs.inj, fun s => ?_⟩
 rcases h s with h | h <;> rw [h]
 ·exact hs.slots s
 ·trivial
theorem Fle.sim {tmps : Array Value} (h : Fle fr fr') (hs : Q3 C ρ fr hp tmps w) : Q3 C ρ fr' hp tmps w := by
 refine ⟨hs.sz, hs.ext, hs.keep, hs.own, hs.inj, fun s => ?_⟩
 rcases h s with h | h <;> rw [h]
 ·exact hs.slots s
 ·trivial
theorem Qyr (h : Fle fr fr') (x : Option Opd) : x.map (ev fr') = x.map (ev fr) ∨ x.map (ev fr') = some .undef := by
 cases x with
 | none => exact .inl rfl
 | some x => rcases h.ev x with e | e <;> simp [e]
theorem Qtb (d : Int) : Qbw d (some .undef) = none := rfl
theorem Qrp (h : Fle fr fr') (hK : ∀ f f' hp, Fle f f' -> K' f' hp -> K f hp) (o : SOp) : opV C o fr' hp K' -> opV C o fr hp K := by
 have hu : ∀ (d : Nat) (v : PV) (hp : HP), K' (upd fr' d v) hp -> K (upd fr d v) hp := fun d v hp H => hK _ _ _ (h.upd' d v) H
 have hk : ∀ (β d : Nat) (v : PV) (hp : HP), K' (upd (Qaq β fr') d v) hp -> K (upd (Qaq β fr) d v) hp := fun β d v hp H => hK _ _ _ ((h.kill β).upd' d v) H
 have hz : ∀ hp, K' fr' hp -> K fr hp := fun hp H => hK _ _ _ h H
 have mono : ∀ {o : SOp}, opV C o fr hp K' -> opV C o fr hp K := fun H => Qpi (fun f hp H => hK _ _ _ (Fle.refl f) H) _ H
 cases o with
 | mv d x => exact fun H => hK _ _ _ (h.upd d (h.ev x)) H
 | pick d c a b =>
  simp only [opV, Qik]
  rcases h.ev c with e | e
  ·rw [e]
   split
   ·exact fun H => ⟨fun t => hK _ _ _ (h.upd d (h.ev a)) (H.1 t), fun t => hK _ _ _ (h.upd d (h.ev b)) (H.2 t)⟩
   ·exact id
  ·rw [e]; exact False.elim
 | call d pr f args =>
  simp only [opV, Qcj]
  rcases h.ev f with e | e
  ·rw [e]
   split
   ·rintro ⟨h1, h2⟩
    refine ⟨h1, fun ρ tmps w fv cv av a1 a2 a3 a4 a5 a6 a7 a8 => ?_⟩
    refine (h2 ρ tmps w fv cv av a1 (h.sim a2) a3 a4 (by simpa using a5) a6 a7 (fun i x hx => ?_)).mono ?_
    ·simp only [List.getElem?_map, Option.map_eq_some_iff] at hx
     obtain ⟨y, hy, rfl⟩ := hx
     rcases h.ev y with e | e
     ·rw [e]; exact a8 i _ (by simp [hy])
     ·rw [e]; trivial
    ·rintro e w' ⟨v, f1, hp', e1, e2, e3, e4⟩
     exact ⟨v, f1, hp', e1, e2, e3, hK _ _ _ (Fle.refl _) e4⟩
   ·exact id
  ·rw [e]; exact False.elim
 | bs d e ty ps =>
  simp only [opV, bsK]
  rintro ⟨h1, h2, h3⟩
  have e := h.mem (q := fun p => (Q9 hp p).isData = true) (by simp [Q9, Qaw, PV.isData]) (l := ps) (fun p hp => (h2 p hp).1)
  rw [e] at h2 h3
  exact ⟨h1, h2, hk _ _ _ _ h3⟩
 | bld d z ps =>
  have key : ((∀ x ∈ ps, ev fr' x.2.2 ≠ .undef) -> (ps.map fun p => (p.1, p.2.1, ev fr' p.2.2)) = ps.map fun p => (p.1, p.2.1, ev fr p.2.2)) := fun hu => by
   refine List.map_congr_left fun x hx => ?_
   rcases h.ev x.2.2 with e | e
   ·rw [e]
   ·exact absurd e (hu x hx)
  intro H
  simp only [opV, Qfn] at H
  split at H
  ·rename_i hn
   obtain ⟨h2, h3⟩ := H
   have e := key fun x hx e => by
    obtain ⟨cs, h4, _⟩ := h2 _ (List.mem_map_of_mem hx)
    rw [e] at h4; simp [stN] at h4
   rw [e] at h2 h3 hn
   simp only [opV, Qfn]
   rw [if_pos hn]
   exact ⟨h2, hK _ _ _ (h.upd' _ _) h3⟩
  ·rename_i hn
   obtain ⟨h2, h3⟩ := H
   have e := key fun x hx e => by
    have := (h2 _ (List.mem_map_of_mem hx)).1
    rw [e] at this; simp [Q9, Qaw, PV.isData] at this
   rw [e] at h2 h3 hn
   simp only [opV, Qfn]
   rw [if_neg hn]
   exact ⟨h2, hK _ _ _ (h.upd' _ _) h3⟩
 | fn d f first cap =>
  simp only [opV]
  rintro ⟨h2, h3⟩
  have h2' := h2
  rw [List.all_append, Bool.and_eq_true, List.all_eq_true, List.all_eq_true] at h2'
  have e1 := h.mem (q := fun p => p.isCap = true) (by simp [PV.isCap]) h2'.1
  have e2 := h.mem (q := fun p => p.isCap = true) (by simp [PV.isCap]) h2'.2
  rw [e1, e2] at h2 h3
  exact ⟨h2, hK _ _ _ (h.upd' _ _) h3⟩
 | nilc d x =>
  simp only [opV, Qpv]
  rcases h.ev x with e | e
  ·rw [e]
   intro H; revert H
   repeat' split
   all_goals first | exact id | exact hz _ | exact hu _ _ _ | grind
  ·rw [e]; intro H; revert H; repeat' split
   all_goals first | exact id | exact False.elim | grind
 | bin d op bt x y =>
  simp only [opV]
  rcases h.ev x with e | e <;> rcases h.ev y with e' | e' <;> rw [e, e']
  ·unfold Qa2
   intro H; revert H
   split
   ·split <;> first | exact fun H => ⟨H.1, hu _ _ _ H.2⟩ | exact fun H => ⟨H.1, H.2.1, hu _ _ _ H.2.2⟩ | exact id
   ·split <;> first | exact fun H => ⟨H.1, hu _ _ _ H.2⟩ | exact id
   ·exact id
  all_goals
   unfold Qa2
   intro H; revert H
   repeat' split
   all_goals first | exact False.elim | (intros; simp_all; done) | (rename_i h1 _; cases h1; done) | (rename_i h1; cases h1; done)
 | sl d e x lo hi mx =>
  simp only [opV, slK]
  rcases h.ev x with e0 | e0 <;> rcases Qyr h lo with e1 | e1 <;> rcases Qyr h hi with e2 | e2 <;> rcases Qyr h mx with e3 | e3 <;> rw [e0, e1, e2, e3]
  all_goals
   intro H; revert H
   try simp only [Qtb]
   repeat' split
   all_goals first | exact id | exact False.elim | (intros; simp_all; done) | grind
 | ld d n ag x =>
  simp only [opV, ldK]
  rcases h.ev x with e | e
  ·rw [e]
   intro H; revert H
   split
   ·split
    ·exact fun ⟨a, b, c, k⟩ => ⟨a, b, c, hu _ _ _ k⟩
    ·exact id
   ·exact fun ⟨a, b, k⟩ => ⟨a, b, hu _ _ _ k⟩
   ·exact fun ⟨a, b, k⟩ => ⟨a, b, hu _ _ _ k⟩
   ·intro H
    split at H
    ·rename_i hγ
     rw [h.nst hγ]
     obtain ⟨a, b, c, d, k⟩ := H
     exact ⟨a, b, c, d, hu _ _ _ k⟩
    ·exact H.elim
   ·exact id
  ·rw [e]; exact fun H => H.elim
 | st n x y =>
  simp only [opV, stK]
  rcases h.ev x with e | e <;> rcases h.ev y with e' | e' <;> rw [e, e']
  ·intro H; revert H
   split
   ·split
    ·exact fun ⟨a, b, c, d, f, k⟩ => ⟨a, b, c, d, f, hz _ k⟩
    ·exact id
   ·intro H
    split at H
    ·rename_i hγ
     rw [h.nst hγ]
     obtain ⟨a, b, c, d, H⟩ := H
     refine ⟨a, b, c, d, ?_⟩
     revert H
     split
     ·exact fun ⟨f, k⟩ => ⟨f, hK _ _ _ ((h.drop _).upd' _ _) k⟩
     ·exact id
    ·exact H.elim
   ·exact id
  ·intro H
   exfalso
   revert H
   split
   ·split
    ·rintro ⟨_, b, _⟩; simp [Q9, Qaw, PV.isData] at b
    ·exact id
   ·split
    ·rintro ⟨_, _, _, _, H⟩; exact H
    ·exact id
   ·exact id
  ·exact fun H => H.elim
  ·exact fun H => H.elim
 | app d e by_ ty x y =>
  simp only [opV, Qek]
  rcases h.ev y with e' | e'
  ·rw [e']
   intro H; revert H
   split
   ·exact id
   ·rintro ⟨h0, h1, H⟩
    refine ⟨h0, h1, ?_⟩
    rcases h.ev x with e | e
    ·rw [e] at H
     revert H
     split
     ·rintro ⟨a, b, c⟩; exact ⟨a, b, hk _ _ _ _ c⟩
     ·split
      ·rintro (⟨a1, a2, a3, a4, a5, a6, a7, c⟩ | ⟨a1, a2, a3, c⟩)
       ·exact .inl ⟨a1, a2, a3, a4, a5, a6, a7, hk _ _ _ _ c⟩
       ·exact .inr ⟨a1, a2, a3, hK _ _ _ ((h.take _).upd' _ _) c⟩
      ·exact id
     ·exact id
    ·rw [e] at H; exact H.elim
  ·rw [e']; exact fun H => H.elim
 | un d op x | conv d k x | len d x | fld d o x | fldv d o n ag x | ext d x i | box d n ty x | alloc d n ty z =>
  all_goals
   simp only [opV, unK, Qls, Qif, Qkk, Qhs, ldK, Qjd, Qd1]
   try (rcases h.ev x with e | e <;> rw [e])
  all_goals
   intro H; revert H
   repeat' split
   all_goals first | exact id | exact False.elim | exact hu _ _ _ | grind [Q9, Qaw, PV.isData]
 | eqs d ng x y | mx d x y | idx d e x y | idxA d n e x y | ixv d n e ag x y | mk d e by_ ty z x y | cpy d e x y =>
  all_goals
   simp only [opV, Qkj, mxK, Qd7, Qn0, Qra, stK, mkK, Qek, Qjc]
   rcases h.ev x with e | e <;> rcases h.ev y with e' | e' <;> rw [e, e']
  all_goals
   intro H; revert H
   repeat' split
   all_goals first | exact id | exact False.elim | exact hu _ _ _ | grind [Q9, Qaw, PV.isData, Qdk]
 | bad d => exact id
end Go.FW
namespace Go.FW
open Go
variable {C : Ctx} {ρ : Nat -> Option Nat} {fr fr' : Fr} {hp : HP} {w : World} {K K' R R' : Qf}
def KM (K' K : Qf) : Prop := ∀ f f' hp, Fle f f' -> K' f' hp -> K f hp
inductive Qg4 : List It -> List It -> Prop
 | nil : Qg4 [] []
 | c (s : SC) {a b : List It} : Qg4 a b -> Qg4 (.c s :: a) (.c s :: b)
 | o (r : RT) {a b : List It} : Qg4 a b -> Qg4 (.o r :: a) (.o r :: b)
 | eb (i : Nat) {a b : List It} : Qg4 a b -> Qg4 (.eb i :: a) (.eb i :: b)
 | el {J' J : Qf} {a b : List It} : KM J' J -> Qg4 a b -> Qg4 (.el J' :: a) (.el J :: b)
theorem Qg4.exit {id : Nat} : ∀ {a b : List It}, Qg4 a b -> (∃ a' b', FW.Qag id a = some a' /\ FW.Qag id b = some b' /\ Qg4 a' b' /\ Qat a' <= Qat a) ∨ (FW.Qag id a = none /\ FW.Qag id b = none) := by
 intro a b h
 induction h with
 | nil => exact .inr ⟨rfl, rfl⟩
 | c s h ih | o s h ih =>
  rcases ih with ⟨a', b', h1, h2, h3, h4⟩ | ⟨h1, h2⟩
  ·exact .inl ⟨a', b', by simpa [FW.Qag] using h1, by simpa [FW.Qag] using h2, h3, by simp only [Qat]; omega⟩
  ·exact .inr ⟨by simpa [FW.Qag] using h1, by simpa [FW.Qag] using h2⟩
 | el _ h ih =>
  rcases ih with ⟨a', b', h1, h2, h3, h4⟩ | ⟨h1, h2⟩
  ·exact .inl ⟨a', b', by simpa [FW.Qag] using h1, by simpa [FW.Qag] using h2, h3, by simp only [Qat]; omega⟩
  ·exact .inr ⟨by simpa [FW.Qag] using h1, by simpa [FW.Qag] using h2⟩
 | eb i h ih =>
  by_cases hi : i = id
  ·exact .inl ⟨_, _, by simp [FW.Qag, hi], by simp [FW.Qag, hi], h, by simp only [Qat]; omega⟩
  ·rcases ih with ⟨a', b', h1, h2, h3, h4⟩ | ⟨h1, h2⟩
   ·exact .inl ⟨a', b', by simpa [FW.Qag, hi] using h1, by simpa [FW.Qag, hi] using h2, h3, by simp only [Qat]; omega⟩
   ·exact .inr ⟨by simpa [FW.Qag, hi] using h1, by simpa [FW.Qag, hi] using h2⟩
theorem Qj9 (h : Fle fr fr') (hK : KM K' K) (o : SOp) : Qdp o fr' hp K' -> Qdp o fr hp K := by
 unfold Qdp; split
 ·exact hK _ _ _ (h.upd' _ _)
 ·exact hK _ _ _ h
theorem Q4i (h : Fle fr fr') (hK : KM K' K) (g : Option (Nat × Bool)) (o : SOp) : Qig C g o fr' hp K' -> Qig C g o fr hp K := by
 unfold Qig
 split
 ·exact Qrp h hK o
 ·rename_i s want
  rcases h s with e | e
  ·rw [e]
   split
   ·exact fun H => ⟨fun t => Qrp (h.upd' _ _) hK o (H.1 t), fun t => Qj9 (h.upd' _ _) hK o (H.2 t)⟩
   ·exact Qj9 h hK o
   ·exact id
  ·rw [e]; exact False.elim
theorem Qfc (hR : KM R' R) : ∀ (n : Nat) (sk' sk : List It) (fr' fr : Fr) (hp : HP), Qat sk' <= n -> Qg4 sk' sk -> Fle fr fr' -> vc C R' sk' fr' hp -> vc C R sk fr hp := by
 intro n
 induction n with
 | zero =>
  intro sk' sk fr' fr hp hn hs hf h
  cases hs with
  | nil => rw [Qh5] at h ⊢; exact hR _ _ _ hf h
  | el hJ _ => rw [Qlx] at h ⊢; exact hJ _ _ _ hf h
  | c s _ => exfalso; have := SC.sz_pos s; simp only [Qat, It.sz] at hn; omega
  | o s _ => exfalso; have := RT.sz_pos s; simp only [Qat, It.sz] at hn; omega
  | eb _ _ => exfalso; simp only [Qat, It.sz] at hn; omega
 | succ n ih =>
  intro sk' sk fr' fr hp hn hs hf h
  cases hs with
  | nil => rw [Qh5] at h ⊢; exact hR _ _ _ hf h
  | el hJ _ => rw [Qlx] at h ⊢; exact hJ _ _ _ hf h
  | eb i hs =>
   rw [Qtj] at h ⊢
   exact ih _ _ _ _ _ (by simp only [Qat, It.sz] at hn; omega) hs hf h
  | o r hs =>
   cases r with
   | nil => rw [Qnc] at h ⊢; exact ih _ _ _ _ _ (by simp only [Qat, It.sz, RT.sz] at hn; omega) hs hf h
   | o g o r =>
    rw [Q04] at h ⊢
    exact Q4i (K' := fun fr hp => vc C R' (.o r :: _) fr hp) (K := fun fr hp => vc C R (.o r :: _) fr hp) hf (fun f f' hp hf' H => ih (.o r :: _) (.o r :: _) _ _ hp (by simp only [Qat, It.sz, RT.sz] at hn ⊢; omega) (.o r hs) hf' H) g o h
   | wk r =>
    rw [Qp4] at h ⊢
    obtain ⟨fr0, hp0, hw, h⟩ := h
    exact ⟨fr0, hp0, hf.wk.trans hw, ih (.o r :: _) (.o r :: _) _ _ _ (by simp only [Qat, It.sz, RT.sz] at hn ⊢; omega) (.o r hs) (Fle.refl _) h⟩
   | br x y =>
    rw [Q05] at h ⊢
    exact ⟨ih (.o x :: _) (.o x :: _) _ _ _ (by simp only [Qat, It.sz, RT.sz] at hn ⊢; omega) (.o x hs) hf h.1, ih (.o y :: _) (.o y :: _) _ _ _ (by simp only [Qat, It.sz, RT.sz] at hn ⊢; omega) (.o y hs) hf h.2⟩
  | @c s a b hs =>
   cases s with
   | skip => rw [Qn2] at h ⊢; exact ih _ _ _ _ _ (by simp only [Qat, It.sz, SC.sz] at hn; omega) hs hf h
   | rg r => rw [Qyh] at h ⊢; exact ih (.o r :: _) (.o r :: _) _ _ _ (by simp only [Qat, It.sz, SC.sz] at hn ⊢; omega) (.o r hs) hf h
   | raw id ops =>
    rw [vc] at h ⊢
    intro tmps w Q hsim hQ
    refine h tmps w Q ?_ fun fr2 hp2 tmps2 w2 hs2 hv => hQ fr2 hp2 tmps2 w2 hs2 ?_
    ·obtain ⟨ρ, hsim⟩ := hsim
     exact ⟨ρ, hf.sim hsim⟩
    ·exact ih _ _ _ _ _ (by simp only [Qat, It.sz, SC.sz] at hn; omega) hs (Fle.refl _) hv
   | seq x y => rw [Qp6] at h ⊢; exact ih (.c x :: .c y :: _) (.c x :: .c y :: _) _ _ _ (by simp only [Qat, It.sz, SC.sz] at hn ⊢; omega) (.c x (.c y hs)) hf h
   | block id x => rw [Qlw] at h ⊢; exact ih (.c x :: .eb id :: _) (.c x :: .eb id :: _) _ _ _ (by simp only [Qat, It.sz, SC.sz] at hn ⊢; omega) (.c x (.eb id hs)) hf h
   | ret => rw [Qp7] at h ⊢; exact hR _ _ _ hf h
   | cond c x y =>
    rw [Qn3] at h ⊢
    rcases hf.ev c with e | e
    ·rw [e] at h
     unfold Qip at h ⊢
     split at h
     ·exact ⟨fun e => ih (.c x :: _) (.c x :: _) _ _ _ (by simp only [Qat, It.sz, SC.sz] at hn ⊢; omega) (.c x hs) hf (h.1 e), fun e => ih (.c y :: _) (.c y :: _) _ _ _ (by simp only [Qat, It.sz, SC.sz] at hn ⊢; omega) (.c y hs) hf (h.2 e)⟩
     ·exact h
    ·rw [e] at h; exact h.elim
   | exit id =>
    rw [Qn4] at h ⊢
    rcases hs.exit (id := id) with ⟨a', b', h1, h2, h3, h4⟩ | ⟨h1, h2⟩
    ·rw [h1] at h; rw [h2]
     simp only [Qly] at h ⊢
     exact ih _ _ _ _ _ (by simp only [Qat, It.sz, SC.sz] at hn; omega) h3 hf h
    ·rw [h1] at h; exact h.elim
   | loop x =>
    rw [Qfz] at h ⊢
    obtain ⟨I, μ, ⟨fr0, hp0, h1, h1'⟩, h2⟩ := h
    refine ⟨I, μ, ⟨fr0, hp0, hf.wk.trans h1, h1'⟩, fun fr hp hI => ?_⟩
    refine ih (.c x :: .el _ :: _) (.c x :: .el _ :: _) _ _ _ (by simp only [Qat, It.sz, SC.sz] at hn ⊢; omega) (.c x (.el ?_ hs)) (Fle.refl _) (h2 fr hp hI)
    rintro f f' hp' hf ⟨fr0, hp0, g1, g2, g3⟩
    exact ⟨fr0, hp0, hf.wk.trans g1, g2, g3⟩
def inW : List (Nat × Nat) -> Nat -> Bool
 | [], _ => false
 | (a, b) :: W, s => (decide (a <= s) && decide (s <= b)) || inW W s
theorem Q80 (s : Nat) : inW [] s = false := rfl
theorem Ql6 (a b s : Nat) (W : List (Nat × Nat)) : inW ((a, b) :: W) s = ((decide (a <= s) && decide (s <= b)) || inW W s) := rfl
def ovr (W : List (Nat × Nat)) (J F : Fr) : Fr := fun s => if inW W s then J s else F s
theorem Q1i (W : List (Nat × Nat)) (J F : Fr) (s : Nat) : ovr W J F s = if inW W s then J s else F s := rfl
theorem Qxg {W : List (Nat × Nat)} {a : Nat} {v : PV} {J F : Fr} (h : inW W a = true) : upd (ovr W J F) a v = ovr W (upd J a v) F := by
 funext s; unfold upd ovr
 by_cases hs : s = a
 ·subst hs; rw [if_pos rfl, if_pos h]; simp
 ·rw [if_neg hs]; split
  ·simp [hs]
  ·rfl
theorem Q4j {W : List (Nat × Nat)} {a : Nat} {v : PV} {J F : Fr} : upd (ovr W J F) a v = if inW W a = true then ovr W (upd J a v) F else ovr ((a, a) :: W) (upd J a v) F := by
 split
 ·exact Qxg ‹_›
 ·funext s; unfold upd ovr
  by_cases hs : s = a
  ·subst hs; simp [inW]
  ·have : (decide (a <= s) && decide (s <= a)) = false := by
    rw [Bool.and_eq_false_iff]; simp only [decide_eq_false_iff_not]; omega
   simp only [Ql6, this, Bool.false_or, if_neg hs]
theorem Q1j {W : List (Nat × Nat)} {β : Nat} {J F : Fr} : Qaq β (ovr W J F) = ovr W (Qaq β J) (Qaq β F) := by
 funext s; unfold Qaq ovr; split <;> rfl
def Qaa (B : List Nat) (F : Fr) : Fr := fun s => if (F s).refs.any B.contains then .undef else F s
theorem Qb8 (F : Fr) : Qaa [] F = F := by funext s; simp [Qaa]
theorem Qg5 {β : Nat} {B : List Nat} {F : Fr} (h : B.contains β = true) : Qaq β (Qaa B F) = Qaa B F := by
 funext s
 show Qan β (Qaa B F s) = Qaa B F s
 by_cases h1 : (F s).refs.any B.contains = true
 ·have : Qaa B F s = .undef := if_pos h1
  rw [this]; rfl
 ·have : Qaa B F s = F s := if_neg h1
  rw [this, Qan, if_neg]
  intro h2
  exact h1 (List.any_eq_true.2 ⟨β, by simpa using h2, h⟩)
theorem Qtc {β : Nat} {B : List Nat} {F : Fr} : Qaq β (Qaa B F) = if B.contains β = true then Qaa B F else Qaa (β :: B) F := by
 split
 ·exact Qg5 ‹_›
 ·funext s
  show Qan β (Qaa B F s) = Qaa (β :: B) F s
  unfold Qaa Qan
  by_cases h1 : (F s).refs.any B.contains = true
  ·have h2 : (F s).refs.any (β :: B).contains = true := by
    obtain ⟨x, hx, hx2⟩ := List.any_eq_true.1 h1
    exact List.any_eq_true.2 ⟨x, hx, by rw [List.contains_cons, hx2, Bool.or_true]⟩
   simp only [if_pos h1, if_pos h2]
   rfl
  ·simp only [if_neg h1]
   by_cases h2 : (F s).refs.contains β = true
   ·have h3 : (F s).refs.any (β :: B).contains = true := List.any_eq_true.2 ⟨β, by simpa using h2, by simp⟩
    rw [if_pos h2, if_pos h3]
   ·rw [if_neg h2, if_neg]
    intro h3
    obtain ⟨x, hx, hx2⟩ := List.any_eq_true.1 h3
    rw [List.contains_cons, Bool.or_eq_true] at hx2
    rcases hx2 with e | e
    ·have : x = β := by simpa using e
     subst this; exact h2 (by simpa using hx)
    ·exact h1 (List.any_eq_true.2 ⟨x, hx, e⟩)
theorem Qnj (B : List Nat) (F : Fr) (s : Nat) : Qaa B F s = if (F s).refs.any B.contains then .undef else F s := rfl
theorem Qpk (W : List (Nat × Nat)) (B : List Nat) : Fle fr (ovr W fr (Qaa B fr)) := fun s => by
 unfold ovr Qaa
 split
 ·exact .inl rfl
 ·split
  ·exact .inr rfl
  ·exact .inl rfl
def Qoa (W : List (Nat × Nat)) (F : Fr) (I : Nat -> Fr -> HP -> Prop) (n : Nat) : Qf := fun fr' hp' => ∃ J m, Fle fr' (ovr W J F) /\ m < n /\ I m J hp'
theorem Qae {W : List (Nat × Nat)} {F J : Fr} {I : Nat -> Fr -> HP -> Prop} {n : Nat} (m : Nat) (hl : m < n) (h : I m J hp) : Qoa W F I n (ovr W J F) hp := ⟨J, m, Fle.refl _, hl, h⟩
theorem Q4k {W : List (Nat × Nat)} {F : Fr} {I : Nat -> Fr -> HP -> Prop} {n : Nat} : KM (Qoa W F I n) (Qoa W F I n) := by
 rintro f f' hp hf ⟨J, m, h1, h2, h3⟩
 exact ⟨J, m, hf.trans h1, h2, h3⟩
def Qda (R : Qf) (sk : List It) : Prop := KM R R /\ Qg4 sk sk
theorem Qam {sk : List It} {x : SC} (hok : Qda R sk) (W : List (Nat × Nat)) (B : List Nat) (I : Nat -> Fr -> HP -> Prop) (m0 : Nat) (h0 : I m0 fr hp)
  (h : ∀ m J hp, I m J hp -> vc C R (.c x :: .el (Qoa W (Qaa B fr) I m) :: sk) (ovr W J (Qaa B fr)) hp) : vc C R (.c (.loop x) :: sk) fr hp := by
 refine Qh9 (fun m fr' hp' => ∃ J, fr' = ovr W J (Qaa B fr) /\ I m J hp') m0 (Qpk W B).wk ⟨fr, rfl, h0⟩ ?_
 rintro m _ hp' ⟨J, rfl, hI⟩
 refine Qfc hok.1 _ _ _ _ _ _ (Nat.le_refl _) (.c x (.el ?_ hok.2)) (Fle.refl _) (h m J hp' hI)
 rintro f f' hp2 hf ⟨J2, m2, e2, hl, h2⟩
 exact Qpe hl (hf.trans e2).wk ⟨J2, rfl, h2⟩
def Qg6 (W : List (Nat × Nat)) (F : Fr) (M : Fr -> HP -> Prop) : Qf := fun fr' hp' => ∃ J, Fle fr' (ovr W J F) /\ M J hp'
theorem Qho {W : List (Nat × Nat)} {F J : Fr} {M : Fr -> HP -> Prop} (h : M J hp) : Qg6 W F M (ovr W J F) hp := ⟨J, Fle.refl _, h⟩
theorem Qi0 {W : List (Nat × Nat)} {F : Fr} {M : Fr -> HP -> Prop} : KM (Qg6 W F M) (Qg6 W F M) := by
 rintro f f' hp hf ⟨J, h1, h3⟩
 exact ⟨J, hf.trans h1, h3⟩
theorem Qo {sk : List It} {W : List (Nat × Nat)} {F : Fr} {I : Nat -> Fr -> HP -> Prop} {n : Nat} (h : Qda R sk) : Qda R (.el (Qoa W F I n) :: sk) := ⟨h.1, .el Q4k h.2⟩
theorem Qz {sk : List It} {W : List (Nat × Nat)} {F : Fr} {M : Fr -> HP -> Prop} (h : Qda R sk) : Qda R (.el (Qg6 W F M) :: sk) := ⟨h.1, .el Qi0 h.2⟩
theorem Q6 {sk : List It} {i : Nat} (h : Qda R sk) : Qda R (.eb i :: sk) := ⟨h.1, .eb i h.2⟩
theorem Qac {sk : List It} {s : SC} (h : Qda R sk) : Qda R (.c s :: sk) := ⟨h.1, .c s h.2⟩
theorem Qad {sk : List It} {s : RT} (h : Qda R sk) : Qda R (.o s :: sk) := ⟨h.1, .o s h.2⟩
theorem Ql {sk : List It} {I : Nat -> Qf} {n : Nat} (h : Qda R sk) : Qda R (.el (Qk8 I n) :: sk) := ⟨h.1, .el (fun f f' hp hf ⟨a, b, h1, h2⟩ => ⟨a, b, hf.wk.trans h1, h2⟩) h.2⟩
theorem Qxh {rs : List RV} {Rr : PV -> Prop} : KM (Qc8 rs Rr) (Qc8 rs Rr) := by
 have one : ∀ (f f' : Fr) (hp : HP) (r : RV), Fle f f' -> okR f' hp r -> okR f hp r /\ rvP f' hp r = rvP f hp r := by
  intro f f' hp r hf ho
  cases r with
  | t s =>
   simp only [okR, rvP] at ho ⊢
   rcases hf s with e | e
   ·rw [e] at ho ⊢; exact ⟨ho, rfl⟩
   ·rw [e] at ho; simp [Q9, Qaw, PV.isData] at ho
  | cell s n ag =>
   simp only [okR, rvP] at ho ⊢
   rcases hf s with e | e
   ·rw [e] at ho ⊢; exact ⟨ho, rfl⟩
   ·rw [e] at ho; exact ho.elim
 intro f f' hp hf h
 unfold Qc8 at h ⊢
 split at h
 ·rename_i r
  obtain ⟨h1, h2⟩ := h
  obtain ⟨g1, g2⟩ := one f f' hp r hf h1
  rw [g2] at h2
  exact ⟨g1, h2⟩
 ·obtain ⟨h1, h2⟩ := h
  have e : rs.map (rvP f' hp) = rs.map (rvP f hp) := List.map_congr_left fun r hr => (one f f' hp r hf (h1 r hr)).2
  rw [e] at h2
  exact ⟨fun r hr => (one f f' hp r hf (h1 r hr)).1, h2⟩
theorem Q4l {rs : List RV} {ty : TypeId} {len : Nat} {Post : PV -> List PV -> Prop} : KM (Qir rs ty len Post) (Qir rs ty len Post) := by
 rintro f f' hp hf ⟨xs', h1, h2, h3, h4⟩
 refine ⟨xs', h1, h2, h3, ?_⟩
 rcases h4 with h4 | ⟨s, o, n, h4, h5, h6⟩
 ·exact .inl (Qxh _ _ _ hf h4)
 ·refine .inr ⟨s, o, n, h4, ?_, h6⟩
  rcases hf s with e | e
  ·rw [<- e]; exact h5
  ·rw [h5] at e; cases e
theorem Q4m {rs : List RV} {ty : TypeId} {Post : List PV -> Prop} : KM (Qn8 rs ty Post) (Qn8 rs ty Post) := by
 rintro f f' hp hf ⟨s, β, n, xs, h1, h2, h3⟩
 refine ⟨s, β, n, xs, h1, ?_, h3⟩
 rcases hf s with e | e
 ·rw [<- e]; exact h2
 ·rw [h2] at e; cases e
theorem Q2 {rs : List RV} {Rr : PV -> Prop} : Qda (Qc8 rs Rr) [] := ⟨Qxh, .nil⟩
theorem Qp {rs : List RV} {ty : TypeId} {len : Nat} {Post : PV -> List PV -> Prop} : Qda (Qir rs ty len Post) [] := ⟨Q4l, .nil⟩
theorem Qq {rs : List RV} {ty : TypeId} {Post : List PV -> Prop} : Qda (Qn8 rs ty Post) [] := ⟨Q4m, .nil⟩
theorem Qi1 {sk : List It} {x : SC} (i β e ty : Nat) (he : 0 < e) (hi : fr i = .nilS) (h : vc C R (.c (.loop x) :: sk) (upd (Qaq β fr) i (.ms β 0)) (Qj hp β ⟨e, ty, [], false⟩)) (hB : isB β = false := by decide) : vc C R (.c (.loop x) :: sk) fr hp := by
 rw [Qfz] at h ⊢
 obtain ⟨I, μ, ⟨fr0, hp0, h1, h1'⟩, h2⟩ := h
 exact ⟨I, μ, ⟨fr0, hp0, (Q0n i β e ty he hi hB).trans h1, h1'⟩, h2⟩
end Go.FW
namespace Go.FW
open Go
variable {C : Ctx} {fr : Fr} {hp : HP} {w : World} {K R : Qf}
theorem Qwd {P : Program} {f : FuncId} {k : IntKind} {x : Int} {r : PV} {v : Value} (hg : Qjk P f) (h : ∀ w, Calls P f #[.int k x] w fun e w' => e = .returned v /\ w' = w) (hr : ∀ w X, Qch w X r v) : Qd P f [.int k x] (· = r) := by
 refine ⟨hg, fun w X vals hX hs hrep => ?_⟩
 have h0 : ∀ u, Qu w X (.int k x) u -> u = .int k x := fun u hu => by cases hu; rfl
 have e : vals = #[.int k x] := by
  have h1 : vals.getD 0 undef = .int k x := h0 _ (hrep 0 _ rfl)
  apply Array.ext
  ·simpa using hs
  ·intro i hi hi'
   have hi0 : i = 0 := by simp at hi'; omega
   subst hi0
   simpa [Array.getD, hi] using h1
 rw [e]
 refine (h w).mono ?_
 rintro e w' ⟨rfl, rfl⟩
 exact ⟨v, r, rfl, Ext.refl _ _, hr _ _, rfl⟩
end Go.FW
namespace Go.FW
open Go
variable {C : Ctx} {fr : Fr} {hp : HP} {w : World} {K R : Qf}
theorem Q1k (a b : Nat) (hab : a ≠ b) (h : HP) (v w : HB) : Qj (Qj h a v) b w = Qj (Qj h b w) a v := by
 funext c; unfold Qj; by_cases h1 : c = a
 ·subst h1; simp [hab]
 ·simp [h1]
theorem Qys {V W P v1 v2 v0 hi u2 w0 : Nat} (hV : V = (v1 * 65536 + v2) * P + v0) (hW : W = (hi * 65536 + u2) * P + w0) (hw0 : w0 < P) (hu2 : u2 < 65536) (h1 : 0 < v1) : W < (hi / v1 + 1) * V := by
 have e1 : hi + 1 <= (hi / v1 + 1) * v1 := by
  have := Nat.div_add_mod hi v1
  have := Nat.mod_lt hi h1
  rw [Nat.add_mul, Nat.mul_comm]; omega
 have e2 : W < (hi + 1) * 65536 * P := by
  have : (hi * 65536 + u2 + 1) * P <= (hi + 1) * 65536 * P := Nat.mul_le_mul_right _ (by omega)
  rw [Nat.add_mul _ 1] at this; omega
 refine Nat.lt_of_lt_of_le e2 ?_
 calc (hi + 1) * 65536 * P <= ((hi / v1 + 1) * v1) * 65536 * P := Nat.mul_le_mul_right _ (Nat.mul_le_mul_right _ e1)
  _ = (hi / v1 + 1) * (v1 * 65536 * P) := by rw [Nat.mul_assoc, Nat.mul_assoc, Nat.mul_assoc]
  _ <= (hi / v1 + 1) * V := Nat.mul_le_mul_left _ (by rw [hV, Nat.add_mul]; omega)
theorem Q4n {V W P v1 v2 v0 hi u2 w0 d r : Nat} (hV : V = (v1 * 65536 + v2) * P + v0) (hW : W = (hi * 65536 + u2) * P + w0) (hw0 : w0 < P) (hd : d * v1 + r = hi) (ht : r * 65536 + u2 < d * v2) : W < d * V := by
 have h1 : hi * 65536 + u2 + 1 <= d * (v1 * 65536 + v2) := by
  rw [Nat.mul_add, <- Nat.mul_assoc, <- hd, Nat.add_mul]; omega
 have h2 : W < (hi * 65536 + u2 + 1) * P := by rw [hW, Nat.add_mul _ 1]; omega
 refine Nat.lt_of_lt_of_le h2 (Nat.le_trans (Nat.mul_le_mul_right _ h1) ?_)
 rw [Nat.mul_assoc]
 exact Nat.mul_le_mul_left _ (by rw [hV]; exact Nat.le_add_right _ _)
theorem Q4o {V W P v1 v2 v0 hi u2 w0 e r : Nat} (hV : V = (v1 * 65536 + v2) * P + v0) (hW : W = (hi * 65536 + u2) * P + w0) (hv0 : v0 < P) (hv1 : 1 <= v1) (he : e + 1 < 65536) (hd : (e + 1) * v1 + r = hi) (ht : ¬ r * 65536 + u2 < (e + 1) * v2) : e * V <= W := by
 have h1 : (e + 1) * (v1 * 65536 + v2) <= hi * 65536 + u2 := by
  rw [Nat.mul_add, <- Nat.mul_assoc, <- hd, Nat.add_mul ((e + 1) * v1)]; omega
 have h2 : e * v0 <= (v1 * 65536 + v2) * P := Nat.mul_le_mul (by omega) (by omega)
 calc e * V = e * (v1 * 65536 + v2) * P + e * v0 := by rw [hV, Nat.mul_add, Nat.mul_assoc]
  _ <= e * (v1 * 65536 + v2) * P + (v1 * 65536 + v2) * P := Nat.add_le_add_left h2 _
  _ = (e + 1) * (v1 * 65536 + v2) * P := by rw [Nat.add_mul e, Nat.one_mul, Nat.add_mul (e * _)]
  _ <= (hi * 65536 + u2) * P := Nat.mul_le_mul_right _ h1
  _ <= W := by rw [hW]; exact Nat.le_add_right _ _
theorem Q4p {V W P v1 v2 v0 hi u2 w0 : Nat} (hV : V = (v1 * 65536 + v2) * P + v0) (hW : W = (hi * 65536 + u2) * P + w0) (hv0 : v0 < P) (h : W < 65536 * V) (hP : 0 < P) : hi <= v1 * 65536 + v2 := by
 have h1 : hi * (65536 * P) < (v1 * 65536 + v2 + 1) * (65536 * P) := by
  have e1 : hi * (65536 * P) <= W := by rw [hW, Nat.add_mul, Nat.mul_assoc]; omega
  have e2 : V <= (v1 * 65536 + v2 + 1) * P := by rw [hV, Nat.add_mul _ 1]; omega
  have e3 : 65536 * V <= 65536 * ((v1 * 65536 + v2 + 1) * P) := Nat.mul_le_mul_left _ e2
  rw [Nat.mul_left_comm] at e3
  omega
 have := Nat.lt_of_mul_lt_mul_right h1
 omega
theorem Qle : ∀ (a : List Nat) (q b : Nat), (Qcz a [] q 0 b).2.1 = 0
 | [], _, _ => rfl
 | x :: xs, q, b => by simp only [Qcz, List.headD_nil, Nat.mul_zero, List.tail_nil]; exact Qle xs q _
theorem Qql : ∀ (a v : List Nat) (q c b : Nat), v.length < a.length -> c < 65536 -> q < 65536 -> Qg v -> (Qcz a v q c b).2.1 = 0
 | [], _, _, _, _, h, _, _, _ => by simp at h
 | x :: xs, [], q, c, b, h, hc, hq, hv => by
  simp only [Qcz, List.headD_nil, Nat.mul_zero, List.tail_nil, Nat.add_zero]
  rw [Nat.div_eq_of_lt hc]; exact Qle xs q _
 | x :: xs, y :: ys, q, c, b, h, hc, hq, hv => by
  rw [Qau] at hv
  simp only [Qcz, List.headD_cons, List.tail_cons]
  refine Qql xs ys q _ _ (by simpa using h) ?_ hq hv.2
  have := Qe1 hq hv.1
  omega
theorem Qhx {l : List Nat} {k : Nat} (h : val l < 65536 ^ k) : val (l.drop k) = 0 := by
 rcases Nat.lt_or_ge k l.length with hk | hk
 ·have := Qdi l k (by omega)
  have : 65536 ^ k * val (l.drop k) < 65536 ^ k * 1 := by omega
  have := Nat.lt_of_mul_lt_mul_left this
  omega
 ·rw [List.drop_of_length_le hk]; rfl
theorem Qxi {l : List Nat} {n : Nat} (h : l.length = n + 2) : val l = (l.getD (n + 1) 0 * 65536 + l.getD n 0) * 65536 ^ n + val (l.take n) := by
 have e := Qdi l n (by omega)
 rw [Qcl (by omega), Qcl (by omega), List.drop_of_length_le (by omega)] at e
 rw [e, Qbf (by omega), Qbf (by omega), val, Nat.mul_zero, Nat.add_zero, Nat.mul_comm (65536 ^ n)]
 rw [Nat.mul_comm 65536, Nat.add_comm (l[n]), Nat.add_comm]
theorem Qac8 :
  (∀ (β : Nat) (cs : List PV), Qan β (.pt cs) = .pt cs) /\ (∀ (β : Nat), Qan β .undef = .undef) /\ (∀ (β : Nat) (cs : List PV), Qan β (.tup cs) = .tup cs) /\
  (∀ (cs : List PV), (PV.pt cs).refs = []) /\ (PV.undef.refs = []) /\ (∀ (cs : List PV), (PV.tup cs).refs = []) /\
  (∀ (hp : HP) (cs : List PV), Q9 hp (.pt cs) = .pt cs) /\ (∀ (hp : HP) (cs : List PV), Q9 hp (.tup cs) = .tup cs) /\
  (∀ (β f : Nat) (a b : List PV), Qan β (.fn f a b) = if (a.flatMap PV.ref1 ++ b.flatMap PV.ref1).contains β then .undef else .fn f a b) /\
  (∀ (β o n : Nat), (PV.mso β o n).ref1 = [β]) /\ (∀ (β o n : Nat), (PV.rb β o n).ref1 = [β]) /\ (∀ (β o n : Nat), (PV.mp β o n).ref1 = [β]) /\
  (∀ (k : IntKind) (n : Int), (PV.int k n).ref1 = []) /\ (∀ (b : Bool), (PV.bool b).ref1 = []) /\ (∀ (e : Nat) (xs : List PV), (PV.sl e xs).ref1 = []) /\ (PV.nilS.ref1 = []) /\ (∀ (xs : List PV), (PV.pt xs).ref1 = []) := by
 refine ⟨fun _ _ => rfl, fun _ => rfl, fun _ _ => rfl, fun _ => rfl, rfl, fun _ => rfl, fun _ _ => rfl, fun _ _ => rfl, fun _ _ _ _ => rfl, fun _ _ _ => rfl, fun _ _ _ => rfl, fun _ _ _ => rfl, fun _ _ => rfl, fun _ => rfl, fun _ _ => rfl, rfl, fun _ => rfl⟩
theorem ops3 :
  (∀ (ty d e : Nat) (xs : List PV) (fr : Fr) (hp : HP) (K : Qf), Qd1 1 ty (.sl e xs) d fr hp K = K (upd (Qaq d fr) d (.mp d 0 0)) (Qj hp d ⟨1, ty, [.sl e xs], false⟩)) /\
  (∀ (ty d : Nat) (k : IntKind) (x : Int) (fr : Fr) (hp : HP) (K : Qf), Qd1 1 ty (.int k x) d fr hp K = K (upd (Qaq d fr) d (.mp d 0 0)) (Qj hp d ⟨1, ty, [.int k x], false⟩)) /\
  (∀ (ty d : Nat) (x : Bool) (fr : Fr) (hp : HP) (K : Qf), Qd1 1 ty (.bool x) d fr hp K = K (upd (Qaq d fr) d (.mp d 0 0)) (Qj hp d ⟨1, ty, [.bool x], false⟩)) /\
  (∀ (ty d : Nat) (fr : Fr) (hp : HP) (K : Qf), Qd1 1 ty .nilS d fr hp K = K (upd (Qaq d fr) d (.mp d 0 0)) (Qj hp d ⟨1, ty, [.nilS], false⟩)) /\
  (∀ (n ty d o m : Nat) (fr : Fr) (hp : HP) (K : Qf), Qd1 n ty (.mso 1000000 o m) d fr hp K = K (upd fr d (.rb 1000000 o m)) hp) /\
  (∀ (n ty d : Nat) (x : PV) (cs : List PV) (fr : Fr) (hp : HP) (K : Qf), Qd1 n ty (.agg (x :: cs)) d fr hp K = (cs.length + 1 = n /\ K (upd (Qaq d fr) d (.mp d 0 0)) (Qj hp d ⟨n, ty, [.agg (x :: cs)], false⟩))) /\
  (∀ (ty d : Nat) (x : PV) (fz : Bool) (fr : Fr) (hp : HP) (K : Qf), ldM (some ⟨1, ty, [x], fz⟩) 1 false 0 0 d fr hp K = K (upd fr d (ldV false 1 0 x)) hp) /\
  (∀ (ty β e : Nat) (x : PV) (xs : List PV) (fr : Fr) (hp : HP) (K : Qf), stM (some ⟨1, ty, [x], false⟩) β 1 0 0 (.sl e xs) fr hp K = K fr (Qj hp β ⟨1, ty, [.sl e xs], false⟩)) /\
  (∀ (ty β : Nat) (x : PV) (k : IntKind) (y : Int) (fr : Fr) (hp : HP) (K : Qf), stM (some ⟨1, ty, [x], false⟩) β 1 0 0 (.int k y) fr hp K = K fr (Qj hp β ⟨1, ty, [.int k y], false⟩)) /\
  (∀ (ty β : Nat) (x : PV) (y : Bool) (fr : Fr) (hp : HP) (K : Qf), stM (some ⟨1, ty, [x], false⟩) β 1 0 0 (.bool y) fr hp K = K fr (Qj hp β ⟨1, ty, [.bool y], false⟩)) /\
  (∀ (ty β : Nat) (x : PV) (fr : Fr) (hp : HP) (K : Qf), stM (some ⟨1, ty, [x], false⟩) β 1 0 0 .nilS fr hp K = K fr (Qj hp β ⟨1, ty, [.nilS], false⟩)) /\
  (∀ (e : Nat) (xs : List PV), ldV false 1 0 (.sl e xs) = .sl e xs) /\ (∀ (k : IntKind) (x : Int), ldV false 1 0 (.int k x) = .int k x) /\ (∀ (x : Bool), ldV false 1 0 (.bool x) = .bool x) /\ (ldV false 1 0 .nilS = .nilS) := by
 have fz : ∀ hp : HP, Q8 hp [] = hp := fun _ => rfl
 refine ⟨fun _ _ _ _ _ _ _ => ?_, fun _ _ _ _ _ _ _ => ?_, fun _ _ _ _ _ _ => ?_, fun _ _ _ _ _ => ?_, fun _ _ _ _ _ _ _ _ => Qacp (by decide), fun n ty d x cs fr hp K => ?_, fun _ _ _ _ _ _ _ => ?_, fun _ _ _ _ _ _ _ _ => ?_, fun _ _ _ _ _ _ _ _ => ?_, fun _ _ _ _ _ _ _ => ?_, fun _ _ _ _ _ _ => ?_, fun _ _ => rfl, fun _ _ => rfl, fun _ => rfl, rfl⟩
 ·simp [Qd1, Q9, Qaw, PV.isData, PV.cells, PV.refs, fz]
 ·simp [Qd1, Q9, Qaw, PV.isData, PV.cells, PV.refs, fz]
 ·simp [Qd1, Q9, Qaw, PV.isData, PV.cells, PV.refs, fz]
 ·simp [Qd1, Q9, Qaw, PV.isData, PV.cells, PV.refs, fz]
 ·apply propext
  simp only [Qd1, Q9, Qaw, PV.isData, PV.cells, PV.refs, List.length_cons, fz]
  exact ⟨fun ⟨_, h1, _, h2⟩ => ⟨h1, h2⟩, fun ⟨h1, h2⟩ => ⟨trivial, h1, by omega, h2⟩⟩
 all_goals simp [ldM, stM, PV.isData, PV.cells]
end Go.FW
namespace Go.FW
theorem Qac9 {l : List Nat} {j n V : Nat} (hl : Qg l) (hlen : j + n + 3 <= l.length) (hV : V <= 65536 ^ (n + 2)) (hz : val (l.drop (j + 1)) < V) :
  ∃ pre w post, l = pre ++ (w ++ post) /\ pre.length = j /\ w.length = n + 3 /\ Qg pre /\ Qg w /\ Qg post /\ val post = 0 /\ val (l.drop j) = val w /\ val w < 65536 * V /\
   ∃ w0, w0 < 65536 ^ n /\ val w = ((l.getD (j + (n + 2)) 0 * 65536 + l.getD (j + (n + 1)) 0) * 65536 + l.getD (j + n) 0) * 65536 ^ n + w0 := by
 have hpost : val (l.drop (j + n + 3)) = 0 := by
  have := Qhx (l := l.drop (j + 1)) (k := n + 2) (by omega)
  rw [List.drop_drop] at this
  rw [<- this]; congr 2; omega
 have hw : Qg ((l.drop j).take (n + 3)) := Qf1 (Qg0 hl j) _
 have hwl : ((l.drop j).take (n + 3)).length = n + 3 := by simp; omega
 have hsp : l.drop j = (l.drop j).take (n + 3) ++ l.drop (j + n + 3) := by
  have := (List.take_append_drop (n + 3) (l.drop j)).symm
  rw [List.drop_drop] at this
  exact this
 have Qdl : val (l.drop j) = val ((l.drop j).take (n + 3)) := by
  conv => lhs; rw [hsp]
  rw [Qb7, hpost, Nat.mul_zero, Nat.add_zero]
 have hget : ∀ i, i < n + 3 -> ((l.drop j).take (n + 3)).getD i 0 = l.getD (j + i) 0 := by
  intro i hi
  simp [List.getD_eq_getElem?_getD, List.getElem?_take, hi]
 refine ⟨l.take j, (l.drop j).take (n + 3), l.drop (j + n + 3), ?_, by simp; omega, hwl, Qf1 hl j, hw, Qg0 hl _, hpost, Qdl, ?_, ?_⟩
 ·rw [<- hsp, List.take_append_drop]
 ·rw [<- Qdl, Qcl (by omega)]
  have := Qaj hl (show j < l.length by omega)
  omega
 ·refine ⟨val (((l.drop j).take (n + 3)).take n), Qdv hw n (by omega), ?_⟩
  rw [Qxi (n := n + 1) hwl, hget _ (by omega), hget _ (by omega), Qfb (by omega)]
  rw [<- Qbf, hget _ (by omega), Nat.pow_succ]
  generalize l.getD (j + (n + 1)) 0 = a
  generalize l.getD (j + n) 0 = b
  generalize l.getD (j + (n + 1 + 1)) 0 = c
  rw [Nat.add_mul _ b, Nat.mul_assoc _ 65536, Nat.mul_comm 65536 (65536 ^ n), Nat.mul_comm (65536 ^ n) b]
  omega
theorem Q1l {U V L qs W R q pre B : Nat} (hU : U = L + V * (65536 * B * qs)) (hL : L = pre + B * W) (hW : W = q * V + R) : U = (pre + B * R) + V * (B * (q + 65536 * qs)) := by
 subst hW hL
 rw [hU, Nat.mul_add B, Nat.mul_add B q, Nat.mul_add V]
 have e1 : B * (q * V) = V * (B * q) := by rw [Nat.mul_comm q V, Nat.mul_left_comm]
 have e2 : V * (65536 * B * qs) = V * (B * (65536 * qs)) := by rw [Nat.mul_comm 65536 B, Nat.mul_assoc]
 omega
end Go.FW
namespace Go.FW
open Go
variable {C : Ctx} {fr : Fr} {hp : HP} {w : World} {K R : Qf}
theorem Qc0 {x y : RT} {sk : List It} (h1 : vc C R (.o x :: sk) fr hp) (h2 : vc C R (.o y :: sk) fr hp) : brV C R x y sk fr hp := ⟨h1, h2⟩
theorem Q81 {x y : RT} {sk : List It} {W : List (Nat × Nat)} {J F : Fr} (P : Fr -> Prop) (h0 : P J) (h : ∀ J, P J -> brV C R x y sk (ovr W J F) hp) : brV C R x y sk (ovr W J F) hp := h J h0
theorem Qut {sk : List It} {x : SC} (hok : Qda R sk) (W : List (Nat × Nat)) (B : List Nat) (I : Nat -> Fr -> HP -> Prop) (m0 : Nat) (h0 : I m0 fr hp)
  (h : ∀ F, F = Qaa B fr -> ∀ m J hp, I m J hp -> vc C R (.c x :: .el (Qoa W F I m) :: sk) (ovr W J F) hp) : vc C R (.c (.loop x) :: sk) fr hp :=
 Qam hok W B I m0 h0 (h _ rfl)
theorem Q4q {x y : RT} {sk : List It} {W0 : List (Nat × Nat)} {J0 F0 : Fr} (hok : Qda R sk) (B : List Nat) (M : Fr -> HP -> Prop)
  (h : ∀ F, F = Qaa B F0 -> brV C R x y (.el (Qg6 W0 F M) :: sk) (ovr W0 J0 F) hp) (hM : ∀ J hp, M J hp -> vc C R sk (ovr W0 J (Qaa B F0)) hp) : brV C R x y sk (ovr W0 J0 F0) hp := by
 have hle : Fle (ovr W0 J0 F0) (ovr W0 J0 (Qaa B F0)) := fun s => by
  unfold ovr Qaa
  split
  ·exact .inl rfl
  ·split
   ·exact .inr rfl
   ·exact .inl rfl
 have key : ∀ (r : RT), vc C R (.o r :: .el (Qg6 W0 (Qaa B F0) M) :: sk) (ovr W0 J0 (Qaa B F0)) hp -> vc C R (.o r :: sk) (ovr W0 J0 F0) hp := by
  intro r hr
  refine Qlb (M := Qg6 W0 (Qaa B F0) M) ?_ _ [.o r] _ _ (Nat.le_refl _) ?_
  ·rintro fr' hp' ⟨J, h1, h2⟩
   exact Qfc hok.1 _ _ _ _ _ _ (Nat.le_refl _) hok.2 h1 (hM J hp' h2)
  ·exact Qfc hok.1 _ _ _ _ _ _ (Nat.le_refl _) (.o r (.el Qi0 hok.2)) hle hr
 exact ⟨key x (h _ rfl).1, key y (h _ rfl).2⟩
theorem Qyt {fr' : Fr} {K' : Qf} {p : PV} {s : Nat} {want : Bool} {o : SOp} (h : Fle fr fr') (hK : KM K' K) : Qce C p s want o fr' hp K' -> Qce C p s want o fr hp K := by
 unfold Qce
 split
 ·exact fun H => ⟨fun t => Qrp (h.upd' _ _) hK o (H.1 t), fun t => Qj9 (h.upd' _ _) hK o (H.2 t)⟩
 ·exact Qj9 h hK o
 ·exact id
theorem Qwe {p : PV} {s : Nat} {want : Bool} {o : SOp} {r : RT} {sk : List It} (hok : Qda R sk) (W : List (Nat × Nat)) (B : List Nat) (M : Fr -> HP -> Prop)
  (h : Qce C p s want o (ovr W fr (Qaa B fr)) hp (vc C R (.o r :: .el (Qg6 W (Qaa B fr) M) :: sk))) (hM : ∀ J hp, M J hp -> vc C R sk (ovr W J (Qaa B fr)) hp) : Qce C p s want o fr hp (vc C R (.o r :: sk)) := by
 refine Qyt (Qpk W B) (fun f f' hp hf H => ?_) h
 have H' := Qfc hok.1 _ _ _ _ _ _ (Nat.le_refl _) (.o r (.el Qi0 hok.2)) hf H
 refine Qlb (M := Qg6 W (Qaa B fr) M) ?_ _ [.o r] _ _ (Nat.le_refl _) H'
 rintro fr' hp' ⟨J, h1, h2⟩
 exact Qfc hok.1 _ _ _ _ _ _ (Nat.le_refl _) hok.2 h1 (hM J hp' h2)
theorem caps : (∀ (a b c : Nat), (PV.mp a b c).isCap = true) /\ (∀ (a b c : Nat), (PV.mso a b c).isCap = true) /\ (∀ (a b c : Nat), (PV.rb a b c).isCap = true) /\ (∀ (k : IntKind) (n : Int), (PV.int k n).isCap = true) /\
  (∀ b, (PV.bool b).isCap = true) /\ (PV.nilS.isCap = true) /\ (∀ (e : Nat) (xs : List PV), (PV.sl e xs).isCap = true) /\ (∀ (xs : List PV), (PV.pt xs).isCap = true) :=
 ⟨fun _ _ _ => rfl, fun _ _ _ => rfl, fun _ _ _ => rfl, fun _ _ => rfl, fun _ => rfl, rfl, fun _ _ => rfl, fun _ => rfl⟩
end Go.FW
namespace Go.FW
def Qpl (V W : List (Nat × Nat)) : Bool := V.all fun p => W.any fun q => decide (q.1 <= p.1) && decide (p.2 <= q.2)
theorem Q1m {V W : List (Nat × Nat)} (h : Qpl V W = true) {s : Nat} (hs : inW V s = true) : inW W s = true := by
 induction V with
 | nil => cases hs
 | cons p V ih =>
  simp only [Qpl, List.all_cons, Bool.and_eq_true] at h
  rw [Ql6, Bool.or_eq_true] at hs
  rcases hs with hs | hs
  ·obtain ⟨q, hq, hq2⟩ := List.any_eq_true.1 h.1
   simp only [Bool.and_eq_true, decide_eq_true_eq] at hq2 hs
   clear h ih
   induction W with
   | nil => cases hq
   | cons r W ih =>
    rw [Ql6, Bool.or_eq_true]
    rcases List.mem_cons.1 hq with rfl | hq
    ·left; simp only [Bool.and_eq_true, decide_eq_true_eq]; omega
    ·right; exact ih hq
  ·exact ih h.2 hs
theorem Qtd {B B' : List Nat} {F : Fr} (h : B.all B'.contains = true) : Qaa B (Qaa B' F) = Qaa B' F := by
 funext s
 by_cases h1 : (F s).refs.any B'.contains = true
 ·have : Qaa B' F s = .undef := if_pos h1
  show (if (Qaa B' F s).refs.any B.contains = true then PV.undef else Qaa B' F s) = _
  rw [this]; rfl
 ·have : Qaa B' F s = F s := if_neg h1
  show (if (Qaa B' F s).refs.any B.contains = true then PV.undef else Qaa B' F s) = _
  rw [this, if_neg]
  intro h2
  obtain ⟨x, hx, hx2⟩ := List.any_eq_true.1 h2
  exact h1 (List.any_eq_true.2 ⟨x, hx, List.all_eq_true.1 h x (by simpa using hx2)⟩)
theorem Qcp {V W : List (Nat × Nat)} {X Z F : Fr} (h : Qpl V W = true) : ovr V X (ovr W Z F) = ovr W (ovr V X Z) F := by
 funext s
 unfold ovr
 by_cases h1 : inW V s = true
 ·simp [h1, Q1m h h1]
 ·simp [h1]
theorem Qadb {W V S d : Nat} (hs : S + d * V = W) (hdW : W < (d + 1) * V) : S < V /\ W = d * V + S := by
 rw [Nat.add_mul] at hdW; omega
theorem Q82 {W V B S e k res : Nat} (hs : S + (e + 1) * V = W + B) (hS : S < B) (heV : e * V <= W) (hr : res + B * k = S + V) (hres : res < B) (hWB : W < B) : res < V /\ W = e * V + res := by
 rw [Nat.add_mul, Nat.one_mul] at hs
 generalize e * V = x at *
 have hk : k = 1 := by
  match k, hr with
  | 0, hr => omega
  | 1, _ => rfl
  | k + 2, hr =>
   have : B * (k + 2) = B * k + B + B := by rw [Nat.mul_add]; omega
   omega
 subst hk
 omega
theorem Qsk {pre R post qs : List Nat} {j q U V L W : Nat} (hp : pre.length = j) (hpost : val post = 0) (hU : U = L + V * (65536 ^ (j + 1) * val qs)) (hL : L = val pre + 65536 ^ j * W) (hW : W = q * V + val R) :
  val ((pre ++ (R ++ post)).drop j) = val R /\ U = val (pre ++ (R ++ post)) + V * (65536 ^ j * val (q :: qs)) := by
 have e : (pre ++ (R ++ post)).drop j = R ++ post := by rw [<- hp, List.drop_left]
 have e2 : val (R ++ post) = val R := by rw [Qb7, hpost, Nat.mul_zero, Nat.add_zero]
 refine ⟨by rw [e, e2], ?_⟩
 rw [Qb7, e2, hp, val]
 exact Q1l (by rw [hU, Nat.pow_succ, Nat.mul_comm (65536 ^ j)]) hL hW
theorem Qob {j q : Nat} {qs : List Nat} : (List.replicate (j + 1) 0 ++ qs).set j q = List.replicate j 0 ++ (q :: qs) := by
 rw [List.replicate_succ', List.append_assoc, List.singleton_append, Qb4 (by simp)]
end Go.FW
namespace Go.FW
open Go
variable {C : Ctx} {fr : Fr} {hp : HP} {w : World} {K R : Qf}
theorem opsE : (∀ (C : Ctx) (d : Nat) (ng : Bool) (x y : Opd) (fr : Fr) (hp : HP) (K : Qf), opV C (.eqs d ng x y) fr hp K = Qkj ng (ev fr x) (ev fr y) d fr hp K) /\
  (∀ (k l : IntKind) (x y x' y' : Int) (d : Nat) (fr : Fr) (hp : HP) (K : Qf), Qkj false (.agg [.int k x, .int l y]) (.agg [.int k x', .int l y']) d fr hp K = K (upd fr d (.bool (decide (x = x') && decide (y = y')))) hp) /\
  (∀ (k l : IntKind) (x y x' y' : Int) (d : Nat) (fr : Fr) (hp : HP) (K : Qf), Qkj true (.agg [.int k x, .int l y]) (.agg [.int k x', .int l y']) d fr hp K = K (upd fr d (.bool (!(decide (x = x') && decide (y = y'))))) hp) :=
 ⟨fun _ _ _ _ _ _ _ _ => rfl, fun _ _ _ _ _ _ _ _ _ _ => by simp [Qkj], fun _ _ _ _ _ _ _ _ _ _ => by simp [Qkj]⟩
theorem Q4r {α : Type} {f : α -> PV} {e d : Nat} {k : IntKind} {xs : List α} (h : 0 < xs.length) : Qd7 e (.sl e (xs.map f)) (.int k 0) d fr hp K = K (upd fr d (.pt (f (xs[0]'h)).cells)) hp := by
 rw [Qix (by omega) (by omega)]; rfl
theorem Q4s {α : Type} {f : α -> PV} {e d : Nat} {k : IntKind} {xs : List α} (h : 1 < xs.length) : Qd7 e (.sl e (xs.map f)) (.int k 1) d fr hp K = K (upd fr d (.pt (f (xs[1]'h)).cells)) hp := by
 rw [Qix (by omega) (by omega)]; rfl
theorem Q4t {e d : Nat} {k : IntKind} {x : PV} {xs : List PV} : Qd7 e (.sl e (x :: xs)) (.int k 0) d fr hp K = K (upd fr d (.pt x.cells)) hp := by
 rw [Qud (by omega) (by simp only [List.length_cons]; omega)]; rfl
theorem Q4u {e d : Nat} {k : IntKind} {x y : PV} {xs : List PV} : Qd7 e (.sl e (x :: y :: xs)) (.int k 1) d fr hp K = K (upd fr d (.pt y.cells)) hp := by
 rw [Qud (by omega) (by simp only [List.length_cons]; omega)]; rfl
def PV.flat : PV -> Bool
 | .int .. | .bool _ | .nilS | .sl .. | .agg _ | .pt _ => true
 | _ => false
theorem Qafs : (∀ (k : IntKind) (n : Int), (PV.int k n).flat = true) /\ (∀ b, (PV.bool b).flat = true) /\ (PV.nilS.flat = true) /\ (∀ (e : Nat) (xs : List PV), (PV.sl e xs).flat = true) /\ (∀ xs, (PV.agg xs).flat = true) /\ (∀ xs, (PV.pt xs).flat = true) :=
 ⟨fun _ _ => rfl, fun _ => rfl, rfl, fun _ _ => rfl, fun _ => rfl, fun _ => rfl⟩
theorem Qaft : (∀ (k : IntKind) (n : Int), (PV.int k n).isData = true) /\ (∀ b, (PV.bool b).isData = true) /\ (PV.nilS.isData = true) /\ (∀ (e : Nat) (xs : List PV), (PV.sl e xs).isData = true) /\ (∀ xs, (PV.agg xs).isData = true) /\ (∀ xs, (PV.pt xs).isData = true) :=
 ⟨fun _ _ => rfl, fun _ => rfl, rfl, fun _ _ => rfl, fun _ => rfl, fun _ => rfl⟩
theorem Qdw {p : PV} (h : p.flat = true) : Q9 hp p = p /\ p.refs = [] /\ p.isData = true := by
 cases p <;> first | (cases h; done) | exact ⟨rfl, rfl, rfl⟩
theorem Qoc {e ty d : Nat} {ps : List PV} (h : ps.all PV.flat = true) (hl : ∀ p ∈ ps, p.cells.length = e) (he : 0 < e) : bsK e ty ps d fr hp K = K (upd (Qaq d fr) d (.ms d ps.length)) (Qj hp d ⟨e, ty, ps, false⟩) := by
 have h' := List.all_eq_true.1 h
 have e1 : ps.map (Q9 hp) = ps := by
  conv => rhs; rw [<- List.map_id ps]
  exact List.map_congr_left fun p hp' => (Qdw (h' p hp')).1
 have e2 : ps.flatMap PV.refs = [] := by
  rw [List.flatMap_eq_nil_iff]; exact fun p hp' => (Qdw (hp := hp) (h' p hp')).2.1
 have e3 : Qn1 hp e ps := fun p hp' => by
  obtain ⟨h1, _, h3⟩ := Qdw (hp := hp) (h' p hp')
  rw [h1]; exact ⟨h3, hl p hp'⟩
 simp only [bsK, e1, e2, e3, he, true_and]
 rfl
theorem bs1 {e ty d : Nat} {p : PV} (h : p.flat = true) (hl : p.cells.length = e) (he : 0 < e) : bsK e ty [p] d fr hp K = K (upd (Qaq d fr) d (.ms d 1)) (Qj hp d ⟨e, ty, [p], false⟩) :=
 Qoc (by simp [h]) (by simpa using hl) he
theorem bs2 {e ty d : Nat} {p q : PV} (h : p.flat = true) (h2 : q.flat = true) (hl : p.cells.length = e) (hl2 : q.cells.length = e) (he : 0 < e) : bsK e ty [p, q] d fr hp K = K (upd (Qaq d fr) d (.ms d 2)) (Qj hp d ⟨e, ty, [p, q], false⟩) :=
 Qoc (by simp [h, h2]) (by simp [hl, hl2]) he
end Go.FW
namespace Go.FW
theorem Qwf {y n s yi : Nat} (hy : (dig y).length = n + 2) (hyi : (dig y)[n + 1]'(by omega) = yi) (h1 : 2 ^ 15 <= yi * 2 ^ s) (h2 : (yi + 1) * 2 ^ s <= 65536) :
  (dig (y * 2 ^ s)).length = n + 2 /\ 32768 <= (dig (y * 2 ^ s)).getD (n + 1) 0 /\ 32768 * 65536 ^ (n + 1) <= y * 2 ^ s := by
 have hl := Qi y
 have e := Qdi (dig y) (n + 1) (by omega)
 have ht := Qdv hl (n + 1) (by omega)
 rw [Qcl (by omega), List.drop_of_length_le (by omega), hyi, Qy] at e
 simp only [val, Nat.mul_zero, Nat.add_zero] at e
 have g1 : 32768 * 65536 ^ (n + 1) <= y * 2 ^ s := by
  calc 32768 * 65536 ^ (n + 1) <= (yi * 2 ^ s) * 65536 ^ (n + 1) := Nat.mul_le_mul_right _ h1
   _ = (65536 ^ (n + 1) * yi) * 2 ^ s := by rw [Nat.mul_comm (65536 ^ (n + 1)), Nat.mul_right_comm]
   _ <= y * 2 ^ s := Nat.mul_le_mul_right _ (by omega)
 have g2 : y * 2 ^ s < 65536 ^ (n + 2) := by
  have hp : 0 < 2 ^ s := Nat.pow_pos (by omega)
  calc y * 2 ^ s < (65536 ^ (n + 1) * (yi + 1)) * 2 ^ s := Nat.mul_lt_mul_of_pos_right (by rw [Nat.mul_add]; omega) hp
   _ = 65536 ^ (n + 1) * ((yi + 1) * 2 ^ s) := Nat.mul_assoc _ _ _
   _ <= 65536 ^ (n + 1) * 65536 := Nat.mul_le_mul_left _ h2
   _ = 65536 ^ (n + 2) := (Nat.pow_succ ..).symm
 have hle : nl (y * 2 ^ s) <= n + 2 := Qfk.2 g2
 have hge : ¬ nl (y * 2 ^ s) <= n + 1 := fun h => by
  have := Qfk.1 h
  omega
 have hlen : (dig (y * 2 ^ s)).length = n + 2 := by unfold nl at hle hge; omega
 refine ⟨hlen, ?_, g1⟩
 have e2 := Qdi (dig (y * 2 ^ s)) (n + 1) (by omega)
 have ht2 := Qdv (Qi (y * 2 ^ s)) (n + 1) (by omega)
 rw [Qcl (by omega), List.drop_of_length_le (by omega), Qy] at e2
 simp only [val, Nat.mul_zero, Nat.add_zero] at e2
 have hg : (dig (y * 2 ^ s)).getD (n + 1) 0 = (dig (y * 2 ^ s))[n + 1]'(by omega) := Qbf (by omega)
 rw [hg]
 apply Decidable.byContradiction
 intro h
 have : 65536 ^ (n + 1) * (dig (y * 2 ^ s))[n + 1] <= 65536 ^ (n + 1) * 32767 := Nat.mul_le_mul_left _ (by omega)
 omega
theorem Q1n {yi s : Nat} (hs : s <= 15) (h1 : 2 ^ (16 - s) <= 2 * yi) (h2 : yi < 2 ^ (16 - s)) : 2 ^ 15 <= yi * 2 ^ s /\ (yi + 1) * 2 ^ s <= 65536 := by
 have e : 2 ^ (16 - s) * 2 ^ s = 65536 := by rw [<- Nat.pow_add, show 16 - s + s = 16 by omega]
 constructor
 ·have := Nat.mul_le_mul_right (2 ^ s) h1
  rw [e, Nat.mul_assoc] at this; omega
 ·rw [<- e]; exact Nat.mul_le_mul_right _ h2
theorem Qwg {x s m n Y : Nat} (hx : (dig x).length = m + 2) (hs : s <= 15) (hnm : n <= m) (hY : 32768 * 65536 ^ (n + 1) <= Y) :
  ∃ u ex, dig (x * 2 ^ s) ++ [0, 0] = u ++ ex /\ u.length = m + 3 /\ Qg u /\ val u = x * 2 ^ s /\ ex.length <= 2 /\ val (u.drop (m + 3 - (n + 2))) < Y := by
 have hxlt := Qfa (Qi x)
 rw [hx, Qy] at hxlt
 have hp : 0 < 2 ^ s := Nat.pow_pos (by omega)
 have hs15 : 2 ^ s <= 2 ^ 15 := Nat.pow_le_pow_right (by omega) hs
 have hX : x * 2 ^ s < 2 ^ s * 65536 ^ (m + 2) := by rw [Nat.mul_comm (2 ^ s)]; exact Nat.mul_lt_mul_of_pos_right hxlt hp
 have hX2 : x * 2 ^ s < 65536 ^ (m + 3) := by
  have : 2 ^ s * 65536 ^ (m + 2) <= 65536 * 65536 ^ (m + 2) := Nat.mul_le_mul_right _ (by omega)
  rw [Nat.pow_succ 65536 (m + 2), Nat.mul_comm _ 65536]; omega
 have hx1 : ¬ nl (x * 2 ^ s) <= m + 1 := fun h => by
  have h2 : ¬ nl x <= m + 1 := by unfold nl; omega
  have h3 := Qbx (show x <= x * 2 ^ s from Nat.le_mul_of_pos_right _ hp)
  omega
 have hx2 : nl (x * 2 ^ s) <= m + 3 := Qfk.2 hX2
 have hlim : Qg (dig (x * 2 ^ s) ++ [0, 0]) := Qbq.2 ⟨Qi _, by intro z hz; simp at hz; omega⟩
 have Qdl : val (dig (x * 2 ^ s) ++ [0, 0]) = x * 2 ^ s := by rw [Qb7, Qy]; simp [val]
 have hlen : (dig (x * 2 ^ s) ++ [0, 0]).length = nl (x * 2 ^ s) + 2 := by simp [nl]
 generalize dig (x * 2 ^ s) ++ [0, 0] = D at *
 have hv := Qdi D (m + 3) (by omega)
 have hz : val (D.drop (m + 3)) = 0 := Qhx (by omega)
 have hul : (D.take (m + 3)).length = m + 3 := by rw [List.length_take]; omega
 refine ⟨D.take (m + 3), D.drop (m + 3), (List.take_append_drop _ _).symm, hul, Qf1 hlim _, by rw [hz] at hv; omega, by rw [List.length_drop]; omega, ?_⟩
 have hu : val (D.take (m + 3)) = x * 2 ^ s := by rw [hz] at hv; omega
 have hv2 := Qdi (D.take (m + 3)) (m + 3 - (n + 2)) (by omega)
 generalize D.take (m + 3) = u at *
 have e : 65536 ^ (m + 2) = 65536 ^ (m + 3 - (n + 2)) * 65536 ^ (n + 1) := by rw [<- Nat.pow_add]; congr 1; omega
 have : 65536 ^ (m + 3 - (n + 2)) * val (u.drop (m + 3 - (n + 2))) < 65536 ^ (m + 3 - (n + 2)) * (2 ^ s * 65536 ^ (n + 1)) := by
  rw [Nat.mul_left_comm, <- e]; omega
 have h4 := Nat.lt_of_mul_lt_mul_left this
 have : 2 ^ s * 65536 ^ (n + 1) <= 32768 * 65536 ^ (n + 1) := Nat.mul_le_mul_right _ hs15
 omega
end Go.FW
namespace Go.FW
open Go
variable {C : Ctx} {fr : Fr} {hp : HP} {w : World} {K R : Qf}
theorem Q4v {e ty n : Nat} {fz : Bool} {o d : Nat} {x : PV} (h : o + n <= e) : ldM (some ⟨e, ty, [x], fz⟩) n true 0 o d fr hp K = K (upd fr d (ldV true n o x)) hp := Qxa h (by simp)
theorem Q4w {e ty : Nat} {fz : Bool} {o d : Nat} {x : PV} (h : o + 1 <= e) : ldM (some ⟨e, ty, [x], fz⟩) 1 false 0 o d fr hp K = K (upd fr d (ldV false 1 o x)) hp := Qxa h (by simp)
theorem Qafu (n o : Nat) (cs : List PV) : ldV true n o (.agg cs) = .agg ((cs.drop o).take n) := rfl
theorem Qafv (n o : Nat) (cs : List PV) : ldV false n o (.agg cs) = (cs.drop o).headD .undef := rfl
theorem Qyu (n ty β : Nat) (x : PV) (cs : List PV) : stM (some ⟨n, ty, [x], false⟩) β n 0 0 (.agg cs) fr hp K = (cs.length = n /\ K fr (Qj hp β ⟨n, ty, [.agg cs], false⟩)) := by
 simp [stM, PV.isData, PV.cells]
theorem Q4x {e n ty β o : Nat} {x v : PV} (h : v.flat = true) (hn : ¬ n = e) (hl : v.cells.length = n) (ho : o + n <= e) : stM (some ⟨e, ty, [x], false⟩) β n 0 o v fr hp K = K fr (Qj hp β ⟨e, ty, [stV x o v], false⟩) := by
 have := (Qdw (hp := hp) h).2.2
 simp [stM, this, hl, ho, hn]
theorem Q83 (cs : List PV) (o : Nat) (v : PV) : stV (.agg cs) o v = .agg (cs.take o ++ v.cells ++ cs.drop (o + v.cells.length)) := rfl
theorem Q1o : (PV.nilS).cells = [.nilS] := rfl
theorem Ql7 {p : PV} (h : p.flat = true) : p.isNst = false := by cases p <;> simp_all [PV.flat, PV.isNst]
theorem Ql8 {z : List PV} {ps : List (Nat × Nat × PV)} {d : Nat} (h : ps.all (fun p => p.2.2.flat) = true) :
  Qfn z ps d fr hp K = ((∀ p ∈ ps, p.2.2.cells.length = p.2.1 /\ p.1 + p.2.1 <= z.length) /\ K (upd fr d (.agg (Qcu z (ps.map fun p => (p.1, p.2.2.cells))))) hp) := by
 have h' := List.all_eq_true.1 h
 have e1 : (ps.map fun p => (p.1, (Q9 hp p.2.2).cells)) = ps.map fun p => (p.1, p.2.2.cells) := List.map_congr_left fun p hp' => by rw [(Qdw (h' p hp')).1]
 have e2 : (ps.flatMap fun p => p.2.2.refs) = [] := by
  rw [List.flatMap_eq_nil_iff]; exact fun p hp' => (Qdw (hp := hp) (h' p hp')).2.1
 have e3 : Qtt hp z.length ps = (∀ p ∈ ps, p.2.2.cells.length = p.2.1 /\ p.1 + p.2.1 <= z.length) := by
  apply propext
  constructor
  ·intro H p hp'
   obtain ⟨_, h2, h3⟩ := H p hp'
   rw [(Qdw (h' p hp')).1] at h2; exact ⟨h2, h3⟩
  ·intro H p hp'
   obtain ⟨h2, h3⟩ := H p hp'
   obtain ⟨g1, _, g3⟩ := Qdw (hp := hp) (h' p hp')
   rw [g1]; exact ⟨g3, h2, h3⟩
 have e4 : ps.any (fun p => p.2.2.isNst) = false := by
  rw [List.any_eq_false]; exact fun p hp' => by simp [Ql7 (h' p hp')]
 simp only [Qfn, e4, Qpu, e1, e2, e3, Bool.false_eq_true, if_false]
 rfl
theorem bld0 (z : List PV) (d : Nat) : Qfn z [] d fr hp K = K (upd fr d (.agg z)) hp := by rw [Ql8 rfl]; simp [Qcu]
theorem bld1 {z : List PV} {o n d : Nat} {p : PV} (h : p.flat = true) : Qfn z [(o, n, p)] d fr hp K = ((p.cells.length = n /\ o + n <= z.length) /\ K (upd fr d (.agg (z.take o ++ p.cells ++ z.drop (o + p.cells.length)))) hp) := by
 rw [Ql8 (by simp [h])]; simp [Qcu]
theorem bld2 {z : List PV} {o n o2 n2 d : Nat} {p q : PV} (h : p.flat = true) (h2 : q.flat = true) : Qfn z [(o, n, p), (o2, n2, q)] d fr hp K =
  ((p.cells.length = n /\ o + n <= z.length) /\ (q.cells.length = n2 /\ o2 + n2 <= z.length) /\ K (upd fr d (.agg (Qcu z [(o, p.cells), (o2, q.cells)]))) hp) := by
 rw [Ql8 (by simp [h, h2])]; simp [and_assoc]
theorem bld3 {z : List PV} {o n o2 n2 o3 n3 d : Nat} {p q r : PV} (h : p.flat = true) (h2 : q.flat = true) (h3 : r.flat = true) : Qfn z [(o, n, p), (o2, n2, q), (o3, n3, r)] d fr hp K =
  ((p.cells.length = n /\ o + n <= z.length) /\ (q.cells.length = n2 /\ o2 + n2 <= z.length) /\ (r.cells.length = n3 /\ o3 + n3 <= z.length) /\ K (upd fr d (.agg (Qcu z [(o, p.cells), (o2, q.cells), (o3, r.cells)]))) hp) := by
 rw [Ql8 (by simp [h, h2, h3])]; simp [and_assoc]
theorem Q1p (c : List PV) : Qcu c [] = c := rfl
theorem Qyv (c xs : List PV) (o : Nat) (r : List (Nat × List PV)) : Qcu c ((o, xs) :: r) = Qcu (c.take o ++ xs ++ c.drop (o + xs.length)) r := rfl
def Qtn (p : PV) (hp : HP) (n : Nat) (ag : Bool) : PV := match p with
 | .mp β i o => match hp β with
  | some hb => if i < hb.xs.length /\ o + n <= hb.e /\ (ag = false -> n = 1) then ldV ag n o ((hb.xs[i]?).getD .undef) else .undef
  | none => .undef
 | _ => .undef
def gv (fr : Fr) (hp : HP) : RV -> PV
 | .t s => Q9 hp (fr s)
 | .cell s n ag => Qtn (fr s) hp n ag
def Qqm (hb : Option HB) (n : Nat) (ag : Bool) (i o : Nat) : PV := match hb with
  | some hb => if i < hb.xs.length /\ o + n <= hb.e /\ (ag = false -> n = 1) then ldV ag n o ((hb.xs[i]?).getD .undef) else .undef
  | none => .undef
theorem gv_t (fr : Fr) (hp : HP) (s : Nat) : gv fr hp (.t s) = Q9 hp (fr s) := rfl
theorem gv_c (fr : Fr) (hp : HP) (s n : Nat) (ag : Bool) : gv fr hp (.cell s n ag) = Qtn (fr s) hp n ag := rfl
theorem Q4y (hp : HP) (n : Nat) (ag : Bool) (β i o : Nat) : Qtn (.mp β i o) hp n ag = Qqm (hp β) n ag i o := rfl
theorem Q84 {e ty n o : Nat} {fz : Bool} {x : PV} (h : o + n <= e) : Qqm (some ⟨e, ty, [x], fz⟩) n true 0 o = ldV true n o x := by simp [Qqm, h]
theorem Q85 {e ty o : Nat} {fz : Bool} {x : PV} (h : o + 1 <= e) : Qqm (some ⟨e, ty, [x], fz⟩) 1 false 0 o = ldV false 1 o x := by simp [Qqm, h]
theorem Qod {r : RV} (h : (gv fr hp r).isData = true) : okR fr hp r /\ rvP fr hp r = gv fr hp r := by
 cases r with
 | t s => exact ⟨h, rfl⟩
 | cell s n ag =>
  simp only [gv, okR, rvP] at h ⊢
  cases hfs : fr s with
  | mp β i o =>
   rw [hfs] at h
   simp only [Qtn] at h ⊢
   cases hβ : hp β with
   | none => rw [hβ] at h; cases h
   | some hb =>
    rw [hβ] at h
    simp only at h ⊢
    split at h
    ·rename_i hc
     rw [if_pos hc]; exact ⟨hc, rfl⟩
    ·cases h
  | _ => rw [hfs] at h; cases h
theorem Qa0 {r : RV} {Rr : PV -> Prop} (h : Qri Rr (gv fr hp r)) : Qc8 [r] Rr fr hp := by
 obtain ⟨h1, h2⟩ := Qod h.1
 exact ⟨h1, by rw [h2]; exact h.2⟩
theorem Qdd {r s : RV} {Rr : PV -> Prop} (h : Qtl Rr (gv fr hp r) (gv fr hp s)) : Qc8 [r, s] Rr fr hp := by
 obtain ⟨⟨a, b⟩, c⟩ := h
 obtain ⟨h1, h2⟩ := Qod a
 obtain ⟨h3, h4⟩ := Qod b
 refine ⟨by simp [h1, h3], ?_⟩
 simp only [List.map_cons, List.map_nil, h2, h4]; exact c
theorem Qafw {r s t : RV} {Rr : PV -> Prop} (h : Qtm Rr (gv fr hp r) (gv fr hp s) (gv fr hp t)) : Qc8 [r, s, t] Rr fr hp := by
 obtain ⟨⟨a, b, b'⟩, c⟩ := h
 obtain ⟨h1, h2⟩ := Qod a
 obtain ⟨h3, h4⟩ := Qod b
 obtain ⟨h5, h6⟩ := Qod b'
 refine ⟨by simp [h1, h3, h5], ?_⟩
 simp only [List.map_cons, List.map_nil, h2, h4, h6]; exact c
end Go.FW
namespace Go.FW
open Go
def zv (n : Bool) (a : List Nat) : Int := if n then -(val a : Int) else val a
abbrev PV.zi (n : Bool) (a : List Nat) : PV := .agg [.bool n, PV.nat a]
abbrev PV.zz (z : Int) : PV := .agg [.bool (decide (z < 0)), PV.num z.natAbs]
theorem Qrq (n : Bool) (x : Nat) : PV.agg [.bool (n && decide (0 < (dig x).length)), PV.num x] = PV.zz (if n then -(x : Int) else x) := by
 have h : 0 < (dig x).length ↔ x ≠ 0 := by
  constructor
  ·intro h h0; rw [h0, Qa1] at h; simp at h
  ·intro h; apply Nat.pos_of_ne_zero; intro h0; exact h (Qbk.1 (Qcy h0))
 cases n
 ·simp
 ·simp only [Bool.true_and, if_true, PV.zz, Int.natAbs_neg, Int.natAbs_natCast]
  congr 3
  exact decide_eq_decide.2 (by rw [h]; omega)
theorem Qe4 (z : Int) : zv (decide (z < 0)) (dig z.natAbs) = z := by
 unfold zv; rw [Qy]; by_cases h : z < 0 <;> simp [h] <;> omega
theorem Qbb (n : Bool) (a : List Nat) : (zv n a).natAbs = val a := by unfold zv; split <;> simp
theorem Qfu (a : List Nat) : zv false a = val a := rfl
theorem Qg7 (n : Bool) (x : Nat) : zv n (dig x) = if n then -(x : Int) else x := by unfold zv; rw [Qy]
def sgn (z : Int) : Int := if z < 0 then -1 else if 0 < z then 1 else 0
def Qe5 (x y : Int) : Int := if x < y then -1 else if y < x then 1 else 0
theorem Quu (n : Bool) (a : List Nat) : sgn (zv n a) = if val a = 0 then 0 else if n then -1 else 1 := by
 unfold sgn zv; cases n <;> simp <;> split <;> (try split) <;> omega
theorem Qlf {x : Int} : sgn x < 0 ↔ x < 0 := by unfold sgn; split <;> (try split) <;> omega
theorem Q86 {x y : Int} (h : sgn x < sgn y) : Qe5 x y = -1 := by
 unfold sgn at h; unfold Qe5; rw [if_pos]; split at h <;> split at h <;> (try split at h) <;> (try split at h) <;> omega
theorem Q87 {x y : Int} (h : sgn y < sgn x) : Qe5 x y = 1 := by
 have : y < x := by unfold sgn at h; split at h <;> split at h <;> (try split at h) <;> (try split at h) <;> omega
 unfold Qe5; rw [if_neg (by omega), if_pos this]
theorem Ql9 (n : Bool) (a : List Nat) : zv n a = val a ∨ zv n a = -(val a : Int) := by unfold zv; split <;> simp
theorem Q88 {n m : Bool} {a b : List Nat} (h : zv n a < 0) (h2 : zv m b < 0) : Qdr (val b) (val a) = Qe5 (zv n a) (zv m b) := by
 unfold Qdr Qe5
 have e := Ql9 n a
 have f := Ql9 m b
 generalize zv n a = p at *
 generalize zv m b = q at *
 repeat' split
 all_goals omega
theorem Q89 {n m : Bool} {a b : List Nat} (h : ¬ zv n a < 0) (h2 : ¬ zv m b < 0) : Qdr (val a) (val b) = Qe5 (zv n a) (zv m b) := by
 unfold Qdr Qe5
 have e := Ql9 n a
 have f := Ql9 m b
 generalize zv n a = p at *
 generalize zv m b = q at *
 repeat' split
 all_goals omega
theorem Qma {x y : Nat} : Qdr x y < 0 ↔ x < y := by unfold Qdr; split <;> (try split) <;> omega
end Go.FW
namespace Go.FW
open Go
variable {C : Ctx} {fr : Fr} {hp : HP} {w : World} {K R : Qf}
def Qyw (hb : Option HB) (o n : Nat) : PV := match hb with
 | some hb => .sl hb.e ((hb.xs.drop o).take n)
 | none => .undef
theorem Qn : (∀ (hp : HP) (β o n : Nat), Q9 hp (.mso β o n) = if isY β = true then .undef else Qyw (hp β) o n) /\
  (∀ (e ty o n : Nat) (xs : List PV) (fz : Bool), Qyw (some ⟨e, ty, xs, fz⟩) o n = .sl e ((xs.drop o).take n)) /\
  (∀ (β : Nat), isY β = (decide (1000000 <= β) && decide (β < 2000000))) /\
  (∀ (hp : HP) (l : List Nat) (β : Nat), FW.Q8 hp l β = if l.contains β = true then (hp β).map (fun hb => { hb with fz := true }) else hp β) := by
 refine ⟨fun hp β o n => ?_, fun _ _ _ _ _ _ => rfl, fun _ => rfl, fun _ _ _ => rfl⟩
 simp only [Q9, Qaw, Qyw]
 cases isY β <;> cases hp β <;> rfl
theorem Qadc {n d : Nat} {cs : List PV} (h : n <= cs.length) : ldK n true (.pt cs) d fr hp K = K (upd fr d (.agg (cs.take n))) hp := by
 simp [ldK, h, ldV, PV.cells]
theorem Qadd {off d : Nat} {cs : List PV} (h : off <= cs.length) : Qkk off (.pt cs) d fr hp K = K (upd fr d (.pt (cs.drop off))) hp := by
 simp [Qkk, h]
theorem Qade {off n d : Nat} {cs : List PV} (h : off + n <= cs.length) : Qhs off n true (.agg cs) d fr hp K = K (upd fr d (.agg ((cs.drop off).take n))) hp := by
 simp [Qhs, h, ldV, PV.cells]
theorem Qadf {off d : Nat} {cs : List PV} (h : off + 1 <= cs.length) : Qhs off 1 false (.agg cs) d fr hp K = K (upd fr d ((cs.drop off).headD .undef)) hp := by
 simp [Qhs, h, ldV, PV.cells]
def rv (n : Bool) (a d : List Nat) : Rat := mkRat (zv n a) (val d)
abbrev PV.rr (n : Bool) (a d : List Nat) : PV := .agg [.bool n, PV.nat a, PV.nat d]
abbrev PV.rat (q : Rat) : PV := .agg [.bool (decide (q.num < 0)), PV.num q.num.natAbs, PV.num q.den]
theorem Qds (q : Rat) : rv (decide (q.num < 0)) (dig q.num.natAbs) (dig q.den) = q := by
 unfold rv; rw [Qe4, Qy, Rat.mkRat_self]
theorem Qib {z : Int} {D : Nat} (hD : D ≠ 0) : (mkRat z D).num = z / (Nat.gcd z.natAbs D : Int) /\ (mkRat z D).den = D / Nat.gcd z.natAbs D := by
 rw [Rat.mkRat_def, dif_neg hD, Rat.normalize_eq]; exact ⟨rfl, rfl⟩
theorem Q1q {z : Int} {D : Nat} (hD : D ≠ 0) : PV.agg [.bool (decide (z < 0)), PV.num (z.natAbs / Nat.gcd z.natAbs D), PV.num (D / Nat.gcd z.natAbs D)] = PV.rat (mkRat z D) := by
 obtain ⟨h1, h2⟩ := Qib (z := z) hD
 have hg : 0 < Nat.gcd z.natAbs D := Nat.gcd_pos_of_pos_right _ (Nat.pos_of_ne_zero hD)
 have hdvd : (Nat.gcd z.natAbs D : Int) ∣ z := Int.ofNat_dvd_left.2 (Nat.gcd_dvd_left _ _)
 obtain ⟨k, hk⟩ := hdvd
 rw [PV.rat, h1, h2]
 generalize hgg : Nat.gcd z.natAbs D = g at *
 have e1 : z / (g : Int) = k := by rw [hk, Int.mul_ediv_cancel_left _ (by omega)]
 have e2 : z.natAbs / g = k.natAbs := by rw [hk, Int.natAbs_mul, Int.natAbs_natCast, Nat.mul_div_cancel_left _ hg]
 have e3 : z < 0 ↔ k < 0 := by
  rw [hk]
  constructor
  ·intro h; apply Decidable.byContradiction; intro h'
   have := Int.mul_nonneg (show (0 : Int) <= g by omega) (show 0 <= k by omega); omega
  ·intro h; exact Int.mul_neg_of_pos_of_neg (by omega) h
 rw [e1, e2, decide_eq_decide.2 e3]
theorem Qafx (z : Int) : PV.agg [.bool (decide (z < 0)), PV.num z.natAbs, PV.nat [1]] = PV.rat (mkRat z 1) := by
 rw [<- Q1q (by omega), Nat.gcd_one_right, Nat.div_one, Nat.div_one, PV.num, PV.num, Qf2]
theorem Qxj : PV.le (.agg [.bool false, .nilS, PV.nat [1]]) (PV.rat 0) := by
 show PV.leL _ _
 refine ⟨rfl, ?_, ?_, trivial⟩
 ·show PV.le1 .nilS (PV.nat (dig 0)); rw [Qa1]; trivial
 ·show PV.le1 (PV.nat [1]) (PV.nat (dig 1)); rw [Qf2]; exact Qpd _
theorem Qov {z : Int} {D : Nat} (h : D = 0 ∨ z = 0) : mkRat z D = 0 := by
 rcases h with h | h
 ·rw [h, Rat.mkRat_zero]
 ·rw [h, Rat.zero_mkRat]
def rs (q : Rat) : Nat := max (nl q.num.natAbs) (nl q.den)
theorem Q1r (x y : Nat) : nl (x / y) <= nl x := Qbx (Nat.div_le_self _ _)
theorem Qlg : nl 1 = 1 := by unfold nl; rw [Qf2]; rfl
theorem Qmb (z : Int) (D : Nat) : rs (mkRat z D) <= max (nl z.natAbs) (max (nl D) 1) := by
 by_cases hD : D = 0
 ·rw [hD, Rat.mkRat_zero]
  show max (nl 0) (nl 1) <= _
  rw [Qrj, Qlg]; omega
 ·obtain ⟨h1, h2⟩ := Qib (z := z) hD
  unfold rs
  rw [h1, h2]
  have e : (z / (Nat.gcd z.natAbs D : Int)).natAbs <= z.natAbs := by
   have hdvd : (Nat.gcd z.natAbs D : Int) ∣ z := Int.ofNat_dvd_left.2 (Nat.gcd_dvd_left _ _)
   rw [Int.natAbs_ediv_of_dvd hdvd]
   exact Nat.div_le_self _ _
  have := Qbx e
  have := Q1r D (Nat.gcd z.natAbs D)
  omega
theorem Qfd (x y : Int) : nl (x + y).natAbs <= max (nl x.natAbs) (nl y.natAbs) + 1 :=
 Nat.le_trans (Qbx (Int.natAbs_add_le x y)) (Q0z _ _)
theorem Qay (x y : Int) : nl (x * y).natAbs <= nl x.natAbs + nl y.natAbs := by rw [Int.natAbs_mul]; exact Qfr _ _
theorem Quv (q : Rat) : 1 <= rs q := by
 have : nl q.den ≠ 0 := fun h => q.den_nz (Qiq.1 h)
 unfold rs; omega
theorem Quw (a b : Rat) : rs (a + b) <= rs a + rs b + 1 := by
 have e : a + b = mkRat (a.num * b.den + b.num * a.den) (a.den * b.den) := by
  conv => lhs; rw [<- Rat.mkRat_self a, <- Rat.mkRat_self b]
  exact Rat.mkRat_add_mkRat _ _ a.den_nz b.den_nz
 rw [e]
 have h1 := Qmb (a.num * b.den + b.num * a.den) (a.den * b.den)
 have h2 := Qfd (a.num * b.den) (b.num * a.den)
 have h3 := Qay a.num b.den
 have h4 := Qay b.num a.den
 have h5 := Qfr a.den b.den
 rw [Int.natAbs_natCast] at h3 h4
 unfold rs at *
 omega
theorem Qec (a b : Rat) : rs (a * b) <= rs a + rs b := by
 have e : a * b = mkRat (a.num * b.num) (a.den * b.den) := by
  conv => lhs; rw [<- Rat.mkRat_self a, <- Rat.mkRat_self b]
  exact Rat.mkRat_mul_mkRat _ _ _ _
 rw [e]
 have h1 := Qmb (a.num * b.num) (a.den * b.den)
 have h3 := Qay a.num b.num
 have h5 := Qfr a.den b.den
 have := Quv a
 unfold rs at *
 omega
theorem Qqn (a : Rat) : rs (-a) = rs a := by unfold rs; rw [Rat.neg_num, Rat.neg_den, Int.natAbs_neg]
theorem Q1s {n k : Nat} {a d : List Nat} {b : Bool} (ha : Qg a) (hd : Qg d) (h1 : a.length <= k) (h2 : d.length <= k) (hk : 1 <= k) : rs (rv b a d) <= k := by
 unfold rv
 have h := Qmb (zv b a) (val d)
 rw [Qbb] at h
 have := Qal ha
 have := Qal hd
 omega
end Go.FW
namespace Go.FW
open Go
def Qd4 (q : Rat) : Int := sgn q.num
def Qkp (p q : Rat) : Int := if p < q then -1 else if q < p then 1 else 0
theorem Qih {z : Int} {D : Nat} (hD : D ≠ 0) : ∃ g : Nat, 0 < g /\ z = (mkRat z D).num * g /\ D = (mkRat z D).den * g := by
 obtain ⟨h1, h2⟩ := Qib (z := z) hD
 have hg : 0 < Nat.gcd z.natAbs D := Nat.gcd_pos_of_pos_right _ (Nat.pos_of_ne_zero hD)
 refine ⟨_, hg, ?_, ?_⟩
 ·rw [h1, Int.ediv_mul_cancel (Int.ofNat_dvd_left.2 (Nat.gcd_dvd_left _ _))]
 ·rw [h2, Nat.div_mul_cancel (Nat.gcd_dvd_right _ _)]
theorem Qyx {a : Int} {g : Nat} (hg : 0 < g) : a * g < 0 ↔ a < 0 := by
 constructor
 ·intro h; apply Decidable.byContradiction; intro h'
  have := Int.mul_nonneg (show 0 <= a by omega) (show (0 : Int) <= g by omega); omega
 ·intro h; exact Int.mul_neg_of_neg_of_pos h (by omega)
theorem Qyy {a : Int} {g : Nat} (hg : 0 < g) : 0 < a * g ↔ 0 < a := by
 constructor
 ·intro h; apply Decidable.byContradiction; intro h'
  have := Int.mul_nonneg (show 0 <= -a by omega) (show (0 : Int) <= g by omega)
  rw [Int.neg_mul] at this; omega
 ·intro h; exact Int.mul_pos h (by omega)
theorem Q1t {z : Int} {D : Nat} (hD : D ≠ 0) : Qd4 (mkRat z D) = sgn z := by
 obtain ⟨g, hg, h1, _⟩ := Qih (z := z) hD
 unfold Qd4
 generalize (mkRat z D).num = x at *
 subst h1
 unfold sgn
 have := Qyx (a := x) hg
 have := Qyy (a := x) hg
 repeat' split
 all_goals omega
theorem Qux {x y : Int} {d c : Nat} (hd : d ≠ 0) (hc : c ≠ 0) : mkRat x d < mkRat y c ↔ x * c < y * d := by
 obtain ⟨g, hg, h1, h2⟩ := Qih (z := x) hd
 obtain ⟨k, hk, h3, h4⟩ := Qih (z := y) hc
 rw [Rat.lt_iff]
 generalize (mkRat x d).num = p at *
 generalize (mkRat x d).den = p' at *
 generalize (mkRat y c).num = q at *
 generalize (mkRat y c).den = q' at *
 subst h1 h2 h3 h4
 have e1 : p * (g : Int) * ((q' * k : Nat) : Int) = (p * q') * ((g * k : Nat) : Int) := by push_cast; grind
 have e2 : q * (k : Int) * ((p' * g : Nat) : Int) = (q * p') * ((g * k : Nat) : Int) := by push_cast; grind
 rw [e1, e2]
 have hgk : (0 : Int) < ((g * k : Nat) : Int) := by exact_mod_cast Nat.mul_pos hg hk
 exact ⟨fun h => Int.mul_lt_mul_of_pos_right h hgk, fun h => Int.lt_of_mul_lt_mul_right h (Int.le_of_lt hgk)⟩
theorem Qxk {x y : Int} {d c : Nat} (hd : d ≠ 0) (hc : c ≠ 0) : Qkp (mkRat x d) (mkRat y c) = Qe5 (x * c) (y * d) := by
 unfold Qkp Qe5
 simp only [Qux hd hc, Qux hc hd]
theorem      Qpm {x : Int} : sgn x = 0 ↔ x = 0 := by unfold sgn; repeat' split
                                                     all_goals omega
theorem Qc6 {q : Rat} : Qd4 q = 0 ↔ q = 0 := by unfold Qd4; rw [Qpm, Rat.num_eq_zero]
theorem Quy {q : Rat} : Qd4 q < 0 ↔ q < 0 := by
 unfold Qd4; rw [Qlf, Rat.lt_iff]; simp
theorem Quz {q : Rat} : 0 < Qd4 q ↔ 0 < q := by
 unfold Qd4; rw [Rat.lt_iff]; unfold sgn; simp; repeat' split
 all_goals omega
theorem       Qsl (q : Rat) :  Qd4 q = -1 ∨  Qd4 q = 0 ∨  Qd4 q = 1 := by unfold  Qd4 sgn; repeat' split
                                                                          all_goals omega
theorem Qu0 {p q : Rat} (h : Qd4 p < Qd4 q) : Qkp p q = -1 := by
 unfold Qkp; rw [if_pos]
 rcases Qsl p with h1 | h1 | h1 <;> rcases Qsl q with h2 | h2 | h2 <;> first | omega | skip
 ·have a := Quy.1 (show Qd4 p < 0 by omega); have b := Qc6.1 h2; grind
 ·have a := Quy.1 (show Qd4 p < 0 by omega); have b := Quz.1 (show 0 < Qd4 q by omega); grind
 ·have a := Qc6.1 h1; have b := Quz.1 (show 0 < Qd4 q by omega); grind
theorem Q4z {p q : Rat} (h : Qd4 q < Qd4 p) : Qkp p q = 1 := by
 have := Qu0 h
 unfold Qkp at *
 have hlt : q < p := by
  apply Decidable.byContradiction; intro hn
  rw [if_neg hn] at this; split at this <;> omega
 rw [if_neg (by grind), if_pos hlt]
theorem Qsm {p q : Rat} : Qkp p q = 0 ↔ p = q := by
 unfold Qkp
 constructor
 ·intro h
  split at h
  ·omega
  ·split at h
   ·omega
   ·grind
 ·rintro rfl; rw [if_neg (by grind), if_neg (by grind)]
def Qf4 (n : Bool) (a : List Nat) : Bool := if a = [] then !n else decide (a.getLast? ≠ some 0)
def Qgd (n : Bool) (a d : List Nat) : Bool := Qf4 n a && (decide (d ≠ [] /\ d.getLast? ≠ some 0) && decide (Nat.gcd (val a) (val d) = 1))
theorem Q40 {n : Bool} {a d : List Nat} (ha : Qg a) (hd : Qg d) (h : Qgd n a d = true) : n = decide ((rv n a d).num < 0) /\ a = dig (rv n a d).num.natAbs /\ d = dig (rv n a d).den := by
 simp only [Qgd, Qf4, Bool.and_eq_true, decide_eq_true_eq] at h
 obtain ⟨h1, ⟨h2, h3⟩, h4⟩ := h
 have ea : a = dig (val a) := by
  refine (Qk9 ha ?_).symm
  split at h1
  ·rename_i h; subst h; simp
  ·simpa using h1
 have ed : d = dig (val d) := (Qk9 hd h3).symm
 have hD : val d ≠ 0 := fun h => h2 (by rw [ed, h, Qa1])
 obtain ⟨g1, g2⟩ := Qib (z := zv n a) hD
 rw [Qbb, h4] at g1 g2
 have g1' : (rv n a d).num = zv n a := by unfold rv; rw [g1]; simp
 have g2' : (rv n a d).den = val d := by unfold rv; rw [g2]; simp
 rw [g1', g2', Qbb]
 refine ⟨?_, ea, ed⟩
 unfold zv
 split at h1
 ·rename_i h; subst h; simp at h1; subst h1; simp [val]
 ·rename_i h
  have h0 : val a ≠ 0 := fun h' => h (by rw [ea, h', Qa1])
  cases n <;> simp; omega
theorem Qafy {n : Bool} {a d : List Nat} (ha : Qg a) (hd : Qg d) (h : Qgd n a d = true) : PV.rr n a d = PV.rat (rv n a d) := by
 obtain ⟨h1, h2, h3⟩ := Q40 ha hd h
 rw [PV.rr, PV.rat, <- h1, PV.num, PV.num, <- h2, <- h3]
theorem Qow {a : List Nat} {k : Nat} (h : a.length = k + 1) : a.getLast? = some (a[k]'(by omega)) := by
 rw [List.getLast?_eq_getElem?, show a.length - 1 = k by omega]; exact List.getElem?_eq_getElem _
end Go.FW
namespace Go.FW
open Go
def eN (a : List Int) (i : Nat) : Int := a.getD i 0
def cutI (l : List Int) : Nat -> List Int
 | 0 => []
 | n + 1 => if l[n]? = some 0 then cutI l n else l.take (n + 1)
def Q8d (l : List Int) : List Int := cutI l l.length
def cmpN (a b : List Int) : Nat -> Int
 | 0 => 0
 | n + 1 => if eN a n = eN b n then cmpN a b n else Qe5 (eN a n) (eN b n)
def cmpM (a b : List Int) : Int := cmpN a b (max a.length b.length)
def zipI (g : Int -> Int -> Int) (a b : List Int) : List Int := (List.range (max a.length b.length)).map fun i => g (eN a i) (eN b i)
def mulM (a b : List Int) : List Int := Q8d (zipI (· + ·) a b)
end Go.FW
namespace Go.FW
open Go
variable {C : Ctx} {fr : Fr} {hp : HP} {w : World} {K R : Qf}
theorem Qafz {α : Type} {f : α -> PV} {e d : Nat} {xs : List α} {k k' : IntKind} {n : Nat} (h5 : n <= xs.length) :
  slK e (.sl e (xs.map f)) none (some (.int k (n : Int))) (some (.int k' (n : Int))) d fr hp K = K (upd fr d (.sl e ((xs.take n).map f))) hp := by
 simp [slK, Qbw, h5]
theorem Q41 {α : Type} {a : List α} {k : Nat} (h : a.length = k + 1) : a.getLast? = some (a[k]'(by omega)) := by
 rw [List.getLast?_eq_getElem?, show a.length - 1 = k by omega]; exact List.getElem?_eq_getElem _
theorem Qwh {α : Type} {f : α -> PV} {e by_ ty d : Nat} {xs : List α} (h0 : 0 < e) (h1 : xs.length * by_ <= 140737488355328) (h2 : xs.length <= 9223372036854775807) :
  Qek e by_ ty .nilS (.sl e (xs.map f)) d fr hp K = K (upd (Qaq d fr) d (.ms d xs.length)) (Qj hp d ⟨e, ty, xs.map f, false⟩) := by
 have := Qp9 (fr := fr) (hp := hp) (K := K) (e := e) (by_ := by_) (ty := ty) (d := d) (x := .sl e (xs.map f)) (ys := xs.map f) rfl h0 (by simpa using h1) (by simpa using h2)
 simpa using this
theorem Qoe {α : Type} {f : α -> PV} {e by_ ty d β n : Nat} {xs ys : List α} (hb : hp β = some ⟨e, ty, xs.map f, false⟩) (hn : n = xs.length) (h0 : 0 < e) (h1 : (n + ys.length) * by_ <= 140737488355328) (h2 : n + ys.length <= 9223372036854775807) (hB : isB β = false := by decide) :
  Qek e by_ ty (.ms β n) (.sl e (ys.map f)) d fr hp K = K (upd (Qaq β fr) d (.ms β (n + ys.length))) (Qj hp β ⟨e, ty, (xs ++ ys).map f, false⟩) := by
 rw [Ql2 (ys := ys.map f) (xs := xs.map f) rfl hb h0 (by simp [hn]) (by simpa using h1) (by simpa using h2) hB]
 rw [List.take_of_length_le (by simp [hn]), List.map_append, List.length_map]
theorem Qc1 {α : Type} {f : α -> PV} {y : α} {e by_ ty ty' d β γ n : Nat} {xs : List α} {fz : Bool} (hb : hp β = some ⟨e, ty, xs.map f, false⟩) (hy : hp γ = some ⟨e, ty', [f y], fz⟩) (h0 : 0 < e) (hn : n = xs.length) (h1 : (n + 1) * by_ <= 140737488355328) (h2 : n + 1 <= 9223372036854775807) (hB : isB β = false := by decide) :
  Qek e by_ ty (.ms β n) (.ms γ 1) d fr hp K = K (upd (Qaq β fr) d (.ms β (n + 1))) (Qj hp β ⟨e, ty, (xs ++ [y]).map f, false⟩) := by
 rw [Qpf hb hy h0 (by simp [hn]) h1 h2 hB]; simp
theorem Qadj {by_ ty d : Nat} {k k' : IntKind} {n c : Nat} (h2 : n <= c) (h3 : by_ * c <= 281474976710656) (h4 : c <= 9223372036854775807) :
  mkK 1 by_ ty (.int .i64 0) (.int k (n : Int)) (.int k' (c : Int)) d fr hp K = K (upd (Qaq d fr) d (.ms d n)) (Qj hp d ⟨1, ty, Qpg (List.replicate n 0), false⟩) := by
 rw [Q0u (by omega) (by omega) (by omega) (by omega)]
 simp [Qpg]
theorem Qrr (a b : Nat) : max (a : Int) (b : Int) = ((max a b : Nat) : Int) := by omega
end Go.FW
namespace Go.FW
open Go
variable {C : Ctx} {fr : Fr} {hp : HP} {w : World} {K R : Qf}
end Go.FW
namespace Go.FW
open Go
abbrev Tm := Rat × List Int
def Qrs : List Tm -> List Tm -> List Tm
 | [], q => q
 | p, [] => p
 | (c, m) :: p, (d, l) :: q =>
  if 0 < cmpM m l then (c, m) :: Qrs p ((d, l) :: q)
  else if cmpM m l < 0 then (d, l) :: Qrs ((c, m) :: p) q
  else if c + d = 0 then Qrs p q else (c + d, m) :: Qrs p q
termination_by p q => p.length + q.length
def Q42 (l : List (List Tm)) : List Tm :=
 match l with
 | [] => []
 | [p] => p
 | p :: q :: r => Qrs (Q42 ((p :: q :: r).take ((p :: q :: r).length / 2))) (Q42 ((p :: q :: r).drop ((p :: q :: r).length / 2)))
termination_by l.length
decreasing_by
 all_goals simp [List.length_take, List.length_drop]; omega
def Qadk (p : List Tm) (t : Tm) : List Tm := p.filterMap fun x => if x.1 * t.1 = 0 then none else some (x.1 * t.1, mulM x.2 t.2)
def Q8e (p q : List Tm) : List Tm := Q42 (p.map (Qadk q))
def pmul (p q : List Tm) : List Tm := if q.length < p.length then Q8e q p else Q8e p q
end Go.FW
namespace Go.FW
open Go
section
variable {C : Ctx} {fr : Fr} {hp : HP} {w : World} {K R : Qf}
theorem Q43 {e by_ ty d : Nat} {z : PV} {k k' : IntKind} {Cc : Int} (h0 : 0 < e) (hz : z.cells.length = e) (h2 : 0 <= Cc) (h3 : by_ * Cc <= 281474976710656) (h4 : Cc <= 9223372036854775807) :
  mkK e by_ ty z (.int k 0) (.int k' Cc) d fr hp K = K (upd (Qaq d fr) d (.ms d 0)) (Qj hp d ⟨e, ty, [], false⟩) := Qtk h0 hz (by omega) h2 h3 h4
end
end Go.FW
namespace Go.FW
open Go
theorem rs_m1 : rs (-1) <= 1 := by
 have : rs (-1) = max (nl 1) (nl 1) := rfl
 rw [this, Qlg]; omega
theorem Qu1 : rs 1 <= 1 := by
 have : rs 1 = max (nl 1) (nl 1) := rfl
 rw [this, Qlg]; omega
theorem Qyz : rs 0 <= 1 := by
 have : rs 0 = max (nl 0) (nl 1) := rfl
 rw [this, Qlg, Qrj]; omega
end Go.FW
namespace Go.FW
open Go
structure RTm where
 n : Bool
 a : List Nat
 d : List Nat
 m : List Int
end Go.FW
namespace Go.FW
open Go
variable {C : Ctx} {ρ : Nat -> Option Nat} {fr : Fr} {hp : HP} {w : World} {K R : Qf}
theorem Q9a (s : Nat) (hd : (Q9 hp (fr s)).isData = true) : Wk fr hp (upd fr s (Q9 hp (fr s))) (FW.Q8 hp (fr s).refs) := by
 rintro C tmps w ⟨ρ, hs⟩
 have hf := hs.freeze (fr s).refs
 refine ⟨ρ, hf.sz, hf.ext, hf.keep, hf.own, hf.inj, fun i => ?_⟩
 unfold upd
 split
 ·rename_i hi; subst hi
  exact Qk.ofData (Qel hs (hs.slots i) (fun β h => h) hd)
 ·exact hf.slots i
def Qmc (W : List (Nat × Nat)) (F : Fr) (I : Nat -> Fr -> HP -> Prop) (n : Nat) : Qf := fun fr' hp' => ∃ J hp2 m, Wk fr' hp' (ovr W J F) hp2 /\ m < n /\ I m J hp2
theorem Q44 {W : List (Nat × Nat)} {F : Fr} {I : Nat -> Fr -> HP -> Prop} {n : Nat} : KM (Qmc W F I n) (Qmc W F I n) := by
 rintro f f' hp hf ⟨J, hp2, m, h1, h2, h3⟩
 exact ⟨J, hp2, m, hf.wk.trans h1, h2, h3⟩
theorem Q4 {sk : List It} {W : List (Nat × Nat)} {F : Fr} {I : Nat -> Fr -> HP -> Prop} {n : Nat} (h : Qda R sk) : Qda R (.el (Qmc W F I n) :: sk) := ⟨h.1, .el Q44 h.2⟩
theorem Qa5 {W : List (Nat × Nat)} {F J : Fr} {I : Nat -> Fr -> HP -> Prop} {n : Nat} (m : Nat) (hl : m < n) (h : I m J hp) : Qmc W F I n (ovr W J F) hp := ⟨J, hp, m, Wk.refl _ _, hl, h⟩
theorem Qqo {W : List (Nat × Nat)} {F J : Fr} {I : Nat -> Fr -> HP -> Prop} {n : Nat} (s m : Nat) (hs : inW W s = true) (hd : (Q9 hp (J s)).isData = true) (hl : m < n) (h : I m (upd J s (Q9 hp (J s))) (FW.Q8 hp (J s).refs)) : Qmc W F I n (ovr W J F) hp := by
 have e : ovr W J F s = J s := by rw [Q1i, if_pos hs]
 have hw := Q9a (fr := ovr W J F) (hp := hp) s (by rw [e]; exact hd)
 rw [e, Qxg hs] at hw
 exact ⟨_, _, m, hw, hl, h⟩
theorem Qu2 {sk : List It} {x : SC} (hok : Qda R sk) (W : List (Nat × Nat)) (B : List Nat) (I : Nat -> Fr -> HP -> Prop) (m0 : Nat) (h0 : I m0 fr hp)
  (h : ∀ m J hp, I m J hp -> vc C R (.c x :: .el (Qmc W (Qaa B fr) I m) :: sk) (ovr W J (Qaa B fr)) hp) : vc C R (.c (.loop x) :: sk) fr hp := by
 refine Qh9 (fun m fr' hp' => ∃ J, fr' = ovr W J (Qaa B fr) /\ I m J hp') m0 (Qpk W B).wk ⟨fr, rfl, h0⟩ ?_
 rintro m _ hp' ⟨J, rfl, hI⟩
 refine Qfc hok.1 _ _ _ _ _ _ (Nat.le_refl _) (.c x (.el ?_ hok.2)) (Fle.refl _) (h m J hp' hI)
 rintro f f' hp2 hf ⟨J2, hp3, m2, e2, hl, h2⟩
 exact Qpe hl (hf.wk.trans e2) ⟨J2, rfl, h2⟩
abbrev dg (a : List Nat) (i : Nat) : Nat := a.getD i 0
theorem Qmd {a : List Nat} (h : Qg a) (i : Nat) : dg a i < 65536 := by
 by_cases hi : i < a.length
 ·rw [dg, Qbf hi]; exact Qaj h hi
 ·rw [dg, Qbg hi]; omega
theorem Qgp (a : List Nat) (i : Nat) : val (a.drop i) = dg a i + 65536 * val (a.drop (i + 1)) := by
 by_cases hi : i < a.length
 ·rw [Qcl hi, dg, Qbf hi]
 ·rw [dg, Qbg hi, List.drop_of_length_le (by omega), List.drop_of_length_le (by omega)]; rfl
theorem Qme (a : List Nat) (i : Nat) : val a = val (a.take i) + 65536 ^ i * val (a.drop i) := by
 by_cases hi : i <= a.length
 ·exact Qdi a i hi
 ·rw [List.take_of_length_le (by omega), List.drop_of_length_le (by omega)]; simp [val]
theorem Qu3 {a : List Nat} (h : Qg a) (i : Nat) : val (a.take i) < 65536 ^ i := by
 by_cases hi : i <= a.length
 ·exact Qdv h i hi
 ·rw [List.take_of_length_le (by omega)]
  exact Nat.lt_of_lt_of_le (Qfa h) (Nat.pow_le_pow_right (by omega) (by omega))
theorem Qlh (a : List Nat) (i : Nat) : val (a.take (i + 1)) = val (a.take i) + 65536 ^ i * dg a i := by
 by_cases hi : i < a.length
 ·rw [Qfb hi, dg, Qbf hi]
 ·rw [dg, Qbg hi, List.take_of_length_le (by omega), List.take_of_length_le (by omega)]; simp
theorem Qox {a b : List Nat} (ha : Qg a) {i : Nat} (h : val (a.drop i) < val (b.drop i)) : val a < val b := by
 rw [Qme a i, Qme b i]
 have h1 := Qu3 ha i
 have : 65536 ^ i * (val (a.drop i) + 1) <= 65536 ^ i * val (b.drop i) := Nat.mul_le_mul_left _ h
 rw [Nat.mul_add] at this
 omega
theorem Qxl {l : List Nat} {j v : Nat} (h : j < l.length) : val (l.set j v) + 65536 ^ j * l[j] = val l + 65536 ^ j * v := by
 have e : l.set j v = l.take j ++ v :: l.drop (j + 1) := List.set_eq_take_append_cons_drop.trans (by rw [if_pos h])
 have e2 := Qdi l j (by omega)
 rw [Qcl h] at e2
 rw [e, Qb7, List.length_take, Nat.min_eq_left (by omega), val, e2, Nat.mul_add, Nat.mul_add]
 omega
theorem Qmf (l : List Nat) (x : Nat) : val (l ++ [x]) = val l + 65536 ^ l.length * x := by rw [Qb7]; simp [val]
theorem Qy0 {l : List Nat} {j : Nat} (h : val (l.drop j) = 0) : dg l j = 0 := by
 have := Qgp l j; omega
theorem Qadl {bt : Bool} {n d : Nat} : Qa2 .rem bt (.int .u64 (n : Int)) (.int .u64 65536) d fr hp K = K (upd fr d (.int .u64 ((n % 65536 : Nat) : Int))) hp := by
 rw [show (65536 : Int) = ((65536 : Nat) : Int) from rfl, Qd0 (by omega)]
theorem Qadm {bt : Bool} {n d : Nat} (h : n < 18446744073709551616) : Qa2 .quo bt (.int .u64 (n : Int)) (.int .u64 65536) d fr hp K = K (upd fr d (.int .u64 ((n / 65536 : Nat) : Int))) hp := by
 rw [show (65536 : Int) = ((65536 : Nat) : Int) from rfl, Qiz (by omega) h]
theorem Q9b {bt : Bool} {n d : Nat} : Qa2 .rem bt (.int .i64 (n : Int)) (.int .i64 65536) d fr hp K = K (upd fr d (.int .i64 ((n % 65536 : Nat) : Int))) hp := by
 rw [show (65536 : Int) = ((65536 : Nat) : Int) from rfl, Qd0 (by omega)]
theorem Q9c {bt : Bool} {n d : Nat} (h : n < 9223372036854775808) : Qa2 .quo bt (.int .i64 (n : Int)) (.int .i64 65536) d fr hp K = K (upd fr d (.int .i64 ((n / 65536 : Nat) : Int))) hp := by
 rw [show (65536 : Int) = ((65536 : Nat) : Int) from rfl, Qxf (by omega) h]
theorem Qadn (n : Nat) : (n : Int) * 65536 = ((n * 65536 : Nat) : Int) := by omega
end Go.FW
namespace Go.FW
theorem Qsn {P x y V ai c q r M S T : Nat} (h1 : S + P * x = M + P * r) (h2 : M + P * (c + ai * (y + 65536 * V)) = T) (h3 : 65536 * q + r = x + ai * y + c) : S + P * 65536 * (q + ai * V) = T := by
 have e : P * (65536 * q + r) = P * (x + ai * y + c) := by rw [h3]
 have a1 : P * (c + ai * (y + 65536 * V)) = P * c + P * (ai * y) + 65536 * (P * (ai * V)) := by
  rw [Nat.mul_add ai, Nat.mul_add, Nat.mul_add, Nat.mul_left_comm ai 65536, Nat.mul_left_comm P 65536]; omega
 have a2 : P * 65536 * (q + ai * V) = 65536 * (P * q) + 65536 * (P * (ai * V)) := by
  rw [Nat.mul_comm P, Nat.mul_assoc, Nat.mul_add, Nat.mul_add]
 have a3 : P * (65536 * q + r) = 65536 * (P * q) + P * r := by rw [Nat.mul_add, Nat.mul_left_comm]
 have a4 : P * (x + ai * y + c) = P * x + P * (ai * y) + P * c := by rw [Nat.mul_add, Nat.mul_add]
 omega
theorem Qso {l : List Nat} {i j v : Nat} (h : i ≠ j) : dg (l.set i v) j = dg l j := by
 simp [dg, List.getD_eq_getElem?_getD, List.getElem?_set_ne h]
end Go.FW
namespace Go.FW
open Go
variable {C : Ctx} {ρ : Nat -> Option Nat} {fr : Fr} {hp : HP} {w : World} {K R : Qf}
theorem Qqp {x V d q : Nat} (hd : 0 < d) (h : q = V / d) : (V % d * 65536 + x) / d + 65536 * q = (x + 65536 * V) / d /\ (V % d * 65536 + x) % d = (x + 65536 * V) % d := by
 subst h
 have e : x + 65536 * V = (V % d * 65536 + x) + d * (65536 * (V / d)) := by
  have := Nat.div_add_mod V d
  calc x + 65536 * V = x + 65536 * (d * (V / d) + V % d) := by rw [this]
   _ = _ := by rw [Nat.mul_add, Nat.mul_left_comm]; omega
 rw [e, Nat.add_mul_div_left _ _ hd, Nat.add_mul_mod_self_left]
 exact ⟨rfl, rfl⟩
theorem Q9d (i e : Nat) (hi : fr i = .nilS) : Wk fr hp (upd fr i (.sl e [])) hp := by
 rintro C tmps w ⟨ρ, hs⟩
 refine ⟨ρ, hs.sz, hs.ext, hs.keep, hs.own, hs.inj, fun j => ?_⟩
 unfold upd
 split
 ·rename_i hj; subst hj
  have := hs.slots j
  rw [hi] at this
  rw [Qk.nil_inv this]
  exact Qu.slE _ _ _ (Nat.zero_le _)
 ·exact hs.slots j
theorem Qof {sk : List It} {x : SC} (i e : Nat) (hi : fr i = .nilS) (h : vc C R (.c (.loop x) :: sk) (upd fr i (.sl e [])) hp) : vc C R (.c (.loop x) :: sk) fr hp := by
 rw [Qfz] at h ⊢
 obtain ⟨I, μ, ⟨fr0, hp0, h1, h1'⟩, h2⟩ := h
 exact ⟨I, μ, ⟨fr0, hp0, (Q9d i e hi).trans h1, h1'⟩, h2⟩
end Go.FW
namespace Go.FW
open Go Go.ChangeShapes Go.WideShapes
section
variable {H : Type} {enc : TypeId × Value -> H} {P : Program} {w : World} {base : Nat} {spare : Nat -> Bool} {held : Bool}
structure Qy1 (Qb0 : DataW H -> Nat) : Prop where
 len : ∀ (elems spare : List (DataW H)), elems.length <= Qb0 (.slice elems spare)
 sl : ∀ (elems spare : List (DataW H)) (d : DataW H), d ∈ elems -> Qb0 d <= Qb0 (.slice elems spare)
 ag : ∀ (parts : List (DataW H)) (d : DataW H), d ∈ parts -> Qb0 d <= Qb0 (.agg parts)
def Qer (enc : TypeId × Value -> H) (P : Program) (Qb0 : DataW H -> Nat) (N : Nat) (t : TypeId) (Q : List PV -> Prop) : Prop :=
 ∀ (w : World) (base : Nat) (spare : Nat -> Bool) (held : Bool) (fuel : Nat) (cs : List Value) (x : DataW H × List MemPlace), DataW.trod enc P w base spare held fuel t cs = some x -> Qb0 x.1 <= N ->
  ∃ ps, Q ps /\ ps.length = cs.length /\ ∀ (i : Nat) (p : PV), ps[i]? = some p -> Qu w Qbh p (cs.getD i undef)
variable {Qb0 : DataW H -> Nat} {N : Nat}
theorem Qmg {w : World} {p : PV} {v : Value} (h : Qu w Qbh p v) : ∀ (i : Nat) (q : PV), [p][i]? = some q -> Qu w Qbh q ([v].getD i undef) := by
 intro i q hq
 match i, hq with
 | 0, hq => simp at hq; subst hq; exact h
 | i + 1, hq => simp at hq
theorem Qer.mono {t : TypeId} {Q Q' : List PV -> Prop} (h : Qer enc P Qb0 N t Q) (hQ : ∀ ps, Q ps -> Q' ps) : Qer enc P Qb0 N t Q' :=
 fun w base spare held fuel cs x hx hn => let ⟨ps, h1, h2, h3⟩ := h w base spare held fuel cs x hx hn; ⟨ps, hQ ps h1, h2, h3⟩
theorem Qsp {t : TypeId} {k : IntKind} (ht : P.underlying t = some (.int k)) : Qer enc P Qb0 N t fun ps => ∃ n, ps = [.int k n] /\ (Lit.int k n).wf = true := by
 intro w base spare held fuel cs x hx _
 obtain ⟨n, rfl, rfl, hw⟩ := DataW.trod_int ht hx
 exact ⟨_, ⟨n, rfl, hw⟩, rfl, Qmg (.int k n)⟩
theorem Qy2 {t : TypeId} (ht : P.underlying t = some .bool) : Qer enc P Qb0 N t fun ps => ∃ b, ps = [.bool b] := by
 intro w base spare held fuel cs x hx _
 obtain ⟨b, rfl, rfl⟩ := DataW.trod_bool ht hx
 exact ⟨_, ⟨b, rfl⟩, rfl, Qmg (.bool b)⟩
theorem Q1u {t : TypeId} (ht : P.underlying t = some (.int .u16)) : Qer enc P Qb0 N t fun ps => ∃ n : Nat, ps = [.int .u16 n] /\ n < 65536 := by
 refine (Qsp ht).mono ?_
 rintro ps ⟨n, rfl, hw⟩
 simp [Lit.wf, IntKind.min, IntKind.max, IntKind.signed, IntKind.bits] at hw
 obtain ⟨m, rfl⟩ := Int.eq_ofNat_of_zero_le hw.1
 exact ⟨m, rfl, by omega⟩
theorem Qsq {t : TypeId} (ht : P.underlying t = some (.int .i64)) : Qer enc P Qb0 N t fun ps => ∃ n : Int, ps = [.int .i64 n] /\ -9223372036854775808 <= n /\ n <= 9223372036854775807 := by
 refine (Qsp ht).mono ?_
 rintro ps ⟨n, rfl, hw⟩
 simp [Lit.wf, IntKind.min, IntKind.max, IntKind.signed, IntKind.bits] at hw
 exact ⟨n, rfl, by omega⟩
theorem Qoy {α : Type} [Inhabited α] {f : α -> PV} {G : α -> Prop} {t e : TypeId} (hB : Qy1 Qb0) (ht : P.underlying t = some (.slice e)) (hpos : 0 < P.cellsOf e)
  (he : Qer enc P Qb0 N e fun ps => ∃ a : α, ps = (f a).cells /\ G a) : Qer enc P Qb0 N t fun ps => ∃ l : List α, ps = [.sl (P.cellsOf e) (l.map f)] /\ l.length <= N /\ ∀ a ∈ l, G a := by
 intro w base spare held fuel cs x hx hn
 rcases Deep.open_slice ht hx with ⟨rfl, rfl⟩ | ⟨a, len, cap, m, n, D, Pl, rfl, _, hl, hm, hmm, rfl, hall⟩
 ·exact ⟨_, ⟨[], rfl, Nat.zero_le _, fun _ h => by cases h⟩, rfl, Qmg (.slE _ none 0 (Nat.zero_le _))⟩
 have hlm : len <= m := by rw [hmm]; split <;> omega
 obtain ⟨A, hA⟩ := Deep.choose_lt (α := α × List Value) (n := len) (p := fun i y => w.cells? base (a.add (i * P.cellsOf e)) (P.cellsOf e) = some y.2 /\ G y.1 /\ (f y.1).cells.length = y.2.length /\ ∀ (j : Nat) (p : PV), (f y.1).cells[j]? = some p -> Qu w Qbh p (y.2.getD j undef)) (fun i hi => by
  obtain ⟨cs', h1, h2⟩ := hall i (by omega)
  have hd : D i ∈ (List.range len).map D := List.mem_map_of_mem (List.mem_range.2 hi)
  obtain ⟨_, ⟨b, rfl, hG⟩, h3, h4⟩ := he w base spare held n cs' _ h2 (Nat.le_trans (hB.sl _ _ _ hd) hn)
  exact ⟨(b, cs'), h1, hG, h3, h4⟩)
 have hlen := hB.len ((List.range len).map D) ((List.range (m - len)).map fun j => D (len + j))
 simp only [List.length_map, List.length_range] at hlen hn
 refine ⟨_, ⟨(List.range len).map fun i => (A i).1, rfl, by simp; omega, fun b hb => ?_⟩, rfl, Qmg ?_⟩
 ·obtain ⟨i, hi, rfl⟩ := List.mem_map.1 hb
  exact (hA i (List.mem_range.1 hi)).2.1
 ·rcases Nat.eq_zero_or_pos len with rfl | hp
  ·exact .slE _ _ _ hm
  have sp : a.spot = none := by
   obtain ⟨_, h2, h3⟩ := World.cells?_some (hA 0 hp).1
   have h4 := h3 0 hpos
   rw [List.getElem?_eq_getElem (by omega)] at h4
   simpa [Addr.add] using World.cell?_spot h4
  obtain ⟨b, off, spot⟩ := a
  have sp' : spot = none := sp
  subst sp'
  have hcell : ∀ i, i < len -> ∀ j, j < P.cellsOf e -> w.cell? ⟨b, off + i * P.cellsOf e + j, none⟩ = some ((A i).2.getD j undef) := fun i hi j hj => by
   obtain ⟨_, h2, h3⟩ := World.cells?_some (hA i hi).1
   have h4 := h3 j hj
   rw [List.getElem?_eq_getElem (by omega), add_plain, add_plain] at h4
   rw [h4]; simp [List.getD_eq_getElem?_getD, List.getElem?_eq_getElem (show j < (A i).2.length by omega)]
  have e1 : ((List.range len).map fun i => (A i).1).map f = (List.range len).map fun i => f (A i).1 := by simp
  have e2 : ((List.range len).map fun i => f (A i).1).length = len := by simp
  have get : ∀ (i : Nat) (x : PV), ((List.range len).map fun i => f (A i).1)[i]? = some x -> i < len /\ x = f (A i).1 := fun i x hx => by
   obtain ⟨hi, h⟩ := List.getElem?_eq_some_iff.1 hx
   rw [e2] at hi
   exact ⟨hi, by simpa using h.symm⟩
  rw [e1]
  have := Qu.sl (w := w) (X := Qbh) (P.cellsOf e) ((List.range len).map fun i => f (A i).1) b off cap (fun i j => (A i).2.getD j undef) (fun h => h) (Qx7 (hcell 0 hp 0 hpos)) (by rw [e2]; exact hl) hm
   (fun i x hx => by
    obtain ⟨hi, rfl⟩ := get i x hx
    rw [(hA i hi).2.2.1]; exact (World.cells?_some (hA i hi).1).2.1)
   (fun i hi j hj => hcell i (by rwa [e2] at hi) j hj)
   (fun i x hx j y hy => by
    obtain ⟨hi, rfl⟩ := get i x hx
    exact (hA i hi).2.2.2 j y hy)
  rwa [e2] at this
theorem Qm0 {t : TypeId} {f0 f1 : Field} {Q0 Q1 : List PV -> Prop} (hB : Qy1 Qb0) (ht : P.underlying t = some (.struct #[f0, f1])) (h0 : f0.offset = 0) (h1 : f1.offset = P.cellsOf f0.type) (hc : P.cellsOf t = P.cellsOf f0.type + P.cellsOf f1.type)
  (r0 : Qer enc P Qb0 N f0.type Q0) (r1 : Qer enc P Qb0 N f1.type Q1) : Qer enc P Qb0 N t fun ps => ∃ p q, ps = p ++ q /\ Q0 p /\ Q1 q := by
 intro w base spare held fuel cs x hx hn
 obtain ⟨y0, y1, n, rfl, hl, g0, g1⟩ := trod_struct2 ht hx
 obtain ⟨p, hp, hp2, hp3⟩ := r0 _ _ _ _ _ _ _ g0 (Nat.le_trans (hB.ag _ _ (by simp)) hn)
 obtain ⟨q, hq, hq2, hq3⟩ := r1 _ _ _ _ _ _ _ g1 (Nat.le_trans (hB.ag _ _ (by simp)) hn)
 rw [h0] at hp2 hp3
 rw [h1] at hq2 hq3
 simp only [List.drop_zero, List.length_take, List.length_drop] at hp2 hq2
 have lp : p.length = P.cellsOf f0.type := by omega
 have lq : q.length = P.cellsOf f1.type := by omega
 refine ⟨_, ⟨p, q, rfl, hp, hq⟩, by rw [List.length_append]; omega, fun i v hv => ?_⟩
 by_cases hi : i < p.length
 ·rw [List.getElem?_append_left hi] at hv
  have := hp3 i v hv
  rw [List.drop_zero, List.getD_eq_getElem?_getD, List.getElem?_take, if_pos (by omega)] at this
  rw [List.getD_eq_getElem?_getD]; exact this
 ·rw [List.getElem?_append_right (by omega)] at hv
  have := hq3 _ v hv
  have hi2 : i - p.length < q.length := (List.getElem?_eq_some_iff.1 hv).1
  rw [List.getD_eq_getElem?_getD, List.getElem?_take, if_pos (by omega), List.getElem?_drop, show P.cellsOf f0.type + (i - p.length) = i by omega] at this
  rw [List.getD_eq_getElem?_getD]; exact this
theorem Qy3 {r : Reach} {b0 : Nat} {t : TypeId} {fs : Array Field} {v : Value} {d : DataW H} {ps : List MemPlace} {Q : List PV -> Prop} (ht : P.underlying t = some (.struct fs)) (Qdl : Value.okWide P w r b0 t v) (hr : Qer enc P Qb0 N t Q) (hd : DataW.Trod enc P w base spare held t v d ps) (hn : Qb0 d <= N) :
  ∃ p, Q p /\ Qai w Qbh (.agg p) v := by
 obtain ⟨vs, rfl, _⟩ := okWide_struct ht Qdl
 obtain ⟨fuel, hf⟩ := hd
 obtain ⟨qs, h1, h2, h3⟩ := hr _ _ _ _ _ _ _ hf hn
 refine ⟨qs, h1, vs, rfl, by simpa [Value.cells] using h2.symm, fun i x hx => ?_⟩
 have := h3 i x hx
 simpa [Value.cells, List.getD_eq_getElem?_getD, Array.getD_eq_getD_getElem?] using this
theorem Ext.sameAt {W W' : World} (h : Ext Qbh W W') {p : MemPlace} (hp : p.block < W.heap.size) : W.sameAt W' p := by
 cases p with
 | cell b off => exact Qei (h.block b hp (fun h => h))
 | map b => exact h.block b hp (fun h => h)
theorem Ext.keptBut {W W' : World} (h : Ext Qbh W W') (may : MemPlace -> Prop) : W.keptBut W' may := by
 refine ⟨h.os, h.output, fun i hi => ?_⟩
 rw [h.block i hi (fun h => h)]
 cases hh : W.heap[i]? with
 | none => rfl
 | some o => cases o with
  | cells c t fr => exact ⟨rfl, rfl, rfl, fun _ _ => rfl⟩
  | map es clock => exact Or.inr ⟨rfl, rfl⟩
  | _ => rfl
theorem Ext.frozen {W W' : World} (h : Ext Qbh W W') {a : Addr} (ha : a.block < W.heap.size) : W'.frozen? a = W.frozen? a := by
 unfold World.frozen?
 rw [h.block _ ha (fun h => h)]
theorem Qsr (hl : laidOutB P = true) (hm : mapsRowed P = true) (hsz : ∀ {t e : TypeId}, t < P.types.size -> P.underlying t = some (.slice e) -> 0 < P.cellsOf e) {W W' : World} (hx : Ext Qbh W W') (sp : Nat -> Bool) :
  ∀ {ts : List TypeId} {vs : List Value} {ds : List (DataW H)} {ps : List MemPlace}, (∀ t ∈ ts, t < P.types.size) -> DataW.TrodAll enc P W 0 (fun _ => true) true ts vs ds ps -> (∀ p ∈ ps, sp p.block = true) -> DataW.TrodAll enc P W' 0 sp true ts vs ds ps
 | [], _, _, _, _, h, _ => by
  obtain ⟨rfl, rfl, rfl⟩ := trodAll_nil h
  rfl
 | t :: ts, _, _, _, hts, h, hs => by
  obtain ⟨v, vs, d, ds, p, q, rfl, rfl, rfl, ⟨fuel, h1⟩, h2⟩ := trodAll_cons h
  refine ⟨p, q, ⟨fuel, ?_⟩, Qsr hl hm hsz hx sp (fun t ht => hts t (by simp [ht])) h2 (fun x hx' => hs x (by simp [hx'])), rfl⟩
  exact DataW.trod_stays (kids_rows hl hm) hsz (fun h => by cases h) (hts t (by simp)) h1 (fun x hx' => hx.sameAt (DataW.trod_lt _ _ _ _ h1 x hx')) (fun x hx' => hs x (by simp [hx']))
theorem Qu4 {f : FuncId} {fn : Func} {s : ChangeSpec} {ap fresh handsOn Qn5 : Bool} {W : World} {args : Array Value} {ds gs : List (DataW H)} {before : List MemPlace} {pargs : List PV} {tb : TypeId}
  (hW : DataW.Whole enc P fn.params.toList s.vars ap W args.toList ds gs before) (hvars : s.vars = []) (hres : fn.resultTypes = #[tb]) (htb : P.underlying tb = some .bool)
  (hl : laidOutB P = true) (hm : mapsRowed P = true) (hsz : ∀ {t e : TypeId}, t < P.types.size -> P.underlying t = some (.slice e) -> 0 < P.cellsOf e) (hpar : ∀ t ∈ fn.params.toList, t < P.types.size)
  (hfn : s.fn H (ds ++ gs) = { results := [.lit (.bool true)], args := ds })
  (hF : Qd P f pargs (· = .bool true)) (hsize : args.size = pargs.length) (hrep : ∀ (i : Nat) (x : PV), pargs[i]? = some x -> Qai W Qbh x (args.getD i undef)) :
  Calls P f args W fun e W' => ∃ v, e = .returned v /\ s.post enc P fn ap fresh handsOn Qn5 W args v W' := by
 refine (hF.2 W Qbh args (fun _ h => h.elim) hsize hrep).mono ?_
 rintro e W' ⟨v, r, rfl, hx, hr, rfl⟩
 have hv : v = .bool true := by cases hr; rfl
 subst hv
 refine ⟨_, rfl, ?_⟩
 have hW' := hW
 obtain ⟨p, q, hA, hV, rfl, hz, hn⟩ := hW
 rw [hvars] at hV
 obtain ⟨rfl, rfl⟩ := trodVars_none hV
 simp only [List.append_nil] at hW' hz hn
 have hlt : ∀ x ∈ p, x.block < W.heap.size := fun x hx' => by simpa using hW'.lt x hx'
 have hA' : ∀ sp : Nat -> Bool, (∀ x ∈ p, sp x.block = true) -> DataW.TrodAll enc P W' 0 sp true fn.params.toList args.toList ds p := fun sp hs => Qsr hl hm hsz hx sp hpar hA hs
 have hR : ∀ (b : Nat) (sp : Nat -> Bool) (hd : Bool), DataW.TrodAll enc P W' b sp hd fn.resultTypes.toList ((Value.bool true).resultList fn.resultTypes.size) [.lit (.bool true)] [] := fun b sp hd => by
  rw [hres]
  exact trodAll_mk1 ⟨1, by simp [DataW.trod, Value.cells, htb]⟩
 have hold : ∀ x ∈ p, (fun b => decide (b < W.heap.size)) x.block = true := fun x hx' => by simpa using hlt x hx'
 refine ⟨ds, [], p, [], p, [], hW', ?_, ?_, ?_, hx.keptBut _, fun _ => ⟨?_, ?_⟩⟩
 ·rw [hfn]; exact hR _ _ _
 ·rw [hfn]; simpa using hA' _ hold
 ·rw [hfn, hvars]; rfl
 ·exact RowKit.ok_one hres rfl (RowKit.okWide_bool_mk htb _)
 ·refine ⟨[.lit (.bool true)] ++ ds, [], p, ⟨[] ++ p, [], trodAll_append (hA' _ (fun _ _ => rfl)) (hR _ _ _), ?_, by simp, ?_, ?_⟩, ?_⟩
  ·rw [hvars]; rfl
  ·intro b off hp
   rw [hx.frozen (hlt _ hp)]
   exact hz b off hp
  ·exact hn
  ·intro x hx' _
   exact hx'
end
end Go.FW
namespace Go.FW
open Go
attribute [go_sem ↓] vcs ops1
attribute [go_sem] ops2 ops3 opsE Qadc Qadd Qade Qadf Q4v Q4w Qafu Qafv Qyu Q4x Q83 bld0 bld1 bld2 bld3 Q1p Qyv List.drop_succ_cons List.drop_zero List.take_succ_cons List.take_zero List.headD_cons List.cons_append List.nil_append Q1o gv_t gv_c Q4y Q84 Q85 and_true List.length_cons List.length_nil Qac1 Qac2 Qac3 B0 Q8p Q0w Q8w Q4r Q4s Q4t Q4u Q8x Qacv Qacw Q4c Q8y Q8z Qafn Qacx Qacy Qacz Q00 Qac0 Qacr bs1 bs2 Qact Q8t Q8u Q8v Qacu Nat.add_zero Qjm Q0x Qng Int.toNat_natCast Nat.zero_add Option.map_some Option.map_none Qafq Qac8 Qaft true_and Q1i Q4j Q1j Qtc Qb8 Qnj Ql6 Q80 Bool.and_true Bool.true_and Bool.and_false Bool.false_and decide_true decide_false List.contains_cons List.contains_nil Bool.or_false Bool.false_or Bool.or_true Bool.true_or List.any_cons List.any_nil Bool.false_eq_true SOp.dst Qgj Q31 Qe3 Ql1 Q8m Bool.not_true Bool.not_false List.length_map List.map_cons List.map_nil Qafs Option.some.injEq Qfp List.getElem?_cons_zero List.getElem?_cons_succ Option.getD_some
attribute [go_sem] Qadl Qadm Q9b Q9c Qadn Q43 Qafz Qwh Qadj Qrr
end Go.FW
