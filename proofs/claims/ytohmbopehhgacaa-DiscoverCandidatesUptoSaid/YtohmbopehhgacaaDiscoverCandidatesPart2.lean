/- Part 2 of the proof of DiscoverCandidates: FwH, FwI, FwJ, FwK, FwL, FwLN, FwM, FwN, FwO, FwP, FwQ, FwR, FwS, FwT, FwU, FwV, FwW, FwX, FwY, FwZ, FwBA, FwBB, FwBC, FwBD, FwBE, FwBF, FwBG, FwBH, FwCA, FwCB, FwCC. Own lemmas; no conditions. -/
import Derived.Test.YtohmbopehhgacaaDiscoverCandidatesPart1
import Derived.Deep.RegionHeld3
import Derived.LoopN
set_option maxHeartbeats 1000000
set_option linter.unusedSimpArgs false
set_option linter.unusedVariables false
set_option linter.unnecessarySimpa false
set_option maxRecDepth 100000
namespace Go.FW
open Go
variable {C : Ctx} {ρ : Nat -> Option Nat} {fr : Fr} {hp : HP} {w : World} {a : Act} {K : Qa}
theorem Qb8 {x : Option Operand} {y : Option Opd} {dflt n : Int} (h : Qg C ρ fr hp a.tmps w) (ho : Qdm x = some y) (hb : Qal dflt (y.map (ev fr)) = some n) :
  (x = none /\ y = none /\ n = dflt) ∨ ∃ z k, x = some z /\ a.eval z = .int k n /\ y.isSome = true := by
 cases x with
 | none => simp [Qdm] at ho; subst ho; simp [Qal] at hb; exact .inl ⟨rfl, rfl, hb.symm⟩
 | some z =>
  simp only [Qdm, Option.map_eq_some_iff] at ho;obtain ⟨u, hu, rfl⟩ := ho;have hr := Qj h hu;simp only [Option.map_some] at hb;cases hp' : ev fr u with
  | int k m =>rw [hp'] at hb hr;simp [Qal] at hb;subst hb;exact .inr ⟨z, k, rfl, hr.int_inv, rfl⟩
  | _ => rw [hp'] at hb; simp [Qal] at hb
theorem Qbc {P : Program} {k : IntKind} {i : Int} {y : Nat} {code : BoundsCode} (h0 : 0 <= i) (h1 : i <= y) (w : World) : (Instr.sliceBound (.int k i) y code).run P w = .ok i.toNat w := by
 unfold Instr.sliceBound;have : 0 <= i /\ i <= y := ⟨h0, h1⟩
 simp only [asIntOf, Sem.run_bind, Sem.run_pure, Result.andThen_ok, if_pos this]
theorem Qed {P : Program} {len cap : Nat} {lo hi mx : Option Operand} {L H M : Int} (eval : Operand -> Value)
  (hL : (lo = none /\ L = 0) ∨ ∃ z k, lo = some z /\ eval z = .int k L)
  (hH : (hi = none /\ H = len) ∨ ∃ z k, hi = some z /\ eval z = .int k H)
  (hM : (mx = none /\ M = len) ∨ ∃ z k, mx = some z /\ eval z = .int k M) (hm : mx.isSome = true -> hi.isSome = true)
  (h0 : 0 <= L) (h1 : L <= H) (h2 : H <= M) (h3 : M <= len) (h4 : len <= cap) :
  ∃ m, L.toNat <= m /\ H.toNat <= m /\ m <= cap /\ (mx = none -> m = cap) /\ ∀ w, (Instr.sliceBounds true len cap (lo.map eval) (hi.map eval) (mx.map eval)).run P w = .ok (L.toNat, H.toNat, m) w := by
 have c1 : H <= (cap : Int) := by omega
 rcases hM with ⟨rfl, hM⟩ | ⟨zm, km, rfl, hM⟩
 ·refine ⟨cap, by omega, by omega, Nat.le_refl _, fun _ => rfl, fun w =>?_⟩;rcases hH with ⟨rfl, hH⟩ | ⟨zh, kh, rfl, hH⟩ <;> rcases hL with ⟨rfl, hL⟩ | ⟨zl, kl, rfl, hL⟩
  ·subst hH; subst hL;simp [Instr.sliceBounds, Sem.run_bind]
  ·subst hH;have e := Qbc (P := P) (k := kl) (code :=.sliceB) (y := len) h0 h1;simp [Instr.sliceBounds, Sem.run_bind, hL, e]
  ·subst hL;have e := Qbc (P := P) (k := kh) (code :=.sliceAcap) (y := cap) (by omega) c1;simp [Instr.sliceBounds, Sem.run_bind, hH, e]
  ·have e := Qbc (P := P) (k := kh) (code :=.sliceAcap) (y := cap) (by omega) c1;have e2 := Qbc (P := P) (k := kl) (code :=.sliceB) (y := H.toNat) h0 (by omega);simp [Instr.sliceBounds, Sem.run_bind, hH, hL, e, e2]
 ·rcases hH with ⟨rfl, hH⟩ | ⟨zh, kh, rfl, hH⟩
  ·simp at hm
  have e := Qbc (P := P) (k := km) (code :=.slice3Acap) (y := cap) (i := M) (by omega) (by omega);have e1 := Qbc (P := P) (k := kh) (code :=.slice3B) (y := M.toNat) (i := H) (by omega) (by omega);refine ⟨M.toNat, by omega, by omega, by omega, fun h => by simp at h, fun w =>?_⟩;rcases hL with ⟨rfl, hL⟩ | ⟨zl, kl, rfl, hL⟩
  ·subst hL;simp [Instr.sliceBounds, Sem.run_bind, hH, hM, e, e1]
  ·have e2 := Qbc (P := P) (k := kl) (code :=.slice3C) (y := H.toNat) (i := L) h0 (by omega);simp [Instr.sliceBounds, Sem.run_bind, hH, hM, hL, e, e1, e2]
theorem Qdd {P : Program} {t e : TypeId} {n len cap l h m : Nat} {ad : Option Addr} {lo hi mx : Option Value} (hu : P.underlying t = some (.slice e)) (hn : tsz P e = some n) (w : World)
  (hb : (Instr.sliceBounds true len cap lo hi mx).run P w = .ok (l, h, m) w) :
  (Instr.sliceAt t (.slice ad len cap) lo hi mx).run P w = .ok (.slice (if m = l then ad else ad.map (·.add (l * n))) (h - l) (m - l)) w := by
 unfold Instr.sliceAt Instr.slice;simp only [Sem.run_bind, Qi hu, Result.andThen_ok, hb, Qad hn, Sem.run_pure]
theorem Qf1 {xs : List PV} {H L i : Nat} {x : PV} (hx : ((xs.take H).drop L)[i]? = some x) : xs[L + i]? = some x /\ L + i < H := by
 rw [List.getElem?_drop] at hx;have hi : L + i < H := by have := (List.getElem?_eq_some_iff.1 hx).1;simp at this; omega
 rw [List.getElem?_take_of_lt hi] at hx;exact ⟨hx, hi⟩
theorem Qc.part {X : Nat -> Prop} {e : Nat} {xs : List PV} {ad : Option Addr} {cap L H m : Nat} (h : Qc w X (.sl e xs) (.slice ad xs.length cap)) (h1 : L <= H) (h2 : H <= xs.length) (h3 : H <= m) (h4 : m <= cap) :
  Qc w X (.sl e ((xs.take H).drop L)) (.slice (if m = L then ad else ad.map (·.add (L * e))) (H - L) (m - L)) := by
 by_cases he : H = L
 ·subst he;have : (xs.take H).drop H = [] := List.drop_eq_nil_of_le (by simp; omega);rw [this, Nat.sub_self];refine .slE _ _ _ ?_;cases h with
  | slE _ _ _ hc => omega
  | sl _ _ b off _ vs hX hb hl hc => omega
 ·have hlen : ((xs.take H).drop L).length = H - L := by simp; omega
  cases h with
  | slE => simp at h2; omega
  | sl _ _ b off _ vs hX hb hl hc he' hv hr =>
   have hm : ¬ m = L := by omega
   rw [if_neg hm];simp only [Option.map_some, Addr.add_lit];have := Qc.sl (w := w) (X := X) e ((xs.take H).drop L) b (off + L * e) (m - L) (fun i j => vs (L + i) j) hX hb (by omega) (by omega)
    (fun i x hx => he' _ x (Qf1 hx).1)
    (fun i hi j hj => by have := hv (L + i) (by omega) j hj;rw [show off + L * e + i * e + j = off + (L + i) * e + j by rw [Nat.add_mul]; omega];exact this)
    (fun i x hx j y hy => hr _ x (Qf1 hx).1 j y hy)
   rwa [hlen] at this
theorem Qp5 {o : Oper} {t e : TypeId} {n : Nat} {x : Operand} {px : PV} {lo hi mx : Option Operand} {plo phi pmx : Option Opd} {d : Nat} (ho : o.op = .slice t x lo hi mx) (hd : o.dst = some d) (hlt : d < C.N) (h : Qg C ρ fr hp a.tmps w)
  (hu : C.P.underlying t = some (.slice e)) (hn : tsz C.P e = some n) (hx : Qb C ρ hp w px (a.eval x)) (hlo : Qdm lo = some plo) (hhi : Qdm hi = some phi) (hmx : Qdm mx = some pmx)
  (hv : slK n px (plo.map (ev fr)) (phi.map (ev fr)) (pmx.map (ev fr)) d fr hp K) : Qd C ρ o a w K := by
 have isS : ∀ {x : Option Operand} {y : Option Opd}, Qdm x = some y -> (x.isSome = true ↔ y.isSome = true) := by
  intro x y hxy;cases x with
  | none => simp [Qdm] at hxy; subst hxy; simp
  | some z => simp only [Qdm, Option.map_eq_some_iff] at hxy; obtain ⟨u, _, rfl⟩ := hxy; simp
 have common : ∀ (hp' : HP) (xs : List PV) (len cap : Nat) (ad : Option Addr) (L H M : Int), Qg C ρ fr hp' a.tmps w -> len = xs.length -> a.eval x = .slice ad len cap -> len <= cap ->
   Qc w (Xof C ρ hp') (.sl n xs) (.slice ad xs.length cap) -> Qal 0 (plo.map (ev fr)) = some L -> Qal len (phi.map (ev fr)) = some H -> Qal len (pmx.map (ev fr)) = some M ->
   0 <= L -> L <= H -> H <= M -> M <= len -> ((pmx.map (ev fr)).isSome = true -> (phi.map (ev fr)).isSome = true) -> K (upd fr d (.sl n ((xs.take H.toNat).drop L.toNat))) hp' -> Qd C ρ o a w K := by
  intro hp' xs len cap ad L H M hs hl ex hcap hr bL bH bM h0 h1 h2 h3 hm hK;have e1 := Qb8 h hlo bL;have e2 := Qb8 h hhi bH;have e3 := Qb8 h hmx bM;obtain ⟨m, q1, q2, q3, _, q4⟩ : ∃ m, L.toNat <= m /\ H.toNat <= m /\ m <= cap /\ (mx = none -> m = cap) /\ ∀ w', (Instr.sliceBounds true len cap (lo.map a.eval) (hi.map a.eval) (mx.map a.eval)).run C.P w' = .ok (L.toNat, H.toNat, m) w' := by
   refine Qed (P := C.P) a.eval ?_ ?_ ?_ (fun hq => (isS hhi).2 (by simpa using hm (by simpa using (isS hmx).1 hq))) h0 h1 h2 h3 hcap
   ·rcases e1 with ⟨q1, _, q3⟩ | ⟨z, k, q1, q2, _⟩
    ·exact .inl ⟨q1, q3⟩
    ·exact .inr ⟨z, k, q1, q2⟩
   ·rcases e2 with ⟨q1, _, q3⟩ | ⟨z, k, q1, q2, _⟩
    ·exact .inl ⟨q1, q3⟩
    ·exact .inr ⟨z, k, q1, q2⟩
   ·rcases e3 with ⟨q1, _, q3⟩ | ⟨z, k, q1, q2, _⟩
    ·exact .inl ⟨q1, q3⟩
    ·exact .inr ⟨z, k, q1, q2⟩
  have hp := hr.part (L := L.toNat) (H := H.toNat) (m := m) (by omega) (by omega) q2 q3;refine ⟨_, fun w' =>?_, upd fr d _, hp', by rw [hd]; exact hs.upd (Qb.ofData (Qk.of_c hp)) hlt, hK⟩;unfold execOp;simp only [ho, ex, Sem.run_bind, Qdd hu hn w' (q4 w'), Result.andThen_ok];rfl
 unfold slK at hv;split at hv
 ·
  split at hv
  ·rename_i L H M bL bH bM;obtain ⟨rfl, rfl, rfl, hm, hK⟩ := hv;have ex := hx.nil_inv;refine Qd.mk hd hlt h (p :=.nilS) (v :=.slice none 0 0) (fun w' =>?_) Qc.nilS hK;have e1 := Qb8 h hlo bL;have e2 := Qb8 h hhi bH;have e3 := Qb8 h hmx bM;obtain ⟨m, q1, q2, q3, _, q4⟩ : ∃ m, (0 : Int).toNat <= m /\ (0 : Int).toNat <= m /\ m <= 0 /\ (mx = none -> m = 0) /\ ∀ w', (Instr.sliceBounds true 0 0 (lo.map a.eval) (hi.map a.eval) (mx.map a.eval)).run C.P w' = .ok ((0 : Int).toNat, (0 : Int).toNat, m) w' := by
    refine Qed (P := C.P) a.eval ?_ ?_ ?_ (fun hq => (isS hhi).2 (by simpa using hm (by simpa using (isS hmx).1 hq))) (Int.le_refl _) (Int.le_refl _) (Int.le_refl _) (by simp) (Nat.le_refl _)
    ·rcases e1 with ⟨q1, _, q3⟩ | ⟨z, k, q1, q2, _⟩
     ·exact .inl ⟨q1, q3⟩
     ·exact .inr ⟨z, k, q1, q2⟩
    ·rcases e2 with ⟨q1, _, q3⟩ | ⟨z, k, q1, q2, _⟩
     ·exact .inl ⟨q1, by simp⟩
     ·exact .inr ⟨z, k, q1, q2⟩
    ·rcases e3 with ⟨q1, _, q3⟩ | ⟨z, k, q1, q2, _⟩
     ·exact .inl ⟨q1, by simp⟩
     ·exact .inr ⟨z, k, q1, q2⟩
   obtain rfl : m = 0 := by omega
   unfold execOp;simp only [ho, ex, Sem.run_bind, Qdd hu hn w' (q4 w'), Result.andThen_ok];rfl
  ·exact hv.elim
 ·rename_i e' xs;split at hv
  ·rename_i L H M bL bH bM;obtain ⟨rfl, h0, h1, h2, h3, hm, hK⟩ := hv;obtain ⟨ad, cap, ex, hc1, hc2⟩ := hx.sl_inv;have hx' : Qc w (Xof C ρ hp) (.sl e' xs) (a.eval x) := hx;rw [ex] at hx';exact common hp xs _ cap ad L H M h rfl ex hc1 hx' bL bH bM h0 h1 h2 h3 hm hK
  ·exact hv.elim
 ·rename_i β o' m;cases pmx with
  | some zm => revert hv; split <;> simp_all
  | none =>
  split at hv
  ·rename_i L H bL bH bM;obtain ⟨he, h0, h1, h2, h3, hK⟩ := hv;have m0 : mx = none := by cases mx <;> simp [Qdm] at hmx ⊢
   subst m0;have e1 := Qb8 h hlo bL;have e2 := Qb8 h hhi bH;obtain ⟨hb, g1, g2, g3⟩ := hx;rw [g1] at he;simp only [Option.map_some, Option.some.injEq] at he;have hL : (lo = none /\ L = 0) ∨ ∃ z k, lo = some z /\ a.eval z = .int k L := by
    rcases e1 with ⟨q1, _, q3⟩ | ⟨z, k, q1, q2, _⟩
    ·exact .inl ⟨q1, q3⟩
    ·exact .inr ⟨z, k, q1, q2⟩
   have hH : (hi = none /\ H = (m : Int)) ∨ ∃ z k, hi = some z /\ a.eval z = .int k H := by
    rcases e2 with ⟨q1, _, q3⟩ | ⟨z, k, q1, q2, _⟩
    ·exact .inl ⟨q1, q3⟩
    ·exact .inr ⟨z, k, q1, q2⟩
   rcases g3 with ⟨g3, ex, rfl, rfl⟩ | ⟨b, cap, g3, ex, g5, g6⟩
   ·obtain ⟨m', q1, q2, q3, _, q4⟩ := Qed (P := C.P) (len := 0) (cap := 0) (mx := none) (M := 0) a.eval hL hH (.inl ⟨rfl, rfl⟩) (by simp) h0 h1 h2 (by simp) (Nat.le_refl _);have hH0 : H.toNat = 0 := by omega
    have hL0 : L.toNat = 0 := by omega
    have hm0 : m' = 0 := by omega
    refine Qd.mk hd hlt h (v :=.slice none 0 0) (fun w' =>?_) ?_ hK
    ·unfold execOp;simp only [ho, ex, Sem.run_bind, Qdd hu hn w' (q4 w'), Result.andThen_ok];simp [hH0, hm0, hL0]
    ·exact ⟨hb, g1, by omega, .inl ⟨g3, rfl, by omega, by omega⟩⟩
   ·have hcap : m <= cap := by have hblk := (h.own β hb g1).blk;rw [g3] at hblk;obtain ⟨_, _, cur, cap', c1, c2, c3, c4, c5⟩ := hblk;obtain ⟨cur', ty', d1, d2⟩ := g5;rw [c1] at d1; cases d1;rw [c2] at d2;have := Nat.eq_of_mul_eq_mul_right (h.own β hb g1).epos d2;omega
    obtain ⟨m', q1, q2, q3, q5, q4⟩ := Qed (P := C.P) (len := m) (cap := cap) (mx := none) (M := (m : Int)) a.eval hL hH (.inl ⟨rfl, rfl⟩) (by simp) h0 h1 h2 (Int.le_refl _) hcap;obtain rfl := q5 rfl;refine Qd.mk hd hlt h (v :=.slice (some ⟨b, (o' + L.toNat) * hb.e, none⟩) (H.toNat - L.toNat) (m' - L.toNat)) (fun w' =>?_) ?_ hK
    ·unfold execOp;simp only [ho, ex, Sem.run_bind, Qdd hu hn w' (q4 w'), Result.andThen_ok];congr 1;by_cases hz : L = 0
     ·subst hz; simp [Addr.add_zero']
     ·rw [if_neg (by omega)];simp [Addr.add_lit, he, Nat.add_mul]
    ·exact ⟨hb, g1, by omega, .inr ⟨b, m' - L.toNat, g3, rfl, by rw [show o' + L.toNat + (m' - L.toNat) = o' + m' by omega]; exact g5, by omega⟩⟩
  ·exact hv.elim
 ·exact hv.elim
end Go.FW
namespace Go.FW
open Go
variable {C : Ctx} {ρ : Nat -> Option Nat} {fr : Fr} {hp : HP} {w : World} {a : Act} {K : Qa}
def Qde (Q : PV -> Value -> Prop) (ps : List PV) (vs : Array Value) : Prop := vs.size = ps.length /\ ∀ (i : Nat) (x : PV), ps[i]? = some x -> Q x (vs.getD i undef)
abbrev Rows (w : World) (X : Nat -> Prop) (ps : List PV) (vs : Array Value) : Prop := Qde (Qc w X) ps vs
theorem Qj0 (off : Nat) : ∀ (l : List Value) (s : Nat) (cs : Array Value),
  ((l.zipIdx s).foldl (fun cs (p : Value × Nat) => cs.setIfInBounds (off + p.2) p.1) cs).size = cs.size /\
  ∀ k, k < cs.size -> ((l.zipIdx s).foldl (fun cs (p : Value × Nat) => cs.setIfInBounds (off + p.2) p.1) cs).getD k undef = if off + s <= k /\ k < off + s + l.length then l.getD (k - off - s) undef else cs.getD k undef
 | [], s, cs => by refine ⟨rfl, fun k hk =>?_⟩;simp only [List.zipIdx_nil, List.foldl_nil, List.length_nil, Nat.add_zero];rw [if_neg (by omega)]
 | c :: l, s, cs => by
  obtain ⟨h1, h2⟩ := Qj0 off l (s + 1) (cs.setIfInBounds (off + s) c);simp only [List.zipIdx_cons, List.foldl_cons];refine ⟨by rw [h1]; simp, fun k hk =>?_⟩;rw [h2 k (by simpa using hk)];by_cases hks : k = off + s
  ·subst hks;rw [if_neg (by omega), if_pos (by simp)];simp [Array.getD, hk]
  ·by_cases hr : off + (s + 1) <= k /\ k < off + (s + 1) + l.length
   ·rw [if_pos hr, if_pos (by simp; omega)];have : k - off - s = (k - off - (s + 1)) + 1 := by omega
    rw [this]; simp
   ·rw [if_neg hr, if_neg (by simp; omega)];simp only [Array.getD_eq_getD_getElem?];rw [Array.getElem?_setIfInBounds_ne (by omega)]
theorem Qj1 (cs : Array Value) (v : Array Value) (off : Nat) :
  v.zipIdx.foldl (fun cs (x : Value × Nat) => match x with | (c, j) => cs.setIfInBounds (off + j) c) cs = (v.toList.zipIdx).foldl (fun cs (p : Value × Nat) => cs.setIfInBounds (off + p.2) p.1) cs := by
 rw [<- Array.foldl_toList, Array.toList_zipIdx]
theorem Qde.fill1 {Q : PV -> Value -> Prop} {ps qs : List PV} {vs us : Array Value} {off : Nat} (h : Qde Q ps vs) (hq : Qde Q qs us) (hle : off + qs.length <= ps.length) :
  Qde Q (ps.take off ++ qs ++ ps.drop (off + qs.length)) (us.zipIdx.foldl (fun cs (x : Value × Nat) => match x with | (c, j) => cs.setIfInBounds (off + j) c) vs) := by
 obtain ⟨h1, h2⟩ := h;obtain ⟨q1, q2⟩ := hq;rw [Qj1];obtain ⟨f1, f2⟩ := Qj0 off us.toList 0 vs;refine ⟨by rw [f1, h1]; simp; omega, fun i x hx =>?_⟩;have hi : i < ps.length := by have := (List.getElem?_eq_some_iff.1 hx).1; simp at this; omega
 rw [f2 i (by omega)];simp only [Nat.add_zero, Array.length_toList, Nat.sub_zero];rw [List.append_assoc, List.getElem?_append] at hx;by_cases c1 : i < off
 ·rw [if_neg (by omega)];rw [if_pos (by simp; omega), List.getElem?_take_of_lt c1] at hx;exact h2 i x hx
 ·rw [if_neg (by simp; omega)] at hx;have ht : (ps.take off).length = off := by simp; omega
  rw [ht, List.getElem?_append] at hx;by_cases c2 : i - off < qs.length
  ·rw [if_pos c2] at hx;rw [if_pos (by omega)];have := q2 _ _ hx
   rwa [show us.toList.getD (i - off) undef = us.getD (i - off) undef by simp [Array.getD_eq_getD_getElem?]]
  ·rw [if_neg c2, List.getElem?_drop] at hx;rw [if_neg (by omega)];rw [show off + qs.length + (i - off - qs.length) = i by omega] at hx;exact h2 i x hx
theorem Qee {Q : PV -> Value -> Prop} (place : Nat -> Option (Nat × Nat)) : ∀ (parts : List (Nat × Value)) (qs : List (Nat × List PV)) (ps : List PV) (vs : Array Value), Qde Q ps vs -> parts.length = qs.length ->
  (∀ (i : Nat) (p : Nat × Value) (q : Nat × List PV), parts[i]? = some p -> qs[i]? = some q -> place p.1 = some (q.1, q.2.length) /\ Qde Q q.2 p.2.cells /\ q.1 + q.2.length <= ps.length) ->
  ∃ vs', Instr.fill place vs parts = some vs' /\ Qde Q (Qa6 ps qs) vs'
 | [], [], ps, vs, h, _, _ => ⟨vs, rfl, h⟩
 | [], q :: qs, _, _, _, hl, _ => by simp at hl
 | p :: parts, [], _, _, _, hl, _ => by simp at hl
 | (i, v) :: parts, (off, xs) :: qs, ps, vs, h, hl, hp => by
  obtain ⟨h1, h2, h3⟩ := hp 0 (i, v) (off, xs) rfl rfl;have hsz : v.cells.size = xs.length := h2.1;have hn : ¬ ((v.cells.size ≠ xs.length || decide (off + v.cells.size > vs.size)) = true) := by have := h.1;simp only [Bool.or_eq_true, decide_eq_true_eq, not_or];exact ⟨by simp [hsz], by rw [hsz, this]; simp only at h3; omega⟩
  have hlen : (ps.take off ++ xs ++ ps.drop (off + xs.length)).length = ps.length := by simp; simp only at h3; omega
  obtain ⟨vs', g1, g2⟩ := Qee place parts qs _ _ (h.fill1 h2 h3) (by simpa using hl) (fun j p q hpj hqj => by obtain ⟨k1, k2, k3⟩ := hp (j + 1) p q (by simpa using hpj) (by simpa using hqj);exact ⟨k1, k2, by rw [hlen]; exact k3⟩);refine ⟨vs', ?_, g2⟩;unfold Instr.fill;simp only [h1];rw [if_neg hn];exact g1
theorem Qk.rows {X : Nat -> Prop} {p : PV} {v : Value} (h : Qk w X p v) : Rows w X p.cells v.cells := h.cells
theorem Qcv {P : Program} {t : TypeId} {n by_ : Nat} {z : PV} (h : Qck P t = some (n, by_, z)) : ∃ (i : TypeInfo) (zv : Value), P.info? t = some i /\ i.zero = some zv /\ i.size = n /\ i.bytes = by_ /\ Qcs zv = some z := by simp only [Qck, Option.bind_eq_some_iff, Option.map_eq_some_iff, Prod.mk.injEq] at h;obtain ⟨i, h1, zv, h2, p, h3, h4, h5, h6⟩ := h;subst h6;exact ⟨i, zv, h1, h2, h4, h5, h3⟩
theorem Qbd {P : Program} {t : TypeId} {i : TypeInfo} {zv : Value} (h1 : P.info? t = some i) (h2 : i.zero = some zv) (w : World) : (zeroValue t).run P w = .ok zv w := by simp [zeroValue, typeInfo, h1, h2]
theorem Qix {parts : List (Nat × Operand)} {ps : List (Nat × Nat × Opd)} {f : Nat × Operand -> Option (Nat × Nat × Opd)} (h : parts.mapM f = some ps) {eval : Operand -> Value} {i : Nat} {p : Nat × Value} {q : Nat × Nat × Opd}
  (h1 : (parts.map fun x => (x.1, eval x.2))[i]? = some p) (h2 : ps[i]? = some q) : ∃ x, parts[i]? = some x /\ f x = some q /\ p = (x.1, eval x.2) := by
 obtain ⟨x, hx, hf⟩ := (Qbl h).2 i q h2;refine ⟨x, hx, hf, ?_⟩;simp only [List.getElem?_map, hx, Option.map_some, Option.some.injEq] at h1;exact h1.symm
theorem Qn0 {o : Oper} {t : TypeId} {parts : Array (Nat × Operand)} {z : PV} {n by_ : Nat} {ps : List (Nat × Nat × Opd)} {d : Nat} (ho : o.op = .build t parts) (hd : o.dst = some d) (hlt : d < C.N) (h : Qg C ρ fr hp a.tmps w)
  (hz : Qck C.P t = some (n, by_, z)) (hps : Qf3 C.P t parts.toList = some ps)
  (hv : Qhf z.cells (ps.map fun p => (p.1, p.2.1, ev fr p.2.2)) d fr hp K) : Qd C ρ o a w K := by
 obtain ⟨hok, hK⟩ := hv;obtain ⟨ti, zv, i1, i2, i3, i4, i5⟩ := Qcv hz;have hzr : Rows w (Xof C ρ (Ql hp ((ps.map fun p => (p.1, p.2.1, ev fr p.2.2)).flatMap fun p => p.2.2.refs))) z.cells zv.cells := (Qbf i5).rows;have hev : (parts.map fun (x : Nat × Operand) => (x.1, a.eval x.2)).toList = parts.toList.map fun x => (x.1, a.eval x.2) := by simp
 have key : ∀ (f : Nat × Operand -> Option (Nat × Nat × Opd)) (place : Nat -> Option (Nat × Nat)), parts.toList.mapM f = some ps -> (∀ x q, f x = some q -> place x.1 = some (q.1, q.2.1) /\ opd x.2 = some q.2.2) ->
   ∃ vs', Instr.fill place zv.cells (parts.map fun (x : Nat × Operand) => (x.1, a.eval x.2)).toList = some vs' /\
    Rows w (Xof C ρ (Ql hp ((ps.map fun p => (p.1, p.2.1, ev fr p.2.2)).flatMap fun p => p.2.2.refs))) (Qa6 z.cells ((ps.map fun p => (p.1, p.2.1, ev fr p.2.2)).map fun p => (p.1, (Qh hp p.2.2).cells))) vs' := by
  intro f place hm hf;rw [hev];refine Qee place _ _ _ _ hzr (by simp [(Qbl hm).1]) (fun i p q hpi hqi =>?_);simp only [List.map_map, List.getElem?_map, Option.map_eq_some_iff] at hqi;obtain ⟨q0, hq0, rfl⟩ := hqi;obtain ⟨x, hx, hfx, rfl⟩ := Qix hm hpi hq0;obtain ⟨f1, f2⟩ := hf x q0 hfx;obtain ⟨o1, o2, o3⟩ := hok (q0.1, q0.2.1, ev fr q0.2.2) (List.mem_map.2 ⟨q0, List.mem_of_getElem? hq0, rfl⟩);simp only [Function.comp] at o1 o2 o3 ⊢;refine ⟨by rw [o2]; exact f1, ?_, by rw [o2]; exact o3⟩;exact (Qb0 h (Qj h f2) (fun β hβ => List.mem_flatMap.2 ⟨_, List.mem_map.2 ⟨q0, List.mem_of_getElem? hq0, rfl⟩, hβ⟩) o1).rows
 have fin : ∀ vs', (∀ w', (Instr.build t (parts.map fun (x : Nat × Operand) => (x.1, a.eval x.2))).run C.P w' = .ok (.agg vs') w') ->
   Rows w (Xof C ρ (Ql hp ((ps.map fun p => (p.1, p.2.1, ev fr p.2.2)).flatMap fun p => p.2.2.refs))) (Qa6 z.cells ((ps.map fun p => (p.1, p.2.1, ev fr p.2.2)).map fun p => (p.1, (Qh hp p.2.2).cells))) vs' -> Qd C ρ o a w K := by
  intro vs' hrun hr;refine ⟨.agg vs', fun w' =>?_, _, _, by rw [hd]; exact (h.freeze _).upd (p :=.agg _) ⟨vs', rfl, hr.1, hr.2⟩ hlt, hK⟩;unfold execOp;simp only [ho, Sem.run_bind];have := hrun w';rw [show (parts.map fun (x : Nat × Operand) => (x.1, a.eval x.2)) = (parts.map fun x => match x with | (i, x) => (i, a.eval x)) from rfl] at this;rw [this];rfl
 unfold Qf3 at hps;split at hps
 ·rename_i fs hu;simp only [Option.bind_eq_some_iff] at hps;obtain ⟨pl, hpl, hm⟩ := hps;obtain ⟨vs', g1, g2⟩ := key _ (fun i => pl[i]?) hm (fun x q hq => by simp only [Option.bind_eq_some_iff, Option.map_eq_some_iff] at hq;obtain ⟨r, hr, y, hy, rfl⟩ := hq;exact ⟨by simpa using hr, hy⟩);refine fin vs' (fun w' =>?_) g2;unfold Instr.build;have hp1 := run_places (P := C.P) w' fs.toList pl hpl;simp [Sem.run_bind, Qbd i1 i2, Qi hu, Array.mapM_eq_mapM_toList, hp1] at g1 ⊢;simp [g1]
 ·rename_i len e hu;simp only [Option.bind_eq_some_iff] at hps;obtain ⟨m, hm0, hm⟩ := hps;obtain ⟨vs', g1, g2⟩ := key _ (fun i => some (i * m, m)) hm (fun x q hq => by simp only [Option.map_eq_some_iff] at hq;obtain ⟨y, hy, rfl⟩ := hq;exact ⟨rfl, hy⟩);refine fin vs' (fun w' =>?_) g2;unfold Instr.build;simp only [Sem.run_bind, Qbd i1 i2, Qi hu, Qad hm0, Result.andThen_ok, g1, Sem.run_pure]
 ·simp at hps
theorem Qg2 {xs : List Operand} {ys : List Opd} (h : Qg C ρ fr hp a.tmps w) (hm : xs.mapM opd = some ys) : (ys.map (ev fr)).length = xs.length /\ ∀ (i : Nat) (x : PV), (ys.map (ev fr))[i]? = some x -> Qb C ρ hp w x ((xs.map a.eval).toArray.getD i undef) := by
 obtain ⟨h1, h2⟩ := Qbl hm;refine ⟨by simp [h1], fun i x hx =>?_⟩;simp only [List.getElem?_map, Option.map_eq_some_iff] at hx;obtain ⟨y, hy, rfl⟩ := hx;obtain ⟨z, hz, ho⟩ := h2 i y hy;have e : ((xs.map a.eval).toArray.getD i undef) = a.eval z := by simp [Array.getD_eq_getD_getElem?, List.getElem?_map, hz]
 rw [e];exact Qj h ho
theorem Qb.toA {p : PV} {v : Value} (h : Qb C ρ hp w p v) (hc : p.isCap = true) : Qbh C ρ hp w p v := by cases p <;> first | exact h | simp [PV.isCap] at hc
theorem Qp6 {o : Oper} {f : FuncId} {first cap : Array Operand} {pf pc : List Opd} {d : Nat} (ho : o.op = .makeFunc (.func f) first cap) (hd : o.dst = some d) (hlt : d < C.N) (h : Qg C ρ fr hp a.tmps w)
  (h1 : first.toList.mapM opd = some pf) (h2 : cap.toList.mapM opd = some pc)
  (hv : (pf.map (ev fr) ++ pc.map (ev fr)).all PV.isCap = true /\ K (upd fr d (.fn f (pf.map (ev fr)) (pc.map (ev fr)))) hp) : Qd C ρ o a w K := by
 obtain ⟨hc, hK⟩ := hv;rw [List.all_eq_true] at hc;obtain ⟨f1, f2⟩ := Qg2 h h1;obtain ⟨c1, c2⟩ := Qg2 h h2;refine Qd.mk hd hlt h (v :=.func (.func f) (first.map a.eval) (cap.map a.eval)) (fun w' =>?_) ?_ hK
 ·unfold execOp;simp only [ho, Sem.run_bind, Instr.makeFunc, Sem.run_pure, Result.andThen_ok]
 ·refine ⟨_, _, rfl, by simpa using f1.symm, by simpa using c1.symm, fun i x hx =>?_, fun i x hx =>?_⟩
  ·have := f2 i x hx;rw [show (first.toList.map a.eval).toArray = first.map a.eval from Array.ext' (by simp)] at this;exact this.toA (hc x (List.mem_append_left _ (List.mem_of_getElem? hx)))
  ·have := c2 i x hx;rw [show (cap.toList.map a.eval).toArray = cap.map a.eval from Array.ext' (by simp)] at this;exact this.toA (hc x (List.mem_append_right _ (List.mem_of_getElem? hx)))
theorem Ql7 {o : Oper} {x : Operand} {px : PV} (ho : o.op = .nilCheck x) (hlt : ∀ d, o.dst = some d -> d < C.N) (h : Qg C ρ fr hp a.tmps w)
  (hx : Qb C ρ hp w px (a.eval x)) (hv : Qhg px o.dst fr hp K) : Qd C ρ o a w K := by
 have key : (∃ b o', a.eval x = .pointer (some ⟨b, o', none⟩)) ∨ (∃ f fv cv, a.eval x = .func (.func f) fv cv) -> (∀ d, o.dst = some d -> K (upd fr d px) hp) -> (o.dst = none -> K fr hp) -> Qd C ρ o a w K := by
  intro hsh k1 k2;have hrun : ∀ w', (execOp a.eval o).run C.P w' = .ok (.value (a.eval x)) w' := by intro w';unfold execOp;rcases hsh with ⟨b, o', e⟩ | ⟨f, fv, cv, e⟩ <;> simp only [ho, e] <;> rfl
  cases hd : o.dst with
  | some d => exact ⟨_, hrun, _, _, by rw [hd]; exact h.upd hx (hlt d hd), k1 d hd⟩
  | none => exact ⟨_, hrun, fr, hp, by rw [hd]; exact h, k2 hd⟩
 cases px with
 | mp β i o' =>obtain ⟨b, hb, _, _, e⟩ := hx.mp_inv;refine key (.inl ⟨_, _, e⟩) (fun d hd =>?_) (fun hd =>?_) <;> (rw [hd] at hv; exact hv)
 | pt cs =>obtain ⟨b, off, e, _⟩ := hx.pt_inv;refine key (.inl ⟨_, _, e⟩) (fun d hd =>?_) (fun hd =>?_) <;> (rw [hd] at hv; exact hv)
 | fn f first cap =>obtain ⟨fv, cv, e, _⟩ := hx;refine key (.inr ⟨_, _, _, e⟩) (fun d hd =>?_) (fun hd =>?_) <;> (rw [hd] at hv; exact hv)
 | _ => exact hv.elim
end Go.FW
namespace Go.FW
open Go
variable {C : Ctx} {ρ : Nat -> Option Nat} {fr : Fr} {hp : HP} {w : World} {a : Act} {K : Qa}
def Qx (C : Ctx) (two : Bool) (w : World) (K : Qa) (a' : Act) (w' : World) : Prop :=
 a'.defers = [] /\ (∃ fr' hp', Sim C fr' hp' a'.tmps w' /\ K fr' hp') /\ (two = true -> Ext Qm w w')
theorem Qan {P : Program} {o : Oper} {v : Value} {w w' : World} {a : Act} {K' : Act -> World -> Prop} {Q : Exit -> Act -> World -> Prop} (hr : (execOp a.eval o).run P w = .ok (.value v) w') (hK : K' (a.put o.dst v) w') : o.wp P a w K' Q := by unfold Oper.wp;rw [hr];exact hK
theorem Qb1 {a : Act} {d : Option Nat} {v : Value} : (a.put d v).defers = a.defers := by cases d <;> rfl
theorem Qdy (w : World) (o : Obj) (k : Nat) (h : k < w.heap.size) : (w.alloc o).heap[k]? = w.heap[k]? := by show (w.heap.push o)[k]? = _;rw [Array.getElem?_push, if_neg (by omega)]
theorem Q0 (w : World) (o : Obj) : (w.alloc o).heap[w.heap.size]? = some o := by show (w.heap.push o)[w.heap.size]? = _;simp
theorem Qdz (w : World) (o : Obj) : (w.alloc o).heap.size = w.heap.size + 1 := by show (w.heap.push o).size = _;simp
theorem Ext.alloc (w : World) (o : Obj) (Y : Nat -> Prop) : Ext Y w (w.alloc o) := ⟨rfl, rfl, rfl, by rw [Qdz]; omega, fun b hb _ => Qdy w o b hb⟩
theorem Ext.drew (w : World) (Y : Nat -> Prop) : Ext Y w w.drew := ⟨rfl, rfl, rfl, Nat.le_refl _, fun _ _ _ => rfl⟩
theorem Qid {d : Nat} (h : d < C.N) : isB d = false := by have := C.hN; simp [isB]; omega
theorem Qg.newBlockG {tmps : Array Value} {fr' : Fr} (h : Qg C ρ fr hp tmps w) (d : Nat) (hB : isY d = false) (hgone : Qic C ρ hp w d fr fr') (hb' : HB) (cur : Array Value) (cap : Nat) (w' : World) (hw : w' = w.alloc (.cells cur hb'.ty) ∨ w' = w.drew.alloc (.cells cur hb'.ty))
  (hs : cur.size = cap * hb'.e) (hle : hb'.xs.length <= cap) (hm : cap <= maxLen) (he : 0 < hb'.e) (hl : ∀ (i : Nat) (x : PV), hb'.xs[i]? = some x -> x.cells.length = hb'.e /\ x.isData = true)
  (hc : ∀ (i : Nat) (x : PV), hb'.xs[i]? = some x -> ∀ (j : Nat) (y : PV), x.cells[j]? = some y -> Qc w (Xof C ρ hp) y (cur.getD (i * hb'.e + j) undef)) :
  Qg C (rb ρ d (some w.heap.size)) fr' (Qe hp d hb') tmps w' /\ Ext Qm w w' := by
 have hext : ∀ Y, Ext Y w w' := fun Y => by
  rcases hw with rfl | rfl
  ·exact Ext.alloc w _ Y
  ·exact (Ext.drew w Y).trans (Ext.alloc w.drew _ Y)
 have hsz : w'.heap.size = w.heap.size + 1 := by rcases hw with rfl | rfl <;> rw [Qdz] <;> rfl
 have hself : w'.heap[w.heap.size]? = some (.cells cur hb'.ty (0, 0)) := by
  rcases hw with rfl | rfl
  ·exact Q0 w _
  ·exact Q0 w.drew _
 refine ⟨h.rebindG d (some w.heap.size) hb' hB hgone (hext _) (fun c hc' =>?_) he hl (by simp) (fun c hc' =>?_), hext _⟩
 ·cases hc'; exact ⟨.inl h.ext.size, by omega, .inl (Nat.le_refl _)⟩
 ·cases hc'; exact ⟨cur, cap, hself, hs, hle, hm, hc⟩
theorem Qg.newBlock {tmps : Array Value} (h : Qg C ρ fr hp tmps w) (d : Nat) (hB : isB d = false) (hb' : HB) (cur : Array Value) (cap : Nat) (w' : World) (hw : w' = w.alloc (.cells cur hb'.ty) ∨ w' = w.drew.alloc (.cells cur hb'.ty))
  (hs : cur.size = cap * hb'.e) (hle : hb'.xs.length <= cap) (hm : cap <= maxLen) (he : 0 < hb'.e) (hl : ∀ (i : Nat) (x : PV), hb'.xs[i]? = some x -> x.cells.length = hb'.e /\ x.isData = true)
  (hc : ∀ (i : Nat) (x : PV), hb'.xs[i]? = some x -> ∀ (j : Nat) (y : PV), x.cells[j]? = some y -> Qc w (Xof C ρ hp) y (cur.getD (i * hb'.e + j) undef)) :
  Qg C (rb ρ d (some w.heap.size)) (Qy d fr) (Qe hp d hb') tmps w' /\ Ext Qm w w' :=
 h.newBlockG d (Qf4 hB) (Qex hB) hb' cur cap w' hw hs hle hm he hl hc
theorem Qav : maxLen = 9223372036854775807 := rfl
theorem Qx.ofBlock {two : Bool} {o : Oper} {d : Nat} {v : Value} {p : PV} {w' : World} {fr' : Fr} {hp' : HP} {ρ' : Nat -> Option Nat} (hd : o.dst = some d) (hlt : d < C.N) (hdef : a.defers = [])
  (h : Qg C ρ' fr' hp' a.tmps w') (hx : two = true -> Ext Qm w w') (hv : Qb C ρ' hp' w' p v) (hK : K (upd fr' d p) hp') : Qx C two w K (a.put o.dst v) w' := by
 refine ⟨by rw [Qb1]; exact hdef, ⟨_, hp', ⟨ρ', ?_⟩, hK⟩, hx⟩;rw [hd];exact h.upd hv hlt
theorem Qk.rows1 {X : Nat -> Prop} {p : PV} {v : Value} {n : Nat} (h : Qk w X p v) (hn : p.cells.length = n) : v.cells.size = 1 * n /\ ∀ (i : Nat) (x : PV), [p][i]? = some x -> ∀ (j : Nat) (y : PV), x.cells[j]? = some y -> Qc w X y (v.cells.getD (i * n + j) undef) := by
 obtain ⟨h1, h2⟩ := h.cells;refine ⟨by omega, fun i x hx j y hy =>?_⟩
 match i, hx with
 | 0, hx => simp at hx; subst hx; simpa using h2 j y hy
 | i + 1, hx => simp at hx
theorem Qsb {d n ty : Nat} {x : PV} {w' : World} : Qb C (rb ρ d (some w.heap.size)) (Qe hp d ⟨n, ty, [x], false⟩) w' (.mp d 0 0) (.pointer (some ⟨w.heap.size, 0, none⟩)) := by refine ⟨w.heap.size, ⟨n, ty, [x], false⟩, Qah _ _ _, by simp [Qe], by simp⟩
theorem Qn1 {o : Oper} {t : TypeId} {n : Nat} {x : Operand} {px : PV} {d : Nat} {Q : Exit -> Act -> World -> Prop} (ho : o.op = .box t x) (hd : o.dst = some d) (hlt : d < C.N) (hdef : a.defers = []) (h : Qg C ρ fr hp a.tmps w)
  (hx : Qb C ρ hp w px (a.eval x)) (hN : ∀ cs, px = .rag cs -> Qf6 n t cs d fr hp K -> o.wp C.P a w (Qx C true w K) Q) (hv : Qbb n t px d fr hp K) : o.wp C.P a w (Qx C true w K) Q := by
 unfold Qbb at hv;split at hv
 ·exact hN _ rfl hv
 split at hv
 ·rename_i β o' m hm;have hpx : px = .mso β o' m := by
   cases px with
   | mso β2 o2 m2 =>
    simp only at hm;split at hm
    ·cases hm; rfl
    ·cases hm
   | _ => cases hm
  subst hpx;have hs := h.grow (w' := w.alloc (.cells (a.eval x).cells t)) (Ext.alloc w _ _);have hx' : Qbt ρ hp (w.alloc (.cells (a.eval x).cells t)) β o' m (a.eval x) := Qbt.move hx ⟨rfl, fun hb hβ => ⟨hb, hβ, rfl, Nat.le_refl _, fun b cap _ hc => Qak (Qdy w _ b (Qa7 hc)) hc⟩⟩;have hc1 : (a.eval x).cells = #[a.eval x] := by obtain ⟨ad, cap, e⟩ := Qb.ms_inv hx;rw [e]; rfl
  refine Qan (v :=.pointer (some ⟨w.heap.size, 0, none⟩)) (w' := w.alloc (.cells (a.eval x).cells t)) ?_ (Qx.ofBlock (p :=.rb β o' m) hd hlt hdef hs (fun _ => Ext.alloc w _ _) ⟨w.heap.size, a.eval x, rfl, by rw [Qdz]; omega, ?_, ?_, hx'⟩ hv)
  ·unfold execOp;simp only [ho, Instr.box, newVar, newRow];simp
  ·rintro (hq | ⟨γ, hg, g1, _, g3⟩)
   ·have := C.hX0 _ hq;have := h.ext.size;omega
   ·have := (h.own γ hg g1).blk;rw [g3] at this;have := this.2.1;omega
  ·have := Q0 w (.cells (a.eval x).cells t);rw [Qap this (by rw [hc1]; simp), hc1];rfl
 obtain ⟨h1, h2, h3, hK⟩ := hv;have hr := Qb0 h hx (fun β hβ => hβ) h1;obtain ⟨r1, r2⟩ := hr.rows1 h2;obtain ⟨hs, he⟩ := (h.freeze px.refs).newBlock d (Qid hlt) ⟨n, t, [Qh hp px], false⟩ (a.eval x).cells 1 _ (.inl rfl) r1 (by simp) (by rw [Qav]; omega) h3
  (fun i y hy => by
   match i, hy with
   | 0, hy => simp at hy; subst hy; exact ⟨h2, h1⟩
   | i + 1, hy => simp at hy) r2
 refine Qan (v :=.pointer (some ⟨w.heap.size, 0, none⟩)) (w' := w.alloc (.cells (a.eval x).cells t)) ?_ (Qx.ofBlock hd hlt hdef hs (fun _ => he) Qsb hK);unfold execOp;simp only [ho, Instr.box, newVar, newRow];simp
theorem Qk7 {o : Oper} {t : TypeId} {n : Nat} {ti : TypeInfo} {zv : Value} {z : PV} {d : Nat} {Q : Exit -> Act -> World -> Prop} (ho : o.op = .alloc t) (hd : o.dst = some d) (hlt : d < C.N) (hdef : a.defers = []) (h : Qg C ρ fr hp a.tmps w)
  (i1 : C.P.info? t = some ti) (i2 : ti.zero = some zv) (hz : Qcs zv = some z) (hv : Qbb n t z d fr hp K) : o.wp C.P a w (Qx C true w K) Q := by
 unfold Qbb at hv;split at hv
 ·exact absurd (Qdb hz).1 (by simp [PV.isData])
 split at hv
 ·rename_i β o' m hm;have hd := (Qdb hz).1;cases z with
  | mso => simp [PV.isData] at hd
  | _ => cases hm
 obtain ⟨h1, h2, h3, hK⟩ := hv;have hr := Qb0 (C := C) (ρ := ρ) (hp := hp) h (Qb.ofData (Qbf (w := w) hz)) (fun β hβ => hβ) h1;obtain ⟨r1, r2⟩ := hr.rows1 h2;obtain ⟨hs, he⟩ := (h.freeze z.refs).newBlock d (Qid hlt) ⟨n, t, [Qh hp z], false⟩ zv.cells 1 _ (.inl rfl) r1 (by simp) (by rw [Qav]; omega) h3
  (fun i y hy => by
   match i, hy with
   | 0, hy => simp at hy; subst hy; exact ⟨h2, h1⟩
   | i + 1, hy => simp at hy) r2
 refine Qan (v :=.pointer (some ⟨w.heap.size, 0, none⟩)) (w' := w.alloc (.cells zv.cells t)) ?_ (Qx.ofBlock hd hlt hdef hs (fun _ => he) Qsb hK);unfold execOp;simp only [ho, Instr.alloc, Sem.run_bind, Qbd i1 i2, Result.andThen_ok, newVar, newRow];simp
theorem Qj2 {i e j : Nat} (hj : j < e) : (i * e + j) % e = j := by rw [Nat.add_comm, Nat.add_mul_mod_self_right, Nat.mod_eq_of_lt hj]
theorem Qp7 {i e j : Nat} (hj : j < e) : (i * e + j) / e = i := by rw [Nat.add_comm, Nat.add_mul_div_right _ _ (by omega), Nat.div_eq_of_lt hj, Nat.zero_add]
theorem Qie {z : Array Value} {n k : Nat} (hk : k < n) (hz : 0 < z.size) : (madeCells z n).getD k undef = z.getD (k % z.size) undef := by have h1 : k % z.size < z.size := Nat.mod_lt _ hz;simp [madeCells, Array.getD, hk, h1]
theorem Qsc {d : Nat} {hb : HB} {n cap : Nat} {w' : World} {cur : Array Value} (hle : n <= hb.xs.length) (hcur : w'.heap[w.heap.size]? = some (.cells cur hb.ty (0, 0))) (hs : cur.size = cap * hb.e) (hm : cap <= maxLen) :
  Qb C (rb ρ d (some w.heap.size)) (Qe hp d hb) w' (.ms d n) (.slice (some ⟨w.heap.size, 0, none⟩) n cap) :=
 ⟨hb, by simp [Qe], by omega, .inr ⟨w.heap.size, cap, Qah _ _ _, by simp, ⟨cur, hb.ty, hcur, by rw [Nat.zero_add]; exact hs⟩, by omega⟩⟩
theorem Qp8 {o : Oper} {t e : TypeId} {n by_ : Nat} {z : PV} {l c : Operand} {pl pc : PV} {d : Nat} {Q : Exit -> Act -> World -> Prop} (ho : o.op = .makeSlice t l c) (hd : o.dst = some d) (hlt : d < C.N) (hdef : a.defers = []) (h : Qg C ρ fr hp a.tmps w)
  (hu : C.P.underlying t = some (.slice e)) (hz : Qck C.P e = some (n, by_, z)) (hl : Qb C ρ hp w pl (a.eval l)) (hc : Qb C ρ hp w pc (a.eval c)) (hv : mkK n by_ e z pl pc d fr hp K) : o.wp C.P a w (Qx C true w K) Q := by
 unfold mkK at hv;split at hv
 ·rename_i kl L kc Cc;obtain ⟨h0, h1, h2, h3, h4, h5, hK⟩ := hv;obtain ⟨ti, zv, i1, i2, i3, i4, i5⟩ := Qcv hz;have el := hl.int_inv;have ec := hc.int_inv;have hrow := (Qbf (w := w) (X := Xof C ρ hp) i5).cells;have hzs : zv.cells.size = n := by rw [hrow.1]; exact h1
  have hrun := run_make (P := C.P) w t e ti zv hu i1 i2 kl kc L Cc h2 h3 (by rw [i4]; exact h4) h5;rw [i3] at hrun;obtain ⟨hs, he⟩ := h.newBlock d (Qid hlt) ⟨n, e, List.replicate L.toNat z, false⟩ (madeCells zv.cells (Cc.toNat * n)) Cc.toNat _ (.inl rfl) (size_madeCells _ _) (by simp; omega) (by rw [Qav]; omega) h0
   (fun i x hx => by have hx' := List.mem_of_getElem? hx;obtain rfl := (List.mem_replicate.1 hx').2;exact ⟨h1, (Qdb i5).1⟩)
   (fun i x hx j y hy => by
    have hi : i < L.toNat := by have := (List.getElem?_eq_some_iff.1 hx).1; simpa using this
    obtain rfl := (List.mem_replicate.1 (List.mem_of_getElem? hx)).2;have hj : j < n := by have := (List.getElem?_eq_some_iff.1 hy).1; omega
    have hlt2 : i * n + 0 + j < Cc.toNat * n := Qcw (by omega) (by omega : 0 + n <= n) hj;rw [Qie (by omega) (by omega), hzs, Qj2 hj];exact hrow.2 j y hy)
  refine Qan (v :=.slice (some ⟨w.heap.size, 0, none⟩) L.toNat Cc.toNat) ?_ (Qx.ofBlock hd hlt hdef hs (fun _ => he) (Qsc (by simp) (Q0 w _) (size_madeCells _ _) (by rw [Qav]; omega)) hK);unfold execOp;simp only [ho, el, ec, Sem.run_bind, hrun, Result.andThen_ok];rfl
 ·exact hv.elim
end Go.FW
namespace Go.FW
open Go
variable {C : Ctx} {ρ : Nat -> Option Nat} {fr : Fr} {hp : HP} {w : World} {a : Act} {K : Qa}
theorem Qhj (n : Nat) : ∀ (xs : List (List PV)) (s : Nat) (pre rest : List PV), (∀ x ∈ xs, x.length = n) -> pre.length = s * n -> rest.length = xs.length * n ->
  Qa6 (pre ++ rest) ((xs.zipIdx s).map fun p => (p.2 * n, p.1)) = pre ++ xs.flatten
 | [], s, pre, rest, _, _, hr => by simp at hr; subst hr;simp [Qa6]
 | x :: xs, s, pre, rest, hx, hp, hr => by
  have hxn := hx x (by simp);simp only [List.zipIdx_cons, List.map_cons, Qa6];have e1 : (pre ++ rest).take (s * n) = pre := by rw [<- hp]; exact List.take_left
  have e2 : (pre ++ rest).drop (s * n + x.length) = rest.drop n := by rw [hxn, <- hp, <- List.drop_drop, List.drop_left]
  rw [e1, e2];have hlen : (pre ++ x).length = (s + 1) * n := by simp [hp, hxn, Nat.add_mul]
  have hrest : (rest.drop n).length = xs.length * n := by simp [hr, Nat.add_mul]
  rw [Qhj n xs (s + 1) (pre ++ x) (rest.drop n) (fun y hy => hx y (by simp [hy])) hlen hrest];simp
theorem Qj3 {n : Nat} (hn : 0 < n) : ∀ (xs : List (List PV)) (i j : Nat) (x : List PV) (y : PV), (∀ x ∈ xs, x.length = n) -> xs[i]? = some x -> x[j]? = some y -> xs.flatten[i * n + j]? = some y
 | [], i, j, x, y, _, h, _ => by simp at h
 | z :: xs, 0, j, x, y, hl, h, hy => by simp at h; subst h;have hj : j < z.length := (List.getElem?_eq_some_iff.1 hy).1;simp only [List.flatten_cons, Nat.zero_mul, Nat.zero_add];rw [List.getElem?_append_left hj]; exact hy
 | z :: xs, i + 1, j, x, y, hl, h, hy => by simp at h;have hz := hl z (by simp);simp only [List.flatten_cons];rw [List.getElem?_append_right (by rw [hz, Nat.add_mul]; omega)];rw [show (i + 1) * n + j - z.length = i * n + j by rw [hz, Nat.add_mul]; omega];exact Qj3 hn xs i j x y (fun q hq => hl q (by simp [hq])) h hy
theorem Qjd {parts : List (Nat × Operand)} {len i : Nat} {p : Nat × Operand} (h : parts.map (·.1) = List.range len) (hp : parts[i]? = some p) : p.1 = i := by
 have h1 : (parts.map (·.1))[i]? = some p.1 := by simp [hp]
 rw [h] at h1;have hi : i < len := by have := (List.getElem?_eq_some_iff.1 h1).1; simpa using this
 rw [List.getElem?_range hi] at h1;simp at h1; exact h1.symm
theorem Qn2 {X : Nat -> Prop} {e : TypeId} {n N by_ : Nat} {z : PV} {zv : Value} (i5 : Qcs zv = some z) (hz : z.cells.length = n) (hn : 0 < n) :
  Rows w X ((List.range N).map fun k => z.cells.getD (k % n) .undef) ((Array.range N).map (zv.cells[· % zv.cells.size]!)) := by
 have hrow := (Qbf (w := w) (X := X) i5).cells;refine ⟨by simp, fun i x hx =>?_⟩;have hi : i < N := by have := (List.getElem?_eq_some_iff.1 hx).1; simpa using this
 simp only [List.getElem?_map, List.getElem?_range hi, Option.map_some, Option.some.injEq] at hx;have hm : i % n < z.cells.length := by rw [hz]; exact Nat.mod_lt _ hn
 have hx' : z.cells[i % n]? = some x := by rw [<- hx]; simp [hm]
 have := hrow.2 _ x hx';have hs : zv.cells.size = n := by rw [hrow.1]; exact hz
 have hm2 : i % n < zv.cells.size := by omega
 have e2 : ((Array.range N).map (zv.cells[· % zv.cells.size]!)).getD i undef = zv.cells.getD (i % n) undef := by have hmn : i % n < n := Nat.mod_lt _ hn;simp [Array.getD, hi, hs, hmn, getElem!_def, Array.getElem?_eq_getElem hm2]
 rw [e2]; exact this
theorem Qp9 {o : Oper} {t e : TypeId} {len n by_ : Nat} {z : PV} {parts : Array (Nat × Operand)} {ps : List Opd} {d : Nat} {Q : Exit -> Act -> World -> Prop} (ho : o.op = .buildSlice t len parts) (hd : o.dst = some d) (hlt : d < C.N) (hdef : a.defers = []) (h : Qg C ρ fr hp a.tmps w)
  (hu : C.P.underlying t = some (.slice e)) (hz : Qck C.P e = some (n, by_, z)) (hrange : parts.toList.map (·.1) = List.range len) (hsmall : len * n <= 16777216) (hzn : z.cells.length = n) (hps : (parts.toList.mapM fun p => opd p.2) = some ps)
  (hv : bsO n e (ps.map (ev fr)) d fr hp K) : o.wp C.P a w (Qx C true w K) Q := by
 obtain ⟨h0, hok, hK⟩ := hv;obtain ⟨ti, zv, i1, i2, i3, i4, i5⟩ := Qcv hz;obtain ⟨m1, m2⟩ := Qbl hps;have hlen : parts.toList.length = len := by have := congrArg List.length hrange; simpa using this
 have hpl : ps.length = len := by omega
 let xs : List (List PV) := (ps.map (ev fr)).map fun p => (Qh hp p).cells
 have hxl : ∀ x ∈ xs, x.length = n := by intro x hx;simp only [xs, List.mem_map] at hx;obtain ⟨p, ⟨q, hq, rfl⟩, rfl⟩ := hx;exact (hok _ (List.mem_map.2 ⟨q, hq, rfl⟩)).2
 have hxlen : xs.length = len := by simp [xs, hpl]
 have hev : (parts.map fun (x : Nat × Operand) => (x.1, a.eval x.2)).toList = parts.toList.map fun x => (x.1, a.eval x.2) := by simp
 have hbase : Rows w (Xof C ρ (Ql hp ((ps.map (ev fr)).flatMap PV.refs))) ((List.range (len * n)).map fun k => z.cells.getD (k % n) .undef) ((Array.range (len * n)).map ((if len * n = 0 then (#[] : Array Value) else zv.cells)[· % (if len * n = 0 then (#[] : Array Value) else zv.cells).size]!)) := by
  by_cases hl0 : len * n = 0
  ·rw [if_pos hl0, hl0]; exact ⟨by simp, by simp⟩
  ·rw [if_neg hl0]; exact Qn2 (e := e) (by_ := by_) i5 hzn h0
 obtain ⟨vs', g1, g2⟩ := Qee (fun i => some (i * n, n)) (parts.toList.map fun x => (x.1, a.eval x.2)) ((xs.zipIdx 0).map fun p => (p.2 * n, p.1)) _ _ hbase (by simp [hxlen, hlen]) (fun i p q hpi hqi => by
  simp only [List.getElem?_map, Option.map_eq_some_iff] at hpi hqi;obtain ⟨x, hx, rfl⟩ := hpi;obtain ⟨q0, hq0, rfl⟩ := hqi;rw [List.getElem?_zipIdx] at hq0;simp only [Option.map_eq_some_iff] at hq0;obtain ⟨y, hy, rfl⟩ := hq0;simp only [Nat.zero_add];have hyn := hxl y (List.mem_of_getElem? hy);simp only [xs, List.getElem?_map, Option.map_eq_some_iff] at hy;obtain ⟨pv, ⟨u, hu', rfl⟩, rfl⟩ := hy;obtain ⟨x', hx', ho'⟩ := m2 i u hu';rw [hx] at hx'; cases hx';have hi : i < len := by have := (List.getElem?_eq_some_iff.1 hx).1; omega
  obtain ⟨o1, o2⟩ := hok (ev fr u) (List.mem_map.2 ⟨u, List.mem_of_getElem? hu', rfl⟩);refine ⟨by rw [Qjd hrange hx, hyn], (Qb0 h (Qj h ho') (fun β hβ => List.mem_flatMap.2 ⟨_, List.mem_map.2 ⟨u, List.mem_of_getElem? hu', rfl⟩, hβ⟩) o1).rows, ?_⟩;rw [hyn]; simp;have : (i + 1) * n <= len * n := Nat.mul_le_mul_right n hi;rw [Nat.add_mul] at this; omega)
 have hflat := Qhj n xs 0 [] ((List.range (len * n)).map fun k => z.cells.getD (k % n) .undef) hxl (by simp) (by simp [hxlen]);simp only [List.nil_append] at hflat;rw [hflat] at g2;have hfl : xs.flatten.length = len * n := by
  have := g2.1;have hb := hbase.1;have h2 : Qa6 ((List.range (len * n)).map fun k => z.cells.getD (k % n) .undef) ((xs.zipIdx 0).map fun p => (p.2 * n, p.1)) = xs.flatten := hflat;rw [List.length_flatten];have : xs.map List.length = List.replicate xs.length n := by apply List.ext_getElem (by simp);intro i h1 h2;simp only [List.getElem_map, List.getElem_replicate];exact hxl _ (List.getElem_mem _)
  rw [this, List.sum_replicate_nat, hxlen]
 have hvs : vs'.size = len * n := by rw [g2.1, hfl]
 obtain ⟨hs, he⟩ := (h.freeze ((ps.map (ev fr)).flatMap PV.refs)).newBlock d (Qid hlt) ⟨n, e, (ps.map (ev fr)).map (Qh hp), false⟩ vs' len _ (.inl rfl) hvs (by simp [hpl]) (by rw [Qav]; have : len * 1 <= len * n := Nat.mul_le_mul_left len h0; omega) h0
  (fun i x hx => by simp only [List.getElem?_map, Option.map_eq_some_iff] at hx;obtain ⟨p, ⟨u, hu', rfl⟩, rfl⟩ := hx;obtain ⟨o1, o2⟩ := hok (ev fr u) (List.mem_map.2 ⟨u, List.mem_of_getElem? hu', rfl⟩);exact ⟨o2, o1⟩)
  (fun i x hx j y hy => by refine g2.2 _ y (Qj3 h0 xs i j x.cells y hxl ?_ hy);simp only [List.getElem?_map, Option.map_eq_some_iff, xs] at hx ⊢;obtain ⟨p, hp1, rfl⟩ := hx;exact ⟨p, hp1, rfl⟩)
 refine Qan (v :=.slice (some ⟨w.heap.size, 0, none⟩) len len) ?_ (Qx.ofBlock hd hlt hdef hs (fun _ => he) ?_ hK)
 ·unfold execOp;have hsm : ¬ (len * n > 2 ^ 24) := by omega
  have hpe : (parts.map fun x => match x with | (i, x) => (i, a.eval x)).toList = parts.toList.map fun x => (x.1, a.eval x.2) := hev;simp only [ho, Instr.buildSlice, Sem.run_bind, Qi hu, Result.andThen_ok, Qad (show tsz C.P e = some n by simp [tsz, i1, i3]), if_neg hsm, hpe];by_cases hl0 : len * n = 0
  ·simp only [if_pos hl0] at g1 ⊢;simp only [Sem.run_pure, Result.andThen_ok, Sem.run_bind, g1, newRow];simp
  ·simp only [if_neg hl0] at g1 ⊢;simp only [Sem.run_pure, Result.andThen_ok, Sem.run_bind, Qbd i1 i2, g1, newRow];simp
 ·rw [show (ps.map (ev fr)).length = len by simp [hpl]];exact Qsc (by simp [hpl]) (Q0 w _) hvs (by rw [Qav]; have : len * 1 <= len * n := Nat.mul_le_mul_left len h0; omega)
theorem Qdf (w : World) (b : Nat) (cur : Array Value) : Ext (fun c => c = b) w (w.setRow b cur) :=
 ⟨rfl, rfl, rfl, by simp, fun k hk hn => setRow_other w b k _ hn⟩
theorem Qcx {cur : Array Value} {p : Nat} {cs : List Value} {k : Nat} (hle : p + cs.length <= cur.size) (hk : k < cur.size) :
  ((cur.toList.take p ++ cs ++ cur.toList.drop (p + cs.length)).toArray).getD k undef = if p <= k /\ k < p + cs.length then cs.getD (k - p) undef else cur.getD k undef := by
 have hk' : k < cur.toList.length := by simpa using hk
 have ht : (cur.toList.take p).length = p := by simp; omega
 simp only [Array.getD_eq_getD_getElem?, List.getElem?_toArray, List.append_assoc, List.getD_eq_getElem?_getD];rw [List.getElem?_append, ht];by_cases c1 : k < p
 ·rw [if_pos c1, if_neg (by omega), List.getElem?_take_of_lt c1]; simp
 ·rw [if_neg c1, List.getElem?_append];by_cases c2 : k - p < cs.length
  ·rw [if_pos c2, if_pos (by omega)]
  ·rw [if_neg c2, if_neg (by omega), List.getElem?_drop];rw [show p + cs.length + (k - p - cs.length) = k by omega]; simp
theorem Qcy {cur : Array Value} {p : Nat} {cs : List Value} (hle : p + cs.length <= cur.size) : ((cur.toList.take p ++ cs ++ cur.toList.drop (p + cs.length)).toArray).size = cur.size := by simp; omega
theorem Qf2 {P : Program} {t : TypeId} {n b off : Nat} {ty : TypeId} {v : Value} {cur : Array Value} (hn : tsz P t = some n) (hs : v.cells.size = n) (hg : w.heap[b]? = some (.cells cur ty (0, 0))) (hle : off + n <= cur.size) (h1 : ∀ u ∈ v.cells.toList, u.oneCell' = true) :
  (storeVar t ⟨b, off, none⟩ v).run P w = .ok () (w.setRow b (cur.toList.take off ++ v.cells.toList ++ cur.toList.drop (off + n)).toArray) := by
 unfold storeVar;have hst := run_storeCells_at P b off ty v.cells.toList 0 cur w hg (by simp [hs]; omega) h1;simp only [Nat.add_zero, Array.length_toList, hs] at hst;have hne : ¬ (v.cells.size ≠ n) := by simp [hs]
 simp only [Sem.run_bind, Qad hn, Result.andThen_ok, if_neg hne];exact hst
theorem Qqa {x : PV} {o : Nat} {v : PV} {j : Nat} (hl : o + v.cells.length <= x.cells.length) (hj : j < x.cells.length) :
  (stV x o v).cells[j]? = if o <= j /\ j < o + v.cells.length then v.cells[j - o]? else x.cells[j]? := by
 show (x.cells.take o ++ v.cells ++ x.cells.drop (o + v.cells.length))[j]? = _;rw [List.append_assoc];have ht : (x.cells.take o).length = o := by simp; omega
 rw [List.getElem?_append, ht];by_cases c1 : j < o
 ·rw [if_pos c1, if_neg (by omega), List.getElem?_take_of_lt c1]
 ·rw [if_neg c1, List.getElem?_append];by_cases c2 : j - o < v.cells.length
  ·rw [if_pos c2, if_pos (by omega)]
  ·rw [if_neg c2, if_neg (by omega), List.getElem?_drop];rw [show o + v.cells.length + (j - o - v.cells.length) = j by omega]
theorem Qui {x : PV} {o : Nat} {v : PV} (hl : o + v.cells.length <= x.cells.length) : (stV x o v).cells.length = x.cells.length := by show (List.take o x.cells ++ v.cells ++ List.drop (o + v.cells.length) x.cells).length = _;simp; omega
theorem Qj4 {e i j m k n : Nat} (hj : j < e) (hk : k + n <= e) (hne : i ≠ m) : ¬ (m * e + k <= i * e + j /\ i * e + j < m * e + k + n) := by
 intro ⟨h1, h2⟩;rcases Nat.lt_or_gt_of_ne hne with h | h
 ·have : (i + 1) * e <= m * e := Nat.mul_le_mul_right e h;rw [Nat.add_mul] at this; omega
 ·have : (m + 1) * e <= i * e := Nat.mul_le_mul_right e h;rw [Nat.add_mul] at this; omega
theorem Qfg {l : List PV} {i k : Nat} {nx x : PV} (h : (l.set i nx)[k]? = some x) : (i = k /\ x = nx) ∨ (i ≠ k /\ l[k]? = some x) := by
 by_cases hik : i = k
 ·subst hik;have hi : i < l.length := by have := (List.getElem?_eq_some_iff.1 h).1; simpa using this
  rw [List.getElem?_set_self hi] at h;cases h; exact .inl ⟨rfl, rfl⟩
 ·rw [List.getElem?_set_ne hik] at h; exact .inr ⟨hik, h⟩
theorem Qaz.ncells {p : PV} {v : Value} (h : Qaz C ρ hp w p v) : p.ncells = [p] := by
 cases p with
 | agg => cases h
 | rag => cases h
 | _ => rfl
theorem Qhk {l : List PV} (h : ∀ c ∈ l, c.ncells = [c]) : (Qb5 l).ncells = l := by
 unfold Qb5;split
 ·exact h _ (by simp)
 ·exact Qk3 _
theorem Qlj {py : PV} {v : Value} {cs : List PV} (h : Qb C ρ hp w py v) (hs : stN py = some cs) : v.cells.size = cs.length /\ (∀ (j : Nat) (y : PV), cs[j]? = some y -> Qaz C ρ hp w y (v.cells.getD j undef)) /\ ∀ u ∈ v.cells.toList, u.oneCell' = true := by
 have one : ∀ {p : PV}, Qaz C ρ hp w p v -> p ≠ .undef -> cs = [p] -> v.cells.size = cs.length /\ (∀ (j : Nat) (y : PV), cs[j]? = some y -> Qaz C ρ hp w y (v.cells.getD j undef)) /\ ∀ u ∈ v.cells.toList, u.oneCell' = true := by
  rintro p hr hu rfl;obtain ⟨h1, h2⟩ := hr.oneCell hu;rw [h2];refine ⟨rfl, fun j y hy =>?_, fun u hu' =>?_⟩
  ·match j, hy with
   | 0, hy => simp at hy; subst hy; exact hr
   | j + 1, hy => simp at hy
  ·simp at hu'; subst hu'; exact h1
 cases py with
 | rag cs' =>
  simp only [stN] at hs;split at hs
  ·rename_i hall;simp only [Option.some.injEq] at hs;subst hs;obtain ⟨vs, rfl, h1, h2⟩ := h;refine ⟨h1, h2, fun u hu =>?_⟩;obtain ⟨j, hj, rfl⟩ := List.getElem_of_mem hu;have hj' : j < vs.size := by simpa [Value.cells] using hj
   have hp : j < cs'.length := by omega
   have h3 := h2 j cs'[j] (List.getElem?_eq_getElem hp);have h4 := List.all_eq_true.1 hall cs'[j] (List.getElem_mem hp);have := (h3.oneCell (fun e => by rw [e] at h4; cases h4)).1;simpa [Array.getD, hj', Value.cells] using this
  ·cases hs
 | nso γ o n => simp only [stN, Option.some.injEq] at hs; exact one (p :=.nso γ o n) h (by simp) hs.symm
 | mso β o n =>
  simp only [stN] at hs;split at hs
  ·rename_i hB; simp only [Option.some.injEq] at hs; exact one (p :=.mso β o n) ⟨hB, h⟩ (by simp) hs.symm
  ·cases hs
 | int k n => simp only [stN, Option.some.injEq] at hs; exact one (p :=.int k n) h (by simp) hs.symm
 | bool b => simp only [stN, Option.some.injEq] at hs; exact one (p :=.bool b) h (by simp) hs.symm
 | nilS => simp only [stN, Option.some.injEq] at hs; exact one (p :=.nilS) h (by simp) hs.symm
 | sl e xs => simp only [stN, Option.some.injEq] at hs; exact one (p :=.sl e xs) h (by simp) hs.symm
 | pt cs' => simp only [stN, Option.some.injEq] at hs; exact one (p :=.pt cs') h (by simp) hs.symm
 | agg cs' =>simp only [stN, Option.some.injEq] at hs; subst hs;have hr : Qk w (Xof C ρ hp) (.agg cs') v := h;obtain ⟨h1, h2⟩ := hr.cells;exact ⟨h1, fun j y hy => Qaz.ofC (h2 j y hy), hr.oneCells⟩
 | _ => cases hs
theorem Qg.nestStore {tmps : Array Value} {w' : World} (h : Qg C ρ fr hp tmps w) {γ b e ty : Nat} {hb : HB} {xs' : List PV} {cur' : Array Value} {cap : Nat} (hB : isB γ = true) (he : 0 < e) (hγ : hp γ = some hb) (hfz : hb.fz = false) (hx0 : hb.xs = []) (he1 : hb.e = e) (ht : hb.ty = ty) (hρ : ρ γ = some b)
  (hx : Ext (fun c => c = b) w w') (hcap : ∀ e cap, Qam w b e cap -> Qam w' b e cap) (h1 : w'.heap[b]? = some (.cells cur' ty (0, 0))) (h2 : cur'.size = cap * e) (h3 : xs'.length <= cap) (h4 : cap <= maxLen)
  (h5 : ∀ (i : Nat) (x : PV), xs'[i]? = some x -> x.ncells.length = e) (h6 : ∀ (i : Nat) (x : PV), xs'[i]? = some x -> ∀ (j : Nat) (y : PV), x.ncells[j]? = some y -> Qaz C ρ hp w y (cur'.getD (i * e + j) undef)) :
  Qg C ρ (FW.upd (Qbe γ fr) γ (.nst γ e ty xs')) hp tmps w' := by
 have hbX : Xof C ρ hp b :=.inr ⟨γ, hb, hγ, hfz, hρ⟩;have hnr : isR γ = false := by
  cases hq : isR γ with
  | false => rfl
  | true => have := (h.own γ hb hγ).ro hq; rw [hfz] at this; cases this
 have hc' : Qe8 w w' (Xof C ρ hp) (Xof C ρ hp) := ⟨fun c hc hn => hx.block c hc (fun e => hn (e ▸ hbX)), fun _ _ hn => hn, hx.size⟩
 have hown := (h.own γ hb hγ).blk;rw [hρ] at hown;have hext : Ext C.Y0 C.w0 w' := by refine h.ext.trans' (Y' := fun c => c = b) hx ?_;intro c hc he;subst he;exact (Ctx.cls_or hown.1 hnr).resolve_left (by omega)
 have hkeep : ∀ β c, C.fx β = some c -> ∀ e cap, Qam C.w0 c e cap -> Qam w' c e cap := fun b0 c hc' e cap hcc => by
  have h1' := h.keep b0 c hc' e cap hcc;by_cases hcb : c = b
  ·rw [hcb] at h1' ⊢; exact hcap e cap h1'
  ·exact Qak (hx.block c (Qa7 h1') hcb) h1'
 have hun : ∀ β hg c, β ≠ γ -> hp β = some hg -> ρ β = some c -> ¬ c = b := fun β hg c hne hhg hr e => hne (h.inj β γ b (by simp [hhg]) (by simp [hγ]) (e ▸ hr) hρ);have c0 : ∀ β, Qib ρ ρ hp hp w w' β := fun β => ⟨rfl, fun hg hhg => ⟨hg, hhg, rfl, Nat.le_refl _, fun c cap hr hcc => by
  by_cases hne : β = γ
  ·subst hne; rw [hρ] at hr; cases hr; exact hcap _ _ hcc
  ·exact Qak (hx.block c (Qa7 hcc) (hun β hg c hne hhg hr)) hcc⟩⟩
 refine ⟨h.sz, hext, hkeep, fun β hg hβ =>?_, h.inj, fun i =>?_⟩
 ·obtain ⟨p1, p2, p3, p4, p5⟩ := h.own β hg hβ;refine ⟨p1, p2, ?_, p4, p5⟩;by_cases hne : β = γ
  ·subst hne;rw [hγ] at hβ; cases hβ;rw [hρ] at p3 ⊢;exact ⟨p3.1, Nat.lt_of_lt_of_le p3.2.1 hx.size, cur', cap, by rw [h1, ht], by rw [he1]; exact h2, by rw [hx0]; simp, h4, by rw [hx0]; simp⟩
  ·cases hr : ρ β with
   | none => rw [hr] at p3; exact p3
   | some c =>rw [hr] at p3;exact ⟨p3.1, Nat.lt_of_lt_of_le p3.2.1 hx.size, p3.2.2.move (hx.block c p3.2.1 (hun β hg c hne hβ hr)) rfl rfl rfl hc'.rc⟩
 ·unfold FW.upd;split
  ·exact ⟨hB, he, b, hb, cur', cap, hρ, hγ, hx0, he1, ht, h1, h2, h3, h4, h5, fun i x hi j y hy => (h6 i x hi j y hy).move hc' (fun β _ => c0 β)⟩
  ·have hsl := h.slots i;unfold Qbe;generalize fr i = p at hsl;have mv : (∀ γ' e ty xs, p = .nst γ' e ty xs -> γ' ≠ γ) -> Qb C ρ hp w' p (tmps.getD i undef) := fun hq =>
    hsl.move hc' (fun β _ => ⟨(c0 β).r, (c0 β).h⟩) (fun β _ => c0 β) (fun γ' e ty xs e1 => ⟨rfl, fun hg hhg => by have hne := hq γ' e ty xs e1;refine ⟨hg, hhg, rfl, Nat.le_refl _, fun c cap hr hcc => Qak (hx.block c (Qa7 hcc) (hun γ' hg c hne hhg hr)) hcc, fun he => ⟨he, rfl, fun c hr => hx.block c ?_ (hun γ' hg c hne hhg hr)⟩⟩;have := (h.own γ' hg hhg).blk;rw [hr] at this; exact this.2.1⟩)
   cases p with
   | nst γ' e' ty' xs =>
    simp only [Qbi];split
    ·trivial
    ·rename_i hne; exact mv (fun _ _ _ _ e1 => by cases e1; exact hne)
   | _ => exact mv (fun _ _ _ _ e1 => by cases e1)
theorem Qj5 {l cs : List PV} {o j : Nat} (hl : o + cs.length <= l.length) (hj : j < l.length) : (Qeo l o cs)[j]? = if o <= j /\ j < o + cs.length then cs[j - o]? else l[j]? := by
 unfold Qeo;rw [List.append_assoc];have ht : (l.take o).length = o := by simp; omega
 rw [List.getElem?_append, ht];by_cases c1 : j < o
 ·rw [if_pos c1, if_neg (by omega), List.getElem?_take_of_lt c1]
 ·rw [if_neg c1, List.getElem?_append];by_cases c2 : j - o < cs.length
  ·rw [if_pos c2, if_pos (by omega)]
  ·rw [if_neg c2, if_neg (by omega), List.getElem?_drop];rw [show o + cs.length + (j - o - cs.length) = j by omega]
theorem Qg3 {l cs : List PV} {o : Nat} (hl : o + cs.length <= l.length) : (Qeo l o cs).length = l.length := by unfold Qeo; simp; omega
theorem Qqb {o : Oper} {t : TypeId} {n : Nat} {x y : Operand} {px py : PV} {Q : Exit -> Act -> World -> Prop} (ho : o.op = .store t x y) (hd : o.dst = none) (hdef : a.defers = []) (h : Qg C ρ fr hp a.tmps w)
  (hn : tsz C.P t = some n) (hx : Qb C ρ hp w px (a.eval x)) (hy : Qb C ρ hp w py (a.eval y)) (hv : stK n px py fr hp K) : o.wp C.P a w (Qx C false w K) Q := by
 unfold stK at hv;split at hv
 ·rename_i β i o';split at hv
  ·rename_i hb hβ;obtain ⟨h1, h2, h3, h4, h5, hK⟩ := hv;obtain ⟨b, hb0, g1, g2, ex⟩ := hx.mp_inv;obtain ⟨hb1, g3, e1, e2, e3, e4, _⟩ := Qdv (l := py.refs) g2;rw [hβ] at g3; cases g3;have hbb := e4 h1;subst hbb;have hf := h.freeze py.refs;have hr := Qb0 h hy (fun β hβ => hβ) h2;have hvc := hr.cells;have hown := hf.own β hb hβ;have hblk := hown.blk;rw [g1] at hblk;obtain ⟨b1, b2, cur, cap, c1, c2, c3, c4, c5⟩ := hblk;have hxi := List.getElem?_eq_getElem h4;have hcl := (hown.len i _ hxi).1;have hvs : (a.eval y).cells.size = n := by rw [hvc.1, h3]
   have hin : i * hb.e + o' + n <= cur.size := by rw [c2];have : (i + 1) * hb.e <= cap * hb.e := Nat.mul_le_mul_right _ (by omega);rw [Nat.add_mul] at this; omega
   have hrun := Qf2 (P := C.P) (w := w) (off := i * hb.e + o') hn hvs c1 hin hr.oneCells;have hvl : (a.eval y).cells.toList.length = n := by simp [hvs]
   have hsp : ∀ k, k < cur.size -> ((cur.toList.take (i * hb.e + o') ++ (a.eval y).cells.toList ++ cur.toList.drop (i * hb.e + o' + n)).toArray).getD k undef = if i * hb.e + o' <= k /\ k < i * hb.e + o' + n then (a.eval y).cells.getD (k - (i * hb.e + o')) undef else cur.getD k undef := by intro k hk;have := Qcx (cur := cur) (p := i * hb.e + o') (cs := (a.eval y).cells.toList) (k := k) (by omega) hk;rw [hvl] at this;rw [this];simp [Array.getD_eq_getD_getElem?, List.getD_eq_getElem?_getD]
   have hss : ((cur.toList.take (i * hb.e + o') ++ (a.eval y).cells.toList ++ cur.toList.drop (i * hb.e + o' + n)).toArray).size = cur.size := by
    have := Qcy (cur := cur) (p := i * hb.e + o') (cs := (a.eval y).cells.toList) (by omega)
    rwa [hvl] at this
   have hnew : (if n = hb.e then Qh hp py else stV (hb.xs[i]'h4) o' (Qh hp py)).cells.length = hb.e /\ (if n = hb.e then Qh hp py else stV (hb.xs[i]'h4) o' (Qh hp py)).isData = true := by
    by_cases hc : n = hb.e
    ·rw [if_pos hc]; exact ⟨by omega, h2⟩
    ·rw [if_neg hc]; exact ⟨by rw [Qui (by omega)]; exact hcl, rfl⟩
   obtain ⟨nx, hnx⟩ : ∃ nx, nx = (if n = hb.e then Qh hp py else stV (hb.xs[i]'h4) o' (Qh hp py)) := ⟨_, rfl⟩
   rw [<- hnx] at hK hnew;have hst := hf.store β b hb { hb with xs := hb.xs.set i nx } hβ h1 (by intro e; rw [e] at h4; simp at h4) g1 (Qdf w b _) rfl (by simp) h1
    (fun k x hk => by
     rcases Qfg hk with ⟨_, rfl⟩ | ⟨_, hk⟩
     ·exact hnew
     ·exact hown.len k x hk)
    (fun e' cap' hcap => by obtain ⟨cur', ty', d1, d2⟩ := hcap;rw [c1] at d1; cases d1;exact ⟨_, _, setRow_heap w b cur _ hb.ty _ c1, by rw [hss]; exact d2⟩)
    ⟨_, cap, setRow_heap w b cur _ hb.ty _ c1, by rw [hss]; exact c2, by simpa using c3, c4, fun k x hk j z hz => by
     have hkl : k < hb.xs.length := by have := (List.getElem?_eq_some_iff.1 hk).1; simpa using this
     have hxl : x.cells.length = hb.e := by
      rcases Qfg hk with ⟨_, rfl⟩ | ⟨_, hk⟩
      ·exact hnew.1
      ·exact (hown.len k x hk).1
     have hj : j < hb.e := by have := (List.getElem?_eq_some_iff.1 hz).1; omega
     have hlt : k * hb.e + 0 + j < cap * hb.e := Qcw (by omega) (by omega : 0 + hb.e <= hb.e) hj;show Qc w _ z (Array.getD _ (k * hb.e + j) undef);rw [hsp _ (by omega)];rcases Qfg hk with ⟨hki, hxn⟩ | ⟨hki, hk⟩
     ·subst hki; subst hxn;by_cases hc : n = hb.e
      ·rw [hnx, if_pos hc] at hz;have ho0 : o' = 0 := by omega
       subst ho0;rw [if_pos (by omega)];rw [show i * hb.e + j - (i * hb.e + 0) = j by omega];exact hvc.2 j z hz
      ·rw [hnx, if_neg hc] at hz;rw [Qqa (by omega) (by omega), h3] at hz;by_cases hjr : o' <= j /\ j < o' + n
       ·rw [if_pos hjr] at hz;rw [if_pos (by omega)];rw [show i * hb.e + j - (i * hb.e + o') = j - o' by omega];exact hvc.2 _ z hz
       ·rw [if_neg hjr] at hz;rw [if_neg (by omega)];exact c5 i _ hxi j z hz
     ·rw [if_neg (Qj4 hj (by omega) (fun e => hki e.symm))];exact c5 k x hk j z hz⟩
   unfold Oper.wp;have hex : (execOp a.eval o).run C.P w = .ok .skip (w.setRow b (cur.toList.take (i * hb.e + o') ++ (a.eval y).cells.toList ++ cur.toList.drop (i * hb.e + o' + n)).toArray) := by unfold execOp;simp only [ho, ex, Sem.run_bind, Instr.storeAt, Instr.sureAddr, Sem.run_pure, Result.andThen_ok, hrun]
   rw [hex];refine ⟨by rw [Qb1]; exact hdef, ⟨fr, _, ⟨ρ, ?_⟩, hK⟩, by simp⟩;rw [hd]; exact hst
  ·exact hv.elim
 ·rename_i γ i o';split at hv
  ·rename_i γ' e ty xs hγ;obtain ⟨rfl, ⟨hb, k1, k2⟩, h1, h2, hv⟩ := hv;split at hv
   ·rename_i cs hcs;obtain ⟨h3, hK⟩ := hv;obtain ⟨r1, r2, r3⟩ := Qlj hy hcs;obtain ⟨hB, b, hb', g1, g2, ex⟩ := hx.np_inv;rw [k1] at g2; cases g2;have hsl := h.slots γ';rw [hγ] at hsl;obtain ⟨_, he0, b', hb', cur, cap, q1, q2, q3, q4, q5, q6, q7, q8, q9, q10, q11⟩ := hsl;rw [g1] at q1; cases q1;rw [k1] at q2; cases q2;rw [q4] at ex;have hxi := List.getElem?_eq_getElem h1;have hcl := q10 i _ hxi;have hvs : (a.eval y).cells.size = n := by rw [r1, h3]
    have hin : i * e + o' + n <= cur.size := by rw [q7];have : (i + 1) * e <= cap * e := Nat.mul_le_mul_right _ (by omega);rw [Nat.add_mul] at this; omega
    have hrun := Qf2 (P := C.P) (w := w) (off := i * e + o') hn hvs q6 hin r3;have hvl : (a.eval y).cells.toList.length = n := by simp [hvs]
    have hsp : ∀ k, k < cur.size -> ((cur.toList.take (i * e + o') ++ (a.eval y).cells.toList ++ cur.toList.drop (i * e + o' + n)).toArray).getD k undef = if i * e + o' <= k /\ k < i * e + o' + n then (a.eval y).cells.getD (k - (i * e + o')) undef else cur.getD k undef := by intro k hk;have := Qcx (cur := cur) (p := i * e + o') (cs := (a.eval y).cells.toList) (k := k) (by omega) hk;rw [hvl] at this;rw [this];simp [Array.getD_eq_getD_getElem?, List.getD_eq_getElem?_getD]
    have hss : ((cur.toList.take (i * e + o') ++ (a.eval y).cells.toList ++ cur.toList.drop (i * e + o' + n)).toArray).size = cur.size := by
     have := Qcy (cur := cur) (p := i * e + o') (cs := (a.eval y).cells.toList) (by omega)
     rwa [hvl] at this
    generalize (cur.toList.take (i * e + o') ++ (a.eval y).cells.toList ++ cur.toList.drop (i * e + o' + n)).toArray = W at hrun hsp hss;have hsl2 : o' + cs.length <= (xs[i]).ncells.length := by rw [hcl, h3]; exact h2
    have hcell : ∀ c ∈ Qeo (xs[i]).ncells o' cs, c.ncells = [c] := by
     intro c hc;obtain ⟨j, hj⟩ := List.getElem?_of_mem hc;have hjl : j < (xs[i]).ncells.length := by have := (List.getElem?_eq_some_iff.1 hj).1; rwa [Qg3 hsl2] at this
     rw [Qj5 hsl2 hjl] at hj;split at hj
     ·exact (r2 _ c hj).ncells
     ·exact (q11 i _ hxi j c hj).ncells
    have hel := Qhk hcell;have hst := h.nestStore (w' := w.setRow b W) (xs' := xs.set i (Qb5 (Qeo (xs[i]).ncells o' cs))) (cur' := W) (cap := cap) hB he0 k1 k2 q3 q4 q5 g1 (Qdf w b W)
     (fun e2 cap2 hcp => by obtain ⟨cur2, ty2, d1, d2⟩ := hcp;rw [q6] at d1; cases d1;exact ⟨_, _, setRow_heap w b cur _ ty _ q6, by rw [hss]; exact d2⟩)
     (setRow_heap w b cur W ty _ q6) (by rw [hss]; exact q7) (by simpa using q8) q9
     (fun k x hk => by
      rcases Qfg hk with ⟨_, rfl⟩ | ⟨_, hk⟩
      ·rw [hel, Qg3 hsl2]; exact hcl
      ·exact q10 k x hk)
     (fun k x hk j y' hy' => by
      rcases Qfg hk with ⟨rfl, rfl⟩ | ⟨hne, hk⟩
      ·rw [hel] at hy';have hjl : j < (xs[i]).ncells.length := by have := (List.getElem?_eq_some_iff.1 hy').1; rwa [Qg3 hsl2] at this
       have hje : j < e := by omega
       have hlt2 : i * e + 0 + j < cap * e := Qcw (n := e) (by omega) (by omega) hje;rw [Qj5 hsl2 hjl] at hy';rw [hsp _ (by omega)];split at hy'
       ·rename_i hr;rw [if_pos (by omega), show i * e + j - (i * e + o') = j - o' by omega];exact r2 _ y' hy'
       ·rename_i hr;rw [if_neg (by omega)];exact q11 i _ hxi j y' hy'
      ·have hkl : k < xs.length := (List.getElem?_eq_some_iff.1 hk).1;have hje : j < e := by have := (List.getElem?_eq_some_iff.1 hy').1; have := q10 k x hk; omega
       have hlt2 : k * e + 0 + j < cap * e := Qcw (n := e) (by omega) (by omega) hje;rw [hsp _ (by omega), if_neg (Qj4 hje h2 (fun e => hne e.symm))];exact q11 k x hk j y' hy')
    unfold Oper.wp;have hex : (execOp a.eval o).run C.P w = .ok .skip (w.setRow b W) := by unfold execOp;simp only [ho, ex, Sem.run_bind, Instr.storeAt, Instr.sureAddr, Sem.run_pure, Result.andThen_ok, hrun]
    rw [hex];refine ⟨by rw [Qb1]; exact hdef, ⟨_, hp, ⟨ρ, ?_⟩, hK⟩, by simp⟩;rw [hd]; exact hst
   ·exact hv.elim
  ·exact hv.elim
 ·exact hv.elim
end Go.FW
namespace Go.FW
open Go
variable {C : Ctx} {ρ : Nat -> Option Nat} {fr : Fr} {hp : HP} {w : World} {a : Act} {K : Qa}
theorem Qj6 {X : Nat -> Prop} {x : PV} {e : Nat} {f : Nat -> Value} (he : x.cells.length = e) (h0 : 0 < e) (hr : ∀ (j : Nat) (y : PV), x.cells[j]? = some y -> Qc w X y (f j)) : x.isData = true := by
 by_cases ha : ∃ cs, x = .agg cs
 ·obtain ⟨cs, rfl⟩ := ha; rfl
 ·have hc : x.cells = [x] := by
   cases x with
   | agg cs => exact absurd ⟨cs, rfl⟩ ha
   | _ => rfl
  have := hr 0 x (by rw [hc]; rfl);exact Qk.data (Qk.of_c this)
theorem Qga {e : Nat} {px : PV} {v : Value} {ys : List PV} {e' : Nat} (h : Qg C ρ fr hp a.tmps w) (hx : Qb C ρ hp w px v) (hs : Qb3 hp px = some (e', ys)) (h0 : 0 < e) (hee : e' = e ∨ ys = []) :
  ∃ ad cap, v = .slice ad ys.length cap /\ (ys ≠ [] -> ∃ (b off : Nat) (f : Nat -> Value), ad = some ⟨b, off, none⟩ /\ (∀ k, k < ys.length * e -> w.cell? ⟨b, off + k, none⟩ = some (f k)) /\
   ∀ (i : Nat) (y : PV), ys[i]? = some y -> y.cells.length = e /\ y.isData = true /\ ∀ (j : Nat) (z : PV), y.cells[j]? = some z -> Qc w (Xof C ρ hp) z (f (i * e + j))) := by
 cases px with
 | nilS =>simp [Qb3] at hs;obtain ⟨rfl, rfl⟩ := hs;exact ⟨none, 0, hx.nil_inv, fun hn => absurd rfl hn⟩
 | sl e2 xs =>
  simp [Qb3] at hs;obtain ⟨rfl, rfl⟩ := hs;have hx' : Qc w (Xof C ρ hp) (.sl e2 xs) v := hx;cases hx' with
  | slE _ ad cap hc => exact ⟨ad, cap, rfl, fun hn => absurd rfl hn⟩
  | sl _ _ b off cap vs hX hb hl hc he hv hr =>
   refine ⟨_, cap, rfl, fun hn =>?_⟩;obtain rfl : e2 = e := hee.resolve_right hn;refine ⟨b, off, fun k => vs (k / e2) (k % e2), rfl, fun k hk =>?_, fun i y hy =>?_⟩
   ·have h1 : k / e2 < xs.length := (Nat.div_lt_iff_lt_mul h0).2 hk;have h2 := Nat.mod_lt k h0;have := hv _ h1 _ h2;rw [Nat.add_assoc, Nat.mul_comm, Nat.div_add_mod] at this;exact this
   ·have hcl := he i y hy;refine ⟨hcl, Qj6 hcl h0 (hr i y hy), fun j z hz =>?_⟩;have hj : j < e2 := by have := (List.getElem?_eq_some_iff.1 hz).1; omega
    show Qc w _ z (vs ((i * e2 + j) / e2) ((i * e2 + j) % e2));rw [Qp7 hj, Qj2 hj];exact hr i y hy j z hz
 | mso β o n =>
  simp only [Qb3, Option.map_eq_some_iff, Prod.mk.injEq] at hs;obtain ⟨hb, hβ, he1, rfl⟩ := hs;obtain ⟨hb2, g1, g2, g3⟩ := hx;rw [hβ] at g1; cases g1;have hlen : ((hb.xs.drop o).take n).length = n := by simp; omega
  rcases g3 with ⟨g3, rfl, rfl, rfl⟩ | ⟨b, cap, g3, rfl, g5, g6⟩
  ·exact ⟨none, 0, by simp, fun hn => absurd (by simp) hn⟩
  ·refine ⟨_, cap, by rw [hlen], fun hn =>?_⟩;have hown := h.own β hb hβ;have hblk := hown.blk;rw [g3] at hblk;obtain ⟨_, hlt, cur, cap', c1, c2, c3, c4, c5⟩ := hblk;have hee' : hb.e = e := by
    rcases hee with hee | hee
    ·omega
    ·exact absurd hee hn
   refine ⟨b, o * hb.e, fun k => cur.getD (o * hb.e + k) undef, rfl, fun k hk =>?_, fun i y hy =>?_⟩
   ·rw [hlen] at hk;have : (o + n) * e <= cap' * e := Nat.mul_le_mul_right e (by omega);rw [Nat.add_mul] at this;exact Qap c1 (by rw [c2, hee']; omega)
   ·have hi : i < n := by have := (List.getElem?_eq_some_iff.1 hy).1; omega
    rw [List.getElem?_take_of_lt hi, List.getElem?_drop] at hy;obtain ⟨l1, l2⟩ := hown.len _ y hy;refine ⟨by omega, l2, fun j z hz =>?_⟩;have := c5 _ y hy j z hz;rw [Nat.add_mul, Nat.add_assoc] at this
    rwa [hee'] at this ⊢
 | _ => simp [Qb3] at hs
theorem Qe0 {P : Program} {t ty e : TypeId} {i : TypeInfo} (ht : P.underlying t = some (.slice e)) (hi : P.info? e = some i) {base ad : Option Addr} {n cap c : Nat} (hle : n <= cap) (w : World) :
  (Builtin.append_ #[t, t] ty #[.slice base n cap, .slice ad 0 c]).run P w = .ok (.slice base n cap) w := by
 cases ad <;> cases base <;> simp [Builtin.append_, run_underlying ht, sizeOf, typeInfo, hi, Builtin.lenOf, Builtin.firstCells, hle, storeCells, loadCells, loadCellsFrom]
theorem Qa9 {P : Program} {o : Oper} {s x : Operand} {t : TypeId} (ho : o.op = .call { callee :=.builtin .append, args := #[s, x], argTypes := #[t, t] }) {vs vx v : Value} {w w' : World} (es : a.eval s = vs) (ex : a.eval x = vx)
  (hr : (Builtin.append_ #[t, t] o.type #[vs, vx]).run P w = .ok v w') : (execOp a.eval o).run P w = .ok (.value v) w' := by
 unfold execOp;simp only [ho, resolve, Sem.run_bind, Sem.run_pure, Result.andThen_ok, invoke, builtin];simp [es, ex, hr]
def Qai (f : Nat -> Value) (n : Nat) : List Value := (List.range n).map f
theorem Qbu (f : Nat -> Value) (n : Nat) : (Qai f n).length = n := by simp [Qai]
theorem Qdg {f : Nat -> Value} {n j : Nat} {u : Value} (h : (Qai f n)[j]? = some u) : j < n /\ u = f j := by
 have hj : j < n := by have := (List.getElem?_eq_some_iff.1 h).1; simpa [Qai] using this
 simp only [Qai, List.getElem?_map, List.getElem?_range hj, Option.map_some, Option.some.injEq] at h;exact ⟨hj, h.symm⟩
theorem Qd0 {f : Nat -> Value} {n j : Nat} (h : j < n) : (Qai f n).getD j undef = f j := by simp [Qai, List.getD_eq_getElem?_getD, h]
theorem Qbn (l : List Value) (k : Nat) : l.toArray.getD k undef = l.getD k undef := by simp [Array.getD_eq_getD_getElem?, List.getD_eq_getElem?_getD]
theorem Qa0 (xs ys : Array Value) (k : Nat) : (xs ++ ys).getD k undef = if k < xs.size then xs.getD k undef else ys.getD (k - xs.size) undef := by simp only [Array.getD_eq_getD_getElem?, Array.getElem?_append];split <;> rfl
theorem Qc4 {n m e i j : Nat} (h0 : i < m) (hj : j < e) : i * e + j < m * e /\ (n + i) * e + j = n * e + (i * e + j) := by
 constructor
 ·have : (i + 1) * e <= m * e := Nat.mul_le_mul_right e h0;rw [Nat.add_mul] at this; omega
 ·rw [Nat.add_mul]; omega
theorem Qbv {β : Nat} {p : PV} {v : Value} (h : Qaz C ρ hp w p v) : Qaz C ρ hp w (Qba β p) v /\ ∀ γ ∈ (Qba β p).sref1, γ ≠ β := by
 cases p with
 | mso β' o n =>
  simp only [Qba];split
  ·exact ⟨trivial, fun γ hγ => by cases hγ⟩
  ·rename_i hne;exact ⟨h, fun γ hγ => by simp [PV.sref1] at hγ; subst hγ; exact hne⟩
 | nso γ' o n =>
  simp only [Qba];split
  ·exact ⟨trivial, fun γ hγ => by cases hγ⟩
  ·rename_i hne;exact ⟨h, fun γ hγ => by simp [PV.sref1] at hγ; subst hγ; exact hne⟩
 | np => cases h
 | _ => exact ⟨h, fun γ hγ => by cases hγ⟩
theorem Qbo {l : List PV} {f : PV -> PV} {i : Nat} {y : PV} (h : (l.map f)[i]? = some y) : ∃ x, l[i]? = some x /\ y = f x := by simp only [List.getElem?_map, Option.map_eq_some_iff] at h;obtain ⟨x, h1, h2⟩ := h;exact ⟨x, h1, h2.symm⟩
theorem Qc6 {β : Nat} : Qic C ρ hp w β fr (Qay β fr) := by
 intro i v h;unfold Qay;generalize fr i = p at h;have kill : Q1 β p = Qn β p -> (∀ γ ∈ p.sref, γ ≠ β) -> Qb C ρ hp w (Q1 β p) v /\ (∀ γ ∈ (Q1 β p).refs, γ ≠ β) /\ ∀ γ ∈ (Q1 β p).sref, γ ≠ β := fun e hs => by
  rw [e];refine ⟨Qb.kill h, fun γ hγ => (Qhh γ hγ).1, fun γ hγ =>?_⟩;unfold Qn at hγ;split at hγ
  ·cases hγ
  ·exact hs γ hγ
 cases p with
 | nst γ e ty xs =>
  simp only [Q1];split
  ·exact ⟨trivial, fun γ hγ => (by cases hγ), fun γ hγ => by cases hγ⟩
  ·rename_i hne;obtain ⟨h0, he, b, hb, cur, cap, h1, h2, h3, h4, h5, h6, h7, h8, h9, h10, h11⟩ := h;have hcell : ∀ (i : Nat) (x : PV), xs[i]? = some x -> (Qb5 (x.ncells.map (Qba β))).ncells = x.ncells.map (Qba β) := fun i x hi => Qhk fun c hc => by obtain ⟨d, hd, rfl⟩ := List.mem_map.1 hc;obtain ⟨j, hj⟩ := List.getElem?_of_mem hd;exact (Qbv (h11 i x hi j d hj)).1.ncells
   refine ⟨⟨h0, he, b, hb, cur, cap, h1, h2, h3, h4, h5, h6, h7, by simpa using h8, h9, fun i x hi =>?_, fun i x hi j y hy =>?_⟩, fun γ hγ => (by cases hγ), fun γ' hγ =>?_⟩
   ·obtain ⟨x0, hx0, rfl⟩ := Qbo hi;rw [hcell i x0 hx0, List.length_map]; exact h10 i x0 hx0
   ·obtain ⟨x0, hx0, rfl⟩ := Qbo hi;rw [hcell i x0 hx0] at hy;obtain ⟨y0, hy0, rfl⟩ := Qbo hy;exact (Qbv (h11 i x0 hx0 j y0 hy0)).1
   ·rcases List.mem_cons.1 hγ with rfl | hγ
    ·exact hne
    ·obtain ⟨x, hx, hγ⟩ := List.mem_flatMap.1 hγ;obtain ⟨y, hy, hγ⟩ := List.mem_flatMap.1 hγ;obtain ⟨i, hi⟩ := List.getElem?_of_mem hx;obtain ⟨x0, hx0, rfl⟩ := Qbo hi;rw [hcell i x0 hx0] at hy;obtain ⟨j, hj⟩ := List.getElem?_of_mem hy;obtain ⟨y0, hy0, rfl⟩ := Qbo hj;exact (Qbv (h11 i x0 hx0 j y0 hy0)).2 γ' hγ
 | rag cs =>
  obtain ⟨vs, rfl, h1, h2⟩ := h;refine ⟨⟨vs, rfl, by simpa using h1, fun i x hi =>?_⟩, fun γ hγ => (by cases hγ), fun γ hγ =>?_⟩
  ·obtain ⟨x0, hx0, rfl⟩ := Qbo hi;exact (Qbv (h2 i x0 hx0)).1
  ·obtain ⟨x, hx, hγ⟩ := List.mem_flatMap.1 hγ;obtain ⟨i, hi⟩ := List.getElem?_of_mem hx;obtain ⟨x0, hx0, rfl⟩ := Qbo hi;exact (Qbv (h2 i x0 hx0)).2 γ hγ
 | rtp cs =>
  obtain ⟨vs, rfl, h1, h2⟩ := h;refine ⟨⟨vs, rfl, by simpa using h1, fun i x hi =>?_⟩, fun γ hγ => (by cases hγ), fun γ hγ =>?_⟩
  ·obtain ⟨x0, hx0, rfl⟩ := Qbo hi;exact (Qbv (h2 i x0 hx0)).1
  ·obtain ⟨x, hx, hγ⟩ := List.mem_flatMap.1 hγ;obtain ⟨i, hi⟩ := List.getElem?_of_mem hx;obtain ⟨x0, hx0, rfl⟩ := Qbo hi;exact (Qbv (h2 i x0 hx0)).2 γ hγ
 | rtq cs q =>
  obtain ⟨vs, u, rfl, h1, h2, h3⟩ := h;refine ⟨⟨vs, u, rfl, by simpa using h1, fun i x hi =>?_, h3⟩, fun γ hγ => (by cases hγ), fun γ hγ =>?_⟩
  ·obtain ⟨x0, hx0, rfl⟩ := Qbo hi;exact (Qbv (h2 i x0 hx0)).1
  ·obtain ⟨x, hx, hγ⟩ := List.mem_flatMap.1 hγ;obtain ⟨i, hi⟩ := List.getElem?_of_mem hx;obtain ⟨x0, hx0, rfl⟩ := Qbo hi;exact (Qbv (h2 i x0 hx0)).2 γ hγ
 | nso γ o n =>
  simp only [Q1];split
  ·exact ⟨trivial, fun γ hγ => (by cases hγ), fun γ hγ => by cases hγ⟩
  ·rename_i hne; exact ⟨h, fun γ hγ => (by cases hγ), fun γ' hγ => by simp [PV.sref] at hγ; subst hγ; exact hne⟩
 | np γ o n =>
  simp only [Q1];split
  ·exact ⟨trivial, fun γ hγ => (by cases hγ), fun γ hγ => by cases hγ⟩
  ·rename_i hne; exact ⟨h, fun γ hγ => (by cases hγ), fun γ' hγ => by simp [PV.sref] at hγ; subst hγ; exact hne⟩
 | fn f first cap =>
  by_cases hc : (first.flatMap PV.nref1 ++ cap.flatMap PV.nref1).contains β = true
  ·simp only [Q1, hc, if_true];exact ⟨trivial, fun γ hγ => (by cases hγ), fun γ hγ => by cases hγ⟩
  ·exact kill (by simp only [Q1, hc]; rfl) (fun γ hγ e => hc (by subst e; exact List.contains_iff_mem.2 hγ))
 | _ => exact kill rfl (fun γ hγ => by cases hγ)
end Go.FW
namespace Go.FW
open Go
variable {C : Ctx} {ρ : Nat -> Option Nat} {fr : Fr} {hp : HP} {w : World} {a : Act} {K : Qa}
theorem Qlk {o : Oper} {s x : Operand} {t e : TypeId} {n by_ : Nat} {z : PV} {px : PV} {ys : List PV} {e' d : Nat} {β : Nat} {fr' : Fr} {Q : Exit -> Act -> World -> Prop}
  (ho : o.op = .call { callee :=.builtin .append, args := #[s, x], argTypes := #[t, t] }) (hd : o.dst = some d) (hlt : d < C.N) (hdef : a.defers = []) (h : Qg C ρ fr hp a.tmps w)
  (hu : C.P.underlying t = some (.slice e)) (hz : Qck C.P e = some (n, by_, z)) (hx : Qb C ρ hp w px (a.eval x)) (hsrc : Qb3 hp px = some (e', ys)) (h0 : 0 < n) (hzn : z.cells.length = n) (hee : e' = n ∨ ys = [])
  (es : a.eval s = .slice none 0 0) (hb : ys.length * by_ <= 140737488355328) (hm : ys.length <= 9223372036854775807)
  (hgone : Qic C ρ hp w β fr fr') (hB : isY β = false)
  (hK : K (upd fr' d (.ms β ys.length)) (Qe hp β ⟨n, e, ys, false⟩)) : o.wp C.P a w (Qx C false w K) Q := by
 obtain ⟨ti, zv, i1, i2, i3, i4, i5⟩ := Qcv hz;obtain ⟨ad, cap, ex, hcells⟩ := Qga h hx hsrc h0 hee;by_cases hys : ys = []
 ·subst hys;have hrun := Qe0 (P := C.P) (ty := o.type) (ad := ad) (c := cap) hu i1 (base := none) (n := 0) (cap := 0) (Nat.le_refl 0) w;have hs := h.rebindG (w' := w) β none ⟨n, e, [], false⟩ hB hgone (Ext.refl _ _) (by simp) h0 (by simp) (by simp) (by simp);refine Qan (Qa9 ho es ex hrun) (Qx.ofBlock hd hlt hdef hs (by simp) ?_ hK);exact ⟨⟨n, e, [], false⟩, by simp [Qe], by simp, .inl ⟨Qah _ _ _, rfl, rfl, rfl⟩⟩
 ·obtain ⟨b, off, f, rfl, hf, hel⟩ := hcells hys;have hl0 : 0 < ys.length := List.length_pos_iff.2 hys;have hrun := run_append_nil (P := C.P) w t o.type e ti zv hu i1 i2 ⟨b, off, none⟩ ys.length cap (Qai f (ys.length * n)) (by rw [Qbu, i3])
   (fun j v hj => by obtain ⟨hj', rfl⟩ := Qdg hj; rw [Addr.add_lit]; exact hf j hj') hl0 (by omega) (by rw [i4]; omega)
  have hge := grownCap_ge w ys.length 0 e;have hcm := grownCap_le_maxLen w ys.length 0 e (by rw [Qav]; exact hm);generalize grownCap w ys.length 0 e = G at hrun hge hcm;have hzs : zv.cells.size = n := by have := (Qbf (w := w) (X := Xof C ρ hp) i5).cells.1; omega
  obtain ⟨hs, hext⟩ := h.newBlockG β hB hgone ⟨n, e, ys, false⟩ ((Qai f (ys.length * n)).toArray ++ Builtin.zeroCells zv.cells (G - ys.length)) G _ (.inr rfl)
   (by simp [Qbu, size_zeroCells, hzs, <- Nat.add_mul]; congr 1; omega) hge hcm h0 (fun i y hy => ⟨(hel i y hy).1, (hel i y hy).2.1⟩)
   (fun i y hy j z hz => by
    have hi : i < ys.length := (List.getElem?_eq_some_iff.1 hy).1;have hj : j < n := by have := (List.getElem?_eq_some_iff.1 hz).1; have := (hel i y hy).1; omega
    obtain ⟨q1, _⟩ := Qc4 (n := 0) hi hj;show Qc w _ z (Array.getD _ (i * n + j) undef);rw [Qa0, if_pos (by simpa [Qbu] using q1)];have := (hel i y hy).2.2 j z hz;rw [Qbn, Qd0 q1];exact this)
  refine Qan (Qa9 ho es ex hrun) (Qx.ofBlock hd hlt hdef hs (by simp) ?_ hK);exact ⟨⟨n, e, ys, false⟩, by simp [Qe], by simp, .inr ⟨w.heap.size, G, Qah _ _ _, by simp, ⟨_, e, Q0 w.drew _, by simp [Qbu, size_zeroCells, hzs, <- Nat.add_mul]; congr 1; omega⟩, by omega⟩⟩
theorem Qll {o : Oper} {s x : Operand} {t e : TypeId} {n by_ : Nat} {z : PV} {px : PV} {ys : List PV} {e' d : Nat} {β m : Nat} {hb : HB} {fr' : Fr} {Q : Exit -> Act -> World -> Prop}
  (ho : o.op = .call { callee :=.builtin .append, args := #[s, x], argTypes := #[t, t] }) (hd : o.dst = some d) (hlt : d < C.N) (hdef : a.defers = []) (h : Qg C ρ fr hp a.tmps w)
  (hu : C.P.underlying t = some (.slice e)) (hz : Qck C.P e = some (n, by_, z)) (hx : Qb C ρ hp w px (a.eval x)) (hsrc : Qb3 hp px = some (e', ys)) (h0 : 0 < n) (hzn : z.cells.length = n) (hee : e' = n ∨ ys = [])
  (hs : Qb C ρ hp w (.ms β m) (a.eval s)) (hgone : Qic C ρ hp w β fr fr') (hB : isY β = false) (hβ : hp β = some hb) (hfz : hb.fz = false) (hbe : hb.e = n) (hbt : hb.ty = e) (hml : m <= hb.xs.length)
  (hbytes : (m + ys.length) * by_ <= 140737488355328) (hmax : m + ys.length <= 9223372036854775807)
  (hK : K (upd fr' d (.ms β (m + ys.length))) (Qe hp β ⟨n, e, hb.xs.take m ++ ys, false⟩)) : o.wp C.P a w (Qx C false w K) Q := by
 obtain ⟨hb2, g1, g2, g3⟩ := hs;rw [hβ] at g1; cases g1;have htl : (hb.xs.take m).length = m := by simp; omega
 rw [Nat.zero_add] at g2;rcases g3 with ⟨g3, es, rfl, _⟩ | ⟨b, cap, g3, es, g5, g6⟩
 ·simp only [Nat.zero_add, List.take_zero, List.nil_append] at hK hbytes hmax;exact Qlk ho hd hlt hdef h hu hz hx hsrc h0 hzn hee es hbytes hmax hgone hB hK
 rw [Nat.zero_mul] at es;rw [Nat.zero_add] at g5 g6;obtain ⟨ti, zv, i1, i2, i3, i4, i5⟩ := Qcv hz;obtain ⟨ad, scap, ex, hcells⟩ := Qga h hx hsrc h0 hee;have hown := h.own β hb hβ;have hblk := hown.blk;rw [g3] at hblk;obtain ⟨b1, b2, cur, cap', c1, c2, c3, c4, c5⟩ := hblk;replace b1 := Ctx.cls_N b1 hB;obtain ⟨cur', ty', d1, d2⟩ := g5;rw [c1] at d1; cases d1;obtain rfl : cap' = cap := Nat.eq_of_mul_eq_mul_right hown.epos (by omega);subst hbt;subst hbe;have hfree : Xof C ρ hp b :=.inr ⟨β, hb, hβ, hfz, g3⟩;have hlens : ∀ (i : Nat) (x : PV), (hb.xs.take m ++ ys)[i]? = some x -> (i < m /\ hb.xs[i]? = some x) ∨ (m <= i /\ ys[i - m]? = some x) := by
  intro i x hx';rw [List.getElem?_append, htl] at hx';by_cases hi : i < m
  ·rw [if_pos hi, List.getElem?_take_of_lt hi] at hx'; exact .inl ⟨hi, hx'⟩
  ·rw [if_neg hi] at hx'; exact .inr ⟨by omega, hx'⟩
 by_cases hys : ys = []
 ·subst hys;have hrun := Qe0 (P := C.P) (ty := o.type) (ad := ad) (c := scap) hu i1 (base := some ⟨b, 0, none⟩) (n := m) (cap := cap') (by omega) w;have hr := h.rebindG (w' := w) β (some b) ⟨hb.e, hb.ty, hb.xs.take m ++ [], false⟩ hB hgone (Ext.refl _ _) (fun c hc => by cases hc; exact ⟨b1, b2, .inr ⟨g3, hb, hβ, hfz⟩⟩) hown.epos
   (fun i x hx' => by
    rcases hlens i x hx' with ⟨_, hq⟩ | ⟨_, hq⟩
    ·exact hown.len i x hq
    ·simp at hq) (by simp)
   (fun c hc => by
    cases hc;refine ⟨cur, cap', c1, c2, by simp; omega, c4, fun i x hx' j y hy =>?_⟩;rcases hlens i x hx' with ⟨_, hq⟩ | ⟨_, hq⟩
    ·exact c5 i x hq j y hy
    ·simp at hq)
  refine Qan (Qa9 ho es ex hrun) (Qx.ofBlock hd hlt hdef hr (by simp) ?_ hK);exact ⟨⟨hb.e, hb.ty, hb.xs.take m ++ [], false⟩, by simp [Qe], by simp; omega, .inr ⟨b, cap', Qah _ _ _, by simp, ⟨cur, hb.ty, c1, by rw [Nat.zero_add]; exact c2⟩, by omega⟩⟩
 obtain ⟨sb, off, f, rfl, hf, hel⟩ := hcells hys;have hl0 : 0 < ys.length := List.length_pos_iff.2 hys;have hnews : ∀ (j : Nat) (v : Value), (Qai f (ys.length * hb.e))[j]? = some v -> w.cell? ((⟨sb, off, none⟩ : Addr).add j) = some v := fun j v hj => by obtain ⟨hj', rfl⟩ := Qdg hj; rw [Addr.add_lit]; exact hf j hj'
 have hone : ∀ u ∈ Qai f (ys.length * hb.e), u.oneCell' = true := by
  intro u hu';obtain ⟨k, hk⟩ := List.getElem?_of_mem hu';obtain ⟨hk', rfl⟩ := Qdg hk;have hi : k / hb.e < ys.length := (Nat.div_lt_iff_lt_mul h0).2 hk';have hj := Nat.mod_lt k h0;obtain ⟨l1, l2, l3⟩ := hel _ _ (List.getElem?_eq_getElem hi);have hjl : k % hb.e < (ys[k / hb.e]'hi).cells.length := by omega
  have := l3 _ _ (List.getElem?_eq_getElem hjl);rw [Nat.mul_comm, Nat.div_add_mod] at this;exact this.oneCell.1
 have hnl := Qbu f (ys.length * hb.e);have hmc : m * hb.e + (Qai f (ys.length * hb.e)).length = (m + ys.length) * hb.e := by rw [hnl, Nat.add_mul]
 by_cases hroom : m + ys.length <= cap'
 ·have hfit : m * hb.e + (Qai f (ys.length * hb.e)).length <= cur.size := by rw [hmc, c2]; exact Nat.mul_le_mul_right _ hroom
  have hrun := run_append_room (P := C.P) w t o.type hb.ty ti hu i1 b m cap' cur c1 ⟨sb, off, none⟩ ys.length scap (Qai f (ys.length * hb.e)) (by rw [hnl, i3]) hnews hone hroom (by rw [i3]; exact hfit);rw [i3] at hrun;have hss := Qcy (cur := cur) (p := m * hb.e) (cs := Qai f (ys.length * hb.e)) hfit;have hsp := fun k hk => Qcx (cur := cur) (p := m * hb.e) (cs := Qai f (ys.length * hb.e)) (k := k) hfit hk;generalize hW : (cur.toList.take (m * hb.e) ++ Qai f (ys.length * hb.e) ++ cur.toList.drop (m * hb.e + (Qai f (ys.length * hb.e)).length)).toArray = W at hrun hss hsp;have hr := h.rebindG (w' := w.setRow b W) β (some b) ⟨hb.e, hb.ty, hb.xs.take m ++ ys, false⟩ hB hgone ((Qdf w b W).mono (fun i _ hi => ⟨hi ▸ g3, hb, hβ, hfz⟩))
   (fun c hc => by cases hc; exact ⟨b1, by simpa using b2, .inr ⟨g3, hb, hβ, hfz⟩⟩) hown.epos
   (fun i x hx' => by
    rcases hlens i x hx' with ⟨_, hq⟩ | ⟨_, hq⟩
    ·exact hown.len i x hq
    ·exact ⟨(hel _ x hq).1, (hel _ x hq).2.1⟩) (by simp)
   (fun c hc => by
    cases hc;refine ⟨W, cap', setRow_heap w b cur W hb.ty _ c1, by rw [hss]; exact c2, by simp; omega, c4, fun i x hx' j y hy =>?_⟩;show Qc w _ y (Array.getD W (i * hb.e + j) undef);rcases hlens i x hx' with ⟨hi, hq⟩ | ⟨hi, hq⟩
    ·have hj : j < hb.e := by have := (List.getElem?_eq_some_iff.1 hy).1; have := (hown.len i x hq).1; omega
     have q1 := (Qc4 (n := 0) hi hj).1;have q2 : m * hb.e <= cap' * hb.e := Nat.mul_le_mul_right _ (by omega);rw [hsp _ (by omega), if_neg (by omega)];exact c5 i x hq j y hy
    ·have hi2 : i - m < ys.length := (List.getElem?_eq_some_iff.1 hq).1;have hj : j < hb.e := by have := (List.getElem?_eq_some_iff.1 hy).1; have := (hel _ x hq).1; omega
     obtain ⟨q1, q2⟩ := Qc4 (n := m) hi2 hj;rw [show m + (i - m) = i by omega] at q2;rw [hsp _ (by omega), if_pos (by omega), q2, show m * hb.e + ((i - m) * hb.e + j) - m * hb.e = (i - m) * hb.e + j by omega, Qd0 q1];exact (hel _ x hq).2.2 j y hy)
  refine Qan (Qa9 ho es ex hrun) (Qx.ofBlock hd hlt hdef hr (by simp) ?_ hK);exact ⟨⟨hb.e, hb.ty, hb.xs.take m ++ ys, false⟩, by simp [Qe], by simp; omega, .inr ⟨b, cap', Qah _ _ _, by simp, ⟨W, hb.ty, setRow_heap w b cur W hb.ty _ c1, by rw [hss, Nat.zero_add]; exact c2⟩, by omega⟩⟩
 ·have hmcap : m * hb.e <= cur.size := by rw [c2]; exact Nat.mul_le_mul_right _ (by omega)
  have hol : (cur.toList.take (m * hb.e)).length = m * hb.e := by simp; omega
  have holds : ∀ (j : Nat) (v : Value), (cur.toList.take (m * hb.e))[j]? = some v -> w.cell? ((⟨b, 0, none⟩ : Addr).add j) = some v := fun j v hj => by
   have hj' : j < m * hb.e := by have := (List.getElem?_eq_some_iff.1 hj).1; omega
   rw [List.getElem?_take_of_lt hj'] at hj;rw [Addr.add_lit, Nat.zero_add, Qap c1 (by omega), Qdx cur j v hj]
  have hrun := run_append_grow (P := C.P) w t o.type hb.ty ti zv hu i1 i2 ⟨b, 0, none⟩ m cap' (cur.toList.take (m * hb.e)) (by rw [hol, i3]) holds ⟨sb, off, none⟩ ys.length scap (Qai f (ys.length * hb.e)) (by rw [hnl, i3]) hnews
   (by omega) (by omega) (growslice_fits (by omega) (by rw [i4]; exact hbytes))
  have hge := grownCap_ge w (m + ys.length) cap' hb.ty;have hcm := grownCap_le_maxLen w (m + ys.length) cap' hb.ty (by rw [Qav]; exact hmax);generalize grownCap w (m + ys.length) cap' hb.ty = G at hrun hge hcm;have hzs : zv.cells.size = hb.e := by have := (Qbf (w := w) (X := Xof C ρ hp) i5).cells.1; omega
  have hcs : ((cur.toList.take (m * hb.e)).toArray ++ (Qai f (ys.length * hb.e)).toArray ++ Builtin.zeroCells zv.cells (G - (m + ys.length))).size = G * hb.e := by simp only [Array.size_append, List.size_toArray, hol, hnl, size_zeroCells, hzs, <- Nat.add_mul];congr 1; omega
  obtain ⟨hr, hext⟩ := h.newBlockG β hB hgone ⟨hb.e, hb.ty, hb.xs.take m ++ ys, false⟩ _ G _ (.inr rfl) hcs (by simp; omega) hcm hown.epos
   (fun i x hx' => by
    rcases hlens i x hx' with ⟨_, hq⟩ | ⟨_, hq⟩
    ·exact hown.len i x hq
    ·exact ⟨(hel _ x hq).1, (hel _ x hq).2.1⟩)
   (fun i x hx' j y hy => by
    show Qc w _ y (Array.getD _ (i * hb.e + j) undef);rcases hlens i x hx' with ⟨hi, hq⟩ | ⟨hi, hq⟩
    ·have hj : j < hb.e := by have := (List.getElem?_eq_some_iff.1 hy).1; have := (hown.len i x hq).1; omega
     have q1 := (Qc4 (n := 0) hi hj).1;rw [Qa0, if_pos (by simp only [Array.size_append, List.size_toArray, hol]; omega), Qa0, if_pos (by simp only [List.size_toArray, hol]; omega), Qbn,
      List.getD_eq_getElem?_getD, List.getElem?_take_of_lt q1]
     have := c5 i x hq j y hy;simpa [Array.getD_eq_getD_getElem?] using this
    ·have hi2 : i - m < ys.length := (List.getElem?_eq_some_iff.1 hq).1;have hj : j < hb.e := by have := (List.getElem?_eq_some_iff.1 hy).1; have := (hel _ x hq).1; omega
     obtain ⟨q1, q2⟩ := Qc4 (n := m) hi2 hj;rw [show m + (i - m) = i by omega] at q2;rw [q2, Qa0, if_pos (by simp only [Array.size_append, List.size_toArray, hol, hnl]; omega), Qa0, if_neg (by simp only [List.size_toArray, hol]; omega), Qbn];simp only [List.size_toArray, hol];rw [show m * hb.e + ((i - m) * hb.e + j) - m * hb.e = (i - m) * hb.e + j by omega, Qd0 q1];exact (hel _ x hq).2.2 j y hy)
  refine Qan (Qa9 ho es ex hrun) (Qx.ofBlock hd hlt hdef hr (by simp) ?_ hK);exact ⟨⟨hb.e, hb.ty, hb.xs.take m ++ ys, false⟩, by simp [Qe], by simp; omega, .inr ⟨w.heap.size, G, Qah _ _ _, by simp, ⟨_, hb.ty, Q0 w.drew _, by rw [Nat.zero_add]; exact hcs⟩, by omega⟩⟩
theorem Qn3 {o : Oper} {s x : Operand} {t e : TypeId} {n by_ : Nat} {z : PV} {ps px : PV} {d : Nat} {Q : Exit -> Act -> World -> Prop}
  (ho : o.op = .call { callee :=.builtin .append, args := #[s, x], argTypes := #[t, t] }) (hd : o.dst = some d) (hlt : d < C.N) (hdef : a.defers = []) (h : Qg C ρ fr hp a.tmps w)
  (hu : C.P.underlying t = some (.slice e)) (hz : Qck C.P e = some (n, by_, z)) (hzn : z.cells.length = n) (hs : Qb C ρ hp w ps (a.eval s)) (hx : Qb C ρ hp w px (a.eval x))
  (hnest : Qb3 hp px = none -> Qh9 n by_ e ps px d fr hp K -> o.wp C.P a w (Qx C false w K) Q) (hv : Qcl n by_ e ps px d fr hp K) : o.wp C.P a w (Qx C false w K) Q := by
 unfold Qcl at hv;split at hv
 ·exact hnest (by assumption) hv
 ·rename_i e' ys hsrc;obtain ⟨h0, hee, hv⟩ := hv;cases ps with
  | nilS =>obtain ⟨k1, k2, hK⟩ := hv;exact Qlk (β := d) ho hd hlt hdef h hu hz hx hsrc h0 hzn hee hs.nil_inv k1 k2 (Qex (Qid hlt)) (Qf4 (Qid hlt)) hK
  | mso β o' m =>
   cases o' with
   | succ o' => exact hv.elim
   | zero =>
   simp only at hv;split at hv
   ·rename_i hb hβ;rcases hv with ⟨k0, k1, k2, k3, k4, k5, k6, hK⟩ | ⟨k0, kY, ⟨_, k1, k2, k3, k4, k5, k6⟩, hK⟩
    ·exact Qll ho hd hlt hdef h hu hz hx hsrc h0 hzn hee hs (Qex k0) (Qf4 k0) hβ k1 k2 k3 k4 k5 k6 hK
    ·exact Qll ho hd hlt hdef h hu hz hx hsrc h0 hzn hee hs Qc6 kY hβ k1 k2 k3 k4 k5 k6 hK
   ·exact hv.elim
  | _ => exact hv.elim
theorem Qje {P : Program} {t ty e : TypeId} {n : Nat} (ht : P.underlying t = some (.slice e)) (hn : tsz P e = some n) {base ad : Option Addr} {dl dc sl sc : Nat} (hz : Nat.min sl dl = 0) (w : World) :
  (Builtin.copy_ #[t, t] ty #[.slice base dl dc, .slice ad sl sc]).run P w = .ok (goInt 0) w := by
 have hs := Qad hn;cases ad <;> cases base <;> simp [Builtin.copy_, run_underlying ht, hs, Builtin.lenOf, Builtin.firstCells, hz, storeCells, loadCells, loadCellsFrom]
theorem Qgu {P : Program} {o : Oper} {s x : Operand} {t : TypeId} (ho : o.op = .call { callee :=.builtin .copy, args := #[s, x], argTypes := #[t, t] }) {vs vx v : Value} {w w' : World} (es : a.eval s = vs) (ex : a.eval x = vx)
  (hr : (Builtin.copy_ #[t, t] o.type #[vs, vx]).run P w = .ok v w') : (execOp a.eval o).run P w = .ok (.value v) w' := by
 unfold execOp;simp only [ho, resolve, Sem.run_bind, Sem.run_pure, Result.andThen_ok, invoke, builtin];simp [es, ex, hr]
theorem Qjf {P : Program} (w : World) (t ty elem : TypeId) (g o dLen dCap n : Nat) (a : Addr) (sLen sCap : Nat) (cur : Array Value) (ty' : TypeId) (cs : List Value)
  (hu : P.underlying t = some (.slice elem)) (hs : tsz P elem = some n)
  (hg : w.heap[g]? = some (.cells cur ty' (0, 0))) (hn : cs.length = Nat.min sLen dLen * n)
  (hsrc : ∀ j v, cs[j]? = some v -> w.cell? (a.add j) = some v) (hfit : o + cs.length <= cur.size) (h1 : ∀ v ∈ cs, v.oneCell' = true) :
  (Builtin.copy_ #[t, t] ty #[.slice (some ⟨g, o, none⟩) dLen dCap, .slice (some a) sLen sCap]).run P w =
   .ok (goInt (Nat.min sLen dLen)) (w.setRow g (cur.toList.take o ++ cs ++ cur.toList.drop (o + cs.length)).toArray) := by
 have hl := run_loadCells_list (P := P) w a cs hsrc;have hst := run_storeCells_at P g o ty' cs 0 cur w hg (by simpa using hfit) h1;have hz := Qad hs;simp [Builtin.copy_, run_underlying hu, hz, Builtin.lenOf, Builtin.firstCells, <- hn, hl, hst]
theorem Qn4 {o : Oper} {s x : Operand} {t e : TypeId} {n : Nat} {ps px : PV} {d : Nat} {Q : Exit -> Act -> World -> Prop}
  (ho : o.op = .call { callee :=.builtin .copy, args := #[s, x], argTypes := #[t, t] }) (hd : o.dst = some d) (hlt : d < C.N) (hdef : a.defers = []) (h : Qg C ρ fr hp a.tmps w)
  (hu : C.P.underlying t = some (.slice e)) (hn : tsz C.P e = some n) (hs : Qb C ρ hp w ps (a.eval s)) (hx : Qb C ρ hp w px (a.eval x))
  (hv : Qia n ps px d fr hp K) : o.wp C.P a w (Qx C false w K) Q := by
 unfold Qia at hv;split at hv
 ·rename_i e' ys β m hsrc;split at hv
  ·rename_i hb hβ;obtain ⟨k0, k1, k2, k3, k4, hK⟩ := hv;obtain ⟨hb2, g1, g2, g3⟩ := hs;rw [hβ] at g1; cases g1;obtain ⟨ad, scap, ex, hcells⟩ := Qga (e := n) h hx hsrc k0 k3;have hown := h.own β hb hβ;have zero : Nat.min ys.length m = 0 -> o.wp C.P a w (Qx C false w K) Q := by
    intro h0;have hrun : ∀ base cap, a.eval s = .slice base m cap -> (execOp a.eval o).run C.P w = .ok (.value (goInt 0)) w := fun base cap es =>
     Qgu ho es ex (Qje (P := C.P) (ty := o.type) hu hn h0 w)
    have e2 : ({ hb with xs := ys.take m ++ hb.xs.drop ys.length } : HB) = hb := by
     have : ys.take m ++ hb.xs.drop ys.length = hb.xs := by
      rcases Nat.min_eq_zero_iff.1 h0 with hq | hq
      ·have : ys = [] := List.eq_nil_of_length_eq_zero hq;subst this; simp
      ·have : hb.xs = [] := List.eq_nil_of_length_eq_zero (by omega);subst hq; simp [this]
     rw [this]
    have e3 : Qe hp β hb = hp := by
     funext γ; unfold Qe; split
     ·rename_i he; rw [he, hβ]
     ·rfl
    rw [e2, e3, show (min (ys.length : Int) (m : Int)) = 0 by have : min ys.length m = 0 := h0; omega] at hK;obtain ⟨ad', cap', es⟩ := Qb.ms_inv (C := C) (ρ := ρ) (hp := hp) (w := w) ⟨hb, hβ, g2, g3⟩;exact Qan (hrun _ _ es) (Qx.ofBlock hd hlt hdef h (by simp) (Qb.mkInt _ _) hK)
   by_cases hmin : Nat.min ys.length m = 0
   ·exact zero hmin
   rcases g3 with ⟨g3, es, hm0, _⟩ | ⟨b, cap, g3, es, g5, g6⟩
   ·exact (hmin (by rw [hm0]; simp)).elim
   rw [Nat.zero_mul] at es;have hys : ys ≠ [] := by rintro rfl; exact hmin (by simp)
   obtain ⟨sb, off, f, rfl, hf, hel⟩ := hcells hys;have hblk := hown.blk;rw [g3] at hblk;obtain ⟨b1, b2, cur, cap', c1, c2, c3, c4, c5⟩ := hblk;obtain ⟨k, hk⟩ : ∃ k, k = min ys.length m := ⟨_, rfl⟩
   have hnl := Qbu f (k * n);have hkn : k * n <= ys.length * n := Nat.mul_le_mul_right _ (by omega);have hone : ∀ u ∈ Qai f (k * n), u.oneCell' = true := by
    intro u hu';obtain ⟨q, hq⟩ := List.getElem?_of_mem hu';obtain ⟨hq', rfl⟩ := Qdg hq;have hi : q / n < ys.length := (Nat.div_lt_iff_lt_mul k0).2 (by omega);have hj := Nat.mod_lt q k0;obtain ⟨l1, l2, l3⟩ := hel _ _ (List.getElem?_eq_getElem hi);have hjl : q % n < (ys[q / n]'hi).cells.length := by omega
    have := l3 _ _ (List.getElem?_eq_getElem hjl);rw [Nat.mul_comm, Nat.div_add_mod] at this;exact this.oneCell.1
   have hkc : k * n <= cap' * n := Nat.mul_le_mul_right _ (by omega);have hfit : 0 + (Qai f (k * n)).length <= cur.size := by rw [hnl, c2, k2]; omega
   have hrun := Qjf (P := C.P) w t o.type e b 0 m cap n ⟨sb, off, none⟩ ys.length scap cur hb.ty (Qai f (k * n)) hu hn c1 (by rw [hnl, hk])
    (fun j v hj => by obtain ⟨hj', rfl⟩ := Qdg hj; rw [Addr.add_lit]; exact hf j (by omega)) hfit hone
   have hss := Qcy (cur := cur) (p := 0) (cs := Qai f (k * n)) hfit;have hsp := fun q hq => Qcx (cur := cur) (p := 0) (cs := Qai f (k * n)) (k := q) hfit hq;generalize hW : (cur.toList.take 0 ++ Qai f (k * n) ++ cur.toList.drop (0 + (Qai f (k * n)).length)).toArray = W at hrun hss hsp;have hxl : (ys.take m ++ hb.xs.drop ys.length).length = hb.xs.length := by simp; omega
   have hget : ∀ (i : Nat) (x : PV), (ys.take m ++ hb.xs.drop ys.length)[i]? = some x -> (i < k /\ ys[i]? = some x) ∨ (k <= i /\ hb.xs[i]? = some x) := by
    intro i x hx';rw [List.getElem?_append] at hx';have ht : (ys.take m).length = k := by simp; omega
    rw [ht] at hx';by_cases hi : i < k
    ·rw [if_pos hi, List.getElem?_take_of_lt (by omega)] at hx'; exact .inl ⟨hi, hx'⟩
    ·rw [if_neg hi, List.getElem?_drop] at hx';refine .inr ⟨by omega, ?_⟩;have hil : ys.length + (i - k) < hb.xs.length := (List.getElem?_eq_some_iff.1 hx').1
     rwa [show ys.length + (i - k) = i by omega] at hx'
   have hst := h.store β b hb { hb with xs := ys.take m ++ hb.xs.drop ys.length } hβ k1 (by intro e; rw [e] at k4; simp at k4; exact hmin (by simp [k4])) g3 (Qdf w b W) rfl hxl k1
    (fun i x hx' => by
     rcases hget i x hx' with ⟨_, hq⟩ | ⟨_, hq⟩
     ·exact ⟨by rw [(hel _ x hq).1]; exact k2.symm, (hel _ x hq).2.1⟩
     ·exact hown.len i x hq)
    (fun e' cap2 hcap => by obtain ⟨cur', ty', d1, d2⟩ := hcap;rw [c1] at d1; cases d1;exact ⟨_, _, setRow_heap w b cur _ hb.ty _ c1, by rw [hss]; exact d2⟩)
    ⟨W, cap', setRow_heap w b cur W hb.ty _ c1, by rw [hss]; exact c2, by rw [hxl]; exact c3, c4, fun i x hx' j y hy => by
     show Qc w _ y (Array.getD W (i * hb.e + j) undef);rcases hget i x hx' with ⟨hi, hq⟩ | ⟨hi, hq⟩
     ·have hj : j < n := by have := (List.getElem?_eq_some_iff.1 hy).1; have := (hel _ x hq).1; omega
      have q1 := (Qc4 (n := 0) hi hj).1;rw [k2, hsp _ (by rw [c2, k2]; omega), if_pos (by omega), Nat.sub_zero, Qd0 q1];exact (hel _ x hq).2.2 j y hy
     ·have hil : i < hb.xs.length := (List.getElem?_eq_some_iff.1 hq).1;have hj : j < hb.e := by have := (List.getElem?_eq_some_iff.1 hy).1; have := (hown.len i x hq).1; omega
      have := c5 i x hq j y hy;have q2 : k * n <= i * n := Nat.mul_le_mul_right _ hi;have q3 := (Qc4 (n := 0) (show i < cap' by omega) (show j < n by omega)).1;rw [hsp _ (by rw [c2, k2]; omega), if_neg (by rw [k2]; omega)];exact this⟩
   rw [show (min (ys.length : Int) (m : Int)) = ((Nat.min ys.length m : Nat) : Int) by have : Nat.min ys.length m = min ys.length m := rfl; omega] at hK;exact Qan (Qgu ho es ex hrun) (Qx.ofBlock hd hlt hdef hst (by simp) (Qb.mkInt _ _) hK)
  ·exact hv.elim
 ·exact hv.elim
theorem Ql8 {o : Oper} {t : TypeId} {parts : Array (Nat × Operand)} {z : PV} {n by_ : Nat} {ps : List (Nat × Nat × Opd)} {d : Nat} (ho : o.op = .build t parts) (hd : o.dst = some d) (hlt : d < C.N) (h : Qg C ρ fr hp a.tmps w)
  (hz : Qck C.P t = some (n, by_, z)) (hps : Qf3 C.P t parts.toList = some ps)
  (hv : Qc5 z.cells.length (ps.map fun p => (p.1, p.2.1, ev fr p.2.2)) /\ K (upd fr d (.rag (Qa6 z.cells ((ps.map fun p => (p.1, p.2.1, ev fr p.2.2)).map fun p => (p.1, (stN p.2.2).getD []))))) hp) : Qd C ρ o a w K := by
 obtain ⟨hok, hK⟩ := hv;obtain ⟨ti, zv, i1, i2, i3, i4, i5⟩ := Qcv hz;have hzr : Qde (Qaz C ρ hp w) z.cells zv.cells := by have h0 : Rows w (Xof C ρ hp) z.cells zv.cells := (Qbf i5).rows;exact ⟨h0.1, fun i x hx => Qaz.ofC (h0.2 i x hx)⟩
 have hev : (parts.map fun (x : Nat × Operand) => (x.1, a.eval x.2)).toList = parts.toList.map fun x => (x.1, a.eval x.2) := by simp
 have key : ∀ (f : Nat × Operand -> Option (Nat × Nat × Opd)) (place : Nat -> Option (Nat × Nat)), parts.toList.mapM f = some ps -> (∀ x q, f x = some q -> place x.1 = some (q.1, q.2.1) /\ opd x.2 = some q.2.2) ->
   ∃ vs', Instr.fill place zv.cells (parts.map fun (x : Nat × Operand) => (x.1, a.eval x.2)).toList = some vs' /\
    Qde (Qaz C ρ hp w) (Qa6 z.cells ((ps.map fun p => (p.1, p.2.1, ev fr p.2.2)).map fun p => (p.1, (stN p.2.2).getD []))) vs' := by
  intro f place hm hf;rw [hev];refine Qee place _ _ _ _ hzr (by simp [(Qbl hm).1]) (fun i p q hpi hqi =>?_);simp only [List.map_map, List.getElem?_map, Option.map_eq_some_iff] at hqi;obtain ⟨q0, hq0, rfl⟩ := hqi;obtain ⟨x, hx, hfx, rfl⟩ := Qix hm hpi hq0;obtain ⟨f1, f2⟩ := hf x q0 hfx;obtain ⟨cs, o1, o2, o3⟩ := hok (q0.1, q0.2.1, ev fr q0.2.2) (List.mem_map.2 ⟨q0, List.mem_of_getElem? hq0, rfl⟩);simp only [Function.comp] at o1 o2 o3 ⊢;simp only [o1, Option.getD_some];obtain ⟨r1, r2, _⟩ := Qlj (Qj h f2) o1;exact ⟨by rw [o2]; exact f1, ⟨r1, r2⟩, by rw [o2]; exact o3⟩
 have fin : ∀ vs', (∀ w', (Instr.build t (parts.map fun (x : Nat × Operand) => (x.1, a.eval x.2))).run C.P w' = .ok (.agg vs') w') ->
   Qde (Qaz C ρ hp w) (Qa6 z.cells ((ps.map fun p => (p.1, p.2.1, ev fr p.2.2)).map fun p => (p.1, (stN p.2.2).getD []))) vs' -> Qd C ρ o a w K := by
  intro vs' hrun hr;refine ⟨.agg vs', fun w' =>?_, _, _, by rw [hd]; exact h.upd (p :=.rag _) ⟨vs', rfl, hr.1, hr.2⟩ hlt, hK⟩;unfold execOp;simp only [ho, Sem.run_bind];have := hrun w';rw [show (parts.map fun (x : Nat × Operand) => (x.1, a.eval x.2)) = (parts.map fun x => match x with | (i, x) => (i, a.eval x)) from rfl] at this;rw [this];rfl
 unfold Qf3 at hps;split at hps
 ·rename_i fs hu;simp only [Option.bind_eq_some_iff] at hps;obtain ⟨pl, hpl, hm⟩ := hps;obtain ⟨vs', g1, g2⟩ := key _ (fun i => pl[i]?) hm (fun x q hq => by simp only [Option.bind_eq_some_iff, Option.map_eq_some_iff] at hq;obtain ⟨r, hr, y, hy, rfl⟩ := hq;exact ⟨by simpa using hr, hy⟩);refine fin vs' (fun w' =>?_) g2;unfold Instr.build;have hp1 := run_places (P := C.P) w' fs.toList pl hpl;simp [Sem.run_bind, Qbd i1 i2, Qi hu, Array.mapM_eq_mapM_toList, hp1] at g1 ⊢;simp [g1]
 ·rename_i len e hu;simp only [Option.bind_eq_some_iff] at hps;obtain ⟨m, hm0, hm⟩ := hps;obtain ⟨vs', g1, g2⟩ := key _ (fun i => some (i * m, m)) hm (fun x q hq => by simp only [Option.map_eq_some_iff] at hq;obtain ⟨y, hy, rfl⟩ := hq;exact ⟨rfl, hy⟩);refine fin vs' (fun w' =>?_) g2;unfold Instr.build;simp only [Sem.run_bind, Qbd i1 i2, Qi hu, Qad hm0, Result.andThen_ok, g1, Sem.run_pure]
 ·simp at hps
end Go.FW
namespace Go.FW
open Go
variable {C : Ctx} {ρ : Nat -> Option Nat} {fr : Fr} {hp : HP} {tmps : Array Value} {w : World} {a : Act} {K : Qa}
theorem Qfr {x : PV} (h : Qbm x = true) : ∃ β n, x = .mso β 0 n /\ 5000000 <= β := by
 unfold Qbm at h;split at h
 ·exact ⟨_, _, rfl, by simpa using h⟩
 ·cases h
theorem Qiy {γ : Nat} : Qbe γ (Qay γ fr) = Qay γ fr := by
 funext i;unfold Qbe Qay;generalize fr i = p;cases p with
 | nst γ' e ty xs =>
  simp only [Q1];split
  ·rfl
  ·rename_i hne; simp [Qbi, hne]
 | nso γ' o n => simp only [Q1]; split <;> rfl
 | np γ' o n => simp only [Q1]; split <;> rfl
 | fn f first cap =>
  simp only [Q1];split
  ·rfl
  ·unfold Qn; split <;> rfl
 | rag cs => rfl
 | rtp cs => rfl
 | rtq cs q => rfl
 | _ => simp only [Q1, Qn]; split <;> rfl
theorem Qdo {γ β o n : Nat} {b' : Option Nat} {hb' : HB} {w' : World} {v : Value} (h : Qg C ρ fr hp tmps w) (hx : Ext (fun b => ρ γ = some b /\ ∃ hb, hp γ = some hb /\ hb.fz = false) w w') (hne : β ≠ γ)
  (hr : Qbt ρ hp w β o n v) : Qbt (rb ρ γ b') (Qe hp γ hb') w' β o n v :=
 Qbt.move hr ⟨Qc0 hne, fun hb hβ => ⟨hb, by simp [Qe, hne, hβ], rfl, Nat.le_refl _, fun b cap h1 h2 =>
  Qak (hx.block b (Qa7 h2) (fun ⟨e1, hb0, e2, _⟩ => hne (h.inj β γ b (by simp [hβ]) (by simp [e2]) h1 e1))) h2⟩⟩
theorem Qbt.slice {β o n : Nat} {v : Value} (h : Qbt ρ hp w β o n v) : ∃ ad m c, v = .slice ad m c := by
 obtain ⟨_, _, _, ⟨_, e, _⟩ | ⟨_, _, _, e, _⟩⟩ := h
 ·exact ⟨_, _, _, e⟩
 ·exact ⟨_, _, _, e⟩
theorem Qhl {β : Nat} (h : 1000000 <= β) : isB β = true := by simp [isB]; omega
theorem Qif {β : Nat} (h : 2000000 <= β) : isY β = false := by simp [isY]; omega
theorem Qg.nestNew {γ b ty cap : Nat} {cur : Array Value} {xs : List PV} (h : Qg C ρ (Qay γ fr) hp tmps w) (hB : isB γ = true) (hγ : hp γ = some ⟨1, ty, [], false⟩) (hρ : ρ γ = some b)
  (h1 : w.heap[b]? = some (.cells cur ty (0, 0))) (h2 : cur.size = cap) (h3 : xs.length <= cap) (h4 : cap <= maxLen) (hr : xs.all Qbm = true)
  (h6 : ∀ (i β n : Nat), xs[i]? = some (.mso β 0 n) -> Qbt ρ hp w β 0 n (cur.getD i undef)) : Qg C ρ (FW.upd (Qay γ fr) γ (.nst γ 1 ty xs)) hp tmps w := by
 have hrow : ∀ (i : Nat) (x : PV), xs[i]? = some x -> ∃ β n, x = .mso β 0 n /\ 5000000 <= β := fun i x hx => Qfr (List.all_eq_true.1 hr _ (List.mem_of_getElem? hx));have := h.nestStore (w' := w) (γ := γ) (b := b) (e := 1) (ty := ty) (xs' := xs) (cur' := cur) (cap := cap) hB (by omega) hγ rfl rfl rfl rfl hρ (Ext.refl _ _) (fun _ _ h => h) h1 (by omega) h3 h4
  (fun i x hx => by obtain ⟨β, n, rfl, _⟩ := hrow i x hx; rfl)
  (fun i x hx j y hy => by
   obtain ⟨β, n, rfl, hβ⟩ := hrow i x hx;rw [show (PV.mso β 0 n).ncells = [.mso β 0 n] from rfl] at hy;have hj : j < 1 := by have := (List.getElem?_eq_some_iff.1 hy).1; simpa using this
   obtain rfl : j = 0 := by omega
   simp at hy;subst hy;rw [Nat.mul_one, Nat.add_zero];exact ⟨Qhl (by omega), h6 i β n hx⟩)
 rwa [Qiy] at this
theorem Qhm {γ k cap : Nat} {ρ' : Nat -> Option Nat} {hp' : HP} {b ty : Nat} {cur : Array Value} (hB : isB γ = true) (h1 : hp' γ = some ⟨1, ty, [], false⟩) (h2 : ρ' γ = some b) (h3 : w.heap[b]? = some (.cells cur ty (0, 0))) (h4 : cur.size = cap) (h5 : cap <= maxLen) (h6 : k <= cap) :
  Qb C ρ' hp' w (.nso γ 0 k) (.slice (some ⟨b, 0, none⟩) k cap) :=
 ⟨hB, ⟨1, ty, [], false⟩, b, cap, h1, h2, by simp, ⟨cur, ty, h3, by simp [h4]⟩, by omega, h6⟩
theorem Qn5 {o : Oper} {t e : TypeId} {len n by_ : Nat} {z : PV} {parts : Array (Nat × Operand)} {ps : List Opd} {d : Nat} {Q : Exit -> Act -> World -> Prop} (ho : o.op = .buildSlice t len parts) (hd : o.dst = some d) (hlt : d < C.N) (hdef : a.defers = []) (h : Qg C ρ fr hp a.tmps w)
  (hu : C.P.underlying t = some (.slice e)) (hz : Qck C.P e = some (n, by_, z)) (hrange : parts.toList.map (·.1) = List.range len) (hzn : z.cells.length = n) (hps : (parts.toList.mapM fun p => opd p.2) = some ps)
  (hbig : Qd9 (ps.map (ev fr)) = true) (hv : bsN n e (ps.map (ev fr)) d fr hp K) : o.wp C.P a w (Qx C true w K) Q := by
 obtain ⟨rfl, hK⟩ := hv;obtain ⟨ti, zv, i1, i2, i3, i4, i5⟩ := Qcv hz;obtain ⟨m1, m2⟩ := Qbl hps;obtain ⟨u, rfl⟩ : ∃ u, ps = [u] := by
  match ps, hbig with
  | [], hb => simp [Qd9] at hb
  | [u], _ => exact ⟨u, rfl⟩
  | u :: v :: ps, hb => simp [Qd9] at hb
 have hrow : Qbm (ev fr u) = true := by simpa [Qd9] using hbig
 obtain ⟨β, m, hev, hβ⟩ := Qfr hrow;obtain ⟨⟨i, x⟩, hpx⟩ : ∃ p, parts.toList = [p] := by
  match hq : parts.toList with
  | [] => rw [hq] at m1; simp at m1
  | [p] => exact ⟨p, rfl⟩
  | p :: q :: r => rw [hq] at m1; simp at m1
 rw [hpx] at hrange m2;obtain rfl : len = 1 := by have := congrArg List.length hrange; simpa using this.symm
 obtain rfl : i = 0 := by simpa using hrange
 have hxu : opd x = some u := by obtain ⟨x', hx', ho'⟩ := m2 0 u rfl;simp at hx'; subst hx'; exact ho'
 have hx := Qj h hxu;rw [hev] at hx;have hro : Qbt ρ hp w β 0 m (a.eval x) := hx;obtain ⟨ad, m', c', hvx⟩ := hro.slice;have hN := C.hN;have hdN : nmN d < 5000000 := by unfold nmN; omega
 have hB : isB (nmN d) = true := Qhl (by unfold nmN; omega);have hY : isY (nmN d) = false := Qif (by unfold nmN; omega);obtain ⟨hs, he⟩ := h.newBlockG (nmN d) hY Qc6 ⟨1, e, [], false⟩ #[a.eval x] 1 _ (.inl rfl) (by simp) (by simp) (by rw [Qav]; omega) (by simp) (by simp) (by simp);have hs2 := hs.nestNew (cur := #[a.eval x]) (cap := 1) (xs := [.mso β 0 m]) hB (by simp [Qe]) (Qah _ _ _) (Q0 w _) (by simp) (by simp) (by rw [Qav]; omega) (by simp [Qbm, hβ]) (fun i β' n' hi => by
  match i, hi with
  | 0, hi =>simp at hi;obtain ⟨rfl, rfl⟩ := hi;exact Qdo h (Ext.alloc w _ _) (by omega) hro
  | i + 1, hi => simp at hi)
 rw [List.map_cons, List.map_nil, hev] at hK;refine Qan (v :=.slice (some ⟨w.heap.size, 0, none⟩) 1 1) ?_ (Qx.ofBlock hd hlt hdef hs2 (fun _ => he) (Qhm hB (by simp [Qe]) (Qah _ _ _) (Q0 w _) (by simp) (by rw [Qav]; omega) (by omega)) hK);unfold execOp;have hpe : (parts.map fun x => match x with | (i, x) => (i, a.eval x)).toList = [(0, a.eval x)] := by simp [hpx]
 simp only [ho, Instr.buildSlice, Sem.run_bind, Qi hu, Result.andThen_ok, Qad (show tsz C.P e = some 1 by simp [tsz, i1, i3]), hpe];simp [Sem.run_pure, Sem.run_bind, Qbd i1 i2, Instr.fill, hvx, Value.cells, newRow, show Array.range 1 = #[0] from rfl]
theorem Ql9 {o : Oper} {t : TypeId} {n : Nat} {x : Operand} {cs : List PV} {d : Nat} {Q : Exit -> Act -> World -> Prop} (ho : o.op = .box t x) (hd : o.dst = some d) (hlt : d < C.N) (hdef : a.defers = []) (h : Qg C ρ fr hp a.tmps w)
  (hx : Qb C ρ hp w (.rag cs) (a.eval x)) (hv : Qf6 n t cs d fr hp K) : o.wp C.P a w (Qx C true w K) Q := by
 obtain ⟨⟨hlen, hn, hU, hno⟩, hK⟩ := hv;obtain ⟨vs, ex, hsz, hcs⟩ := hx;have hN := C.hN;have hB : isB (nmN d) = true := Qhl (by unfold nmN; omega);have hY : isY (nmN d) = false := Qif (by unfold nmN; omega);obtain ⟨hs, he⟩ := h.newBlockG (nmN d) hY Qc6 ⟨n, t, [], false⟩ vs 1 _ (.inl rfl) (by simp; omega) (by simp) (by rw [Qav]; omega) hn (by simp) (by simp);have hsl : ∀ (i : Nat) (y : PV), cs[i]? = some y -> Qaz C (rb ρ (nmN d) (some w.heap.size)) (Qe hp (nmN d) ⟨n, t, [], false⟩) (w.alloc (.cells vs t)) y (vs.getD i undef) := fun i y hi => by
  have hm := List.mem_of_getElem? hi;have hny : ∀ β ∈ y.sref1, β ≠ nmN d := fun β hβ e => by have := List.all_eq_true.1 hno y hm;subst e;simp [hβ] at this
  refine (hcs i y hi).move ⟨fun b hb _ => Qdy w _ b hb, fun b hb hX =>?_, by rw [Qdz]; omega⟩ (fun β hβ => ⟨Qc0 (hny β hβ), fun hb hh => ⟨hb, by simp [Qe, hny β hβ, hh], rfl, Nat.le_refl _, fun b cap _ hc => Qak (Qdy w _ b (Qa7 hc)) hc⟩⟩);rintro (hx0 | ⟨γ, hg, h1, h2, h3⟩)
  ·exact hX (.inl hx0)
  ·by_cases hγ : γ = nmN d
   ·subst hγ;rw [Qah] at h3;cases h3;omega
   ·refine hX (.inr ⟨γ, hg, ?_, h2, by rwa [Qc0 hγ] at h3⟩);simpa [Qe, hγ] using h1
 have := hs.nestStore (w' := w.alloc (.cells vs t)) (γ := nmN d) (b := w.heap.size) (e := n) (ty := t) (xs' := [.rag cs]) (cur' := vs) (cap := 1) hB hn (show Qe hp (nmN d) ⟨n, t, [], false⟩ (nmN d) = some ⟨n, t, [], false⟩ by simp [Qe]) rfl rfl rfl rfl (Qah _ _ _) (Ext.refl _ _) (fun _ _ h => h) (Q0 w _) (by omega) (by simp) (by rw [Qav]; omega)
  (fun i x hx => by
   match i, hx with
   | 0, hx => simp at hx; subst hx; exact hlen
   | i + 1, hx => simp at hx)
  (fun i x hx j y hy => by
   match i, hx with
   | 0, hx => simp at hx; subst hx; rw [Nat.zero_mul, Nat.zero_add]; exact hsl j y hy
   | i + 1, hx => simp at hx)
 rw [Qiy] at this;refine Qan (v :=.pointer (some ⟨w.heap.size, 0, none⟩)) (w' := w.alloc (.cells vs t)) ?_ (Qx.ofBlock (p :=.np (nmN d) 0 0) hd hlt hdef this (fun _ => he) ⟨hB, w.heap.size, ⟨n, t, [], false⟩, Qah _ _ _, by simp [Qe], by simp⟩ hK);unfold execOp;simp only [ho, Instr.box, newVar, newRow, ex, Value.cells];simp
theorem Qma {o : Oper} {t : TypeId} {n : Nat} {x : Operand} {px : PV} {d : Nat} {Q : Exit -> Act -> World -> Prop} (ho : o.op = .box t x) (hd : o.dst = some d) (hlt : d < C.N) (hdef : a.defers = []) (h : Qg C ρ fr hp a.tmps w)
  (hx : Qb C ρ hp w px (a.eval x)) (hv : Qbb n t px d fr hp K) : o.wp C.P a w (Qx C true w K) Q :=
 Qn1 ho hd hlt hdef h hx (fun _ e hb => Ql9 ho hd hlt hdef h (e ▸ hx) hb) hv
theorem Qmb {o : Oper} {s x : Operand} {t e : TypeId} {n by_ : Nat} {z : PV} {ps px : PV} {d : Nat} {Q : Exit -> Act -> World -> Prop}
  (ho : o.op = .call { callee :=.builtin .append, args := #[s, x], argTypes := #[t, t] }) (hd : o.dst = some d) (hlt : d < C.N) (hdef : a.defers = []) (h : Qg C ρ fr hp a.tmps w)
  (hu : C.P.underlying t = some (.slice e)) (hz : Qck C.P e = some (n, by_, z)) (hzn : z.cells.length = n) (hs : Qb C ρ hp w ps (a.eval s)) (hx : Qb C ρ hp w px (a.eval x))
  (hv : Qh9 n by_ e ps px d fr hp K) : o.wp C.P a w (Qx C false w K) Q := by
 obtain ⟨ti, zv, i1, i2, i3, i4, i5⟩ := Qcv hz;have hN := C.hN;have hdN : nmN d < 5000000 := by unfold nmN; omega
 have hBd : isB (nmN d) = true := Qhl (by unfold nmN; omega);have hYd : isY (nmN d) = false := Qif (by unfold nmN; omega);unfold Qh9 at hv;split at hv
 ·rename_i δ;split at hv
  ·rename_i δ' ty' y hfδ;obtain ⟨rfl, hyr, rfl, hv⟩ := hv;obtain ⟨β, m, rfl, hβ⟩ := Qfr hyr;obtain ⟨_, hbδ, b, cap, gδ, rδ, ex, _, _, _⟩ := hx;have hfact := h.slots δ';rw [hfδ] at hfact;obtain ⟨_, _, b2, hb2, cur, cap2, q1, q2, q3, q4, q5, q6, q7, q8, q9, _, q11⟩ := hfact;rw [gδ] at q2; cases q2;rw [rδ] at q1; cases q1;rw [Nat.zero_mul] at ex;have hrs := q11 0 _ rfl 0 (.mso β 0 m) rfl;simp only [Nat.zero_mul, Nat.zero_add] at hrs;have hro : Qbt ρ hp w β 0 m (cur.getD 0 undef) := hrs.2;obtain ⟨ad, m', c', hcv⟩ := hro.slice;have h0s : 0 < cur.size := by simp at q8; omega
   have hcell : w.cell? ⟨b, 0, none⟩ = some (cur.getD 0 undef) := Qap q6 h0s;obtain ⟨u, hu0⟩ : ∃ u, cur.getD 0 undef = u := ⟨_, rfl⟩
   rw [hu0] at hro hcv hcell;have hnews : ∀ (j : Nat) (v : Value), [u][j]? = some v -> w.cell? ((⟨b, 0, none⟩ : Addr).add j) = some v := fun j v hj => by
    have hj0 : j < 1 := by have := (List.getElem?_eq_some_iff.1 hj).1; simpa using this
    obtain rfl : j = 0 := by omega
    simp at hj; subst hj;rw [Addr.add_lit, Nat.add_zero]; exact hcell
   have hzs : zv.cells.size = 1 := by have := (Qbf (w := w) (X := Xof C ρ hp) i5).cells.1; omega
   split at hv
   ·obtain ⟨hb, hK⟩ := hv;have es := hs.nil_inv;have hrun := run_append_nil (P := C.P) w t o.type e ti zv hu i1 i2 ⟨b, 0, none⟩ 1 cap [u] (by simp [i3]) hnews (by omega) (by omega) (by rw [i4]; omega);have hge := grownCap_ge w 1 0 e;have hcm := grownCap_le_maxLen w 1 0 e (by rw [Qav]; omega);generalize grownCap w 1 0 e = G at hrun hge hcm;have hcs : ([u].toArray ++ Builtin.zeroCells zv.cells (G - 1)).size = G := by simp [size_zeroCells, hzs]; omega
    have hcs1 : ([u].toArray ++ Builtin.zeroCells zv.cells (G - 1)).size = G * 1 := by omega
    have hg0 : ([u].toArray ++ Builtin.zeroCells zv.cells (G - 1)).getD 0 undef = u := by rw [Qa0, if_pos (by simp), Qbn]; rfl
    obtain ⟨hs1, _⟩ := h.newBlockG (nmN d) hYd Qc6 ⟨1, e, [], false⟩ ([u].toArray ++ Builtin.zeroCells zv.cells (G - 1)) G _ (.inr rfl) hcs1 (by simp) hcm (by simp) (by simp) (by simp);have hs2 := hs1.nestNew (cap := G) (xs := [.mso β 0 m]) hBd (by simp [Qe]) (Qah _ _ _) (Q0 w.drew _) hcs (by simpa using hge) hcm (by simp [Qbm, hβ]) (fun i β' n' hi => by
     match i, hi with
     | 0, hi =>simp at hi;obtain ⟨rfl, rfl⟩ := hi;rw [hg0];exact Qdo h ((Ext.drew w _).trans (Ext.alloc w.drew _ _)) (by omega) hro
     | i + 1, hi => simp at hi)
    exact Qan (Qa9 ho es ex hrun) (Qx.ofBlock hd hlt hdef hs2 (by simp) (Qhm hBd (by simp [Qe]) (Qah _ _ _) (Q0 w.drew _) hcs hcm hge) hK)
   ·rename_i γ k;split at hv
    ·rename_i γ' ty2 xs hfγ;obtain ⟨⟨rfl, hγ5, hY, rfl, rfl, hxs, hby, hmax⟩, ⟨hb, hγ, hfz⟩, hK⟩ := hv;obtain ⟨hB, hbs, b1, cap1, g1, g2, es, g4, g5, g6⟩ := hs;rw [hγ] at g1; cases g1;have hfact := h.slots γ';rw [hfγ] at hfact;obtain ⟨_, _, b1', hb', cur1, cap1', p1, p2, p3, p4, p5, p6, p7, p8, p9, _, p11⟩ := hfact;rw [hγ] at p2; cases p2;rw [g2] at p1; cases p1;rw [Nat.zero_mul] at es;obtain ⟨cur1', ty1', d1, d2⟩ := g4;rw [p6] at d1; cases d1;rw [p4, Nat.mul_one, Nat.zero_add] at d2;rw [Nat.mul_one] at p7;obtain rfl : cap1' = cap1 := by omega
     have hro1 : ∀ (i β' n' : Nat), xs[i]? = some (.mso β' 0 n') -> Qbt ρ hp w β' 0 n' (cur1.getD i undef) := fun i β' n' hi => by have := p11 i _ hi 0 (.mso β' 0 n') rfl;simp only [Nat.mul_one, Nat.add_zero] at this;exact this.2
     have hrow1 : ∀ (i β' n' : Nat), xs[i]? = some (.mso β' 0 n') -> β' ≠ γ' := fun i β' n' hi => by have := List.all_eq_true.1 hxs _ (List.mem_of_getElem? hi);simp [Qbm] at this; omega
     have hall : (xs ++ [PV.mso β 0 m]).all Qbm = true := by rw [List.all_append, hxs]; simp [Qbm, hβ]
     have hown := (h.own γ' hb hγ).blk;rw [g2] at hown;obtain ⟨o1, o2, _⟩ := hown;replace o1 := Ctx.cls_N o1 hY;have hone : ∀ u' ∈ [u], u'.oneCell' = true := by intro u' hu';simp at hu'; subst hu';rw [hcv]; rfl
     by_cases hroom : xs.length + 1 <= cap1'
     ·have hrun := run_append_room (P := C.P) w t o.type ty2 ti hu i1 b1 xs.length cap1' cur1 p6 ⟨b, 0, none⟩ 1 cap [u] (by simp [i3]) hnews hone hroom (by simp [i3]; omega);rw [i3, Nat.mul_one] at hrun;have hfit : xs.length + [u].length <= cur1.size := by simp; omega
      have hss := Qcy (cur := cur1) (p := xs.length) (cs := [u]) hfit;have hsp := fun k hk => Qcx (cur := cur1) (p := xs.length) (cs := [u]) (k := k) hfit hk;generalize hW : (cur1.toList.take xs.length ++ [u] ++ cur1.toList.drop (xs.length + [u].length)).toArray = W at hrun hss hsp;have hE : Ext (fun c => ρ γ' = some c /\ ∃ hb, hp γ' = some hb /\ hb.fz = false) w (w.setRow b1 W) := (Qdf w b1 W).mono (fun i _ hi => ⟨hi ▸ g2, hb, hγ, hfz⟩);have hheap : (w.setRow b1 W).heap[b1]? = some (.cells W ty2 (0, 0)) := setRow_heap w b1 cur1 W ty2 _ p6;have hs1 := h.rebindG (w' := w.setRow b1 W) γ' (some b1) ⟨1, ty2, [], false⟩ hY Qc6 hE
       (fun c hc => by cases hc; exact ⟨o1, by simpa using o2, .inr ⟨g2, hb, hγ, hfz⟩⟩) (by simp) (by simp) (by simp)
       (fun c hc => by cases hc; exact ⟨W, cap1', hheap, by simp [hss]; omega, by simp, p9, by simp⟩)
      have hs2 := hs1.nestNew (cap := cap1') (xs := xs ++ [.mso β 0 m]) hB (by simp [Qe]) (Qah _ _ _) hheap (by omega) (by simpa using hroom) p9 hall (fun i β' n' hi => by
       rw [List.getElem?_append] at hi;by_cases hil : i < xs.length
       ·rw [if_pos hil] at hi;rw [hsp i (by omega), if_neg (by omega)];exact Qdo h hE (hrow1 i β' n' hi) (hro1 i β' n' hi)
       ·rw [if_neg hil] at hi;have hi0 : i - xs.length < 1 := by have := (List.getElem?_eq_some_iff.1 hi).1; simpa using this
        obtain rfl : i = xs.length := by omega
        rw [Nat.sub_self] at hi;simp at hi;obtain ⟨rfl, rfl⟩ := hi;rw [hsp _ (by omega), if_pos (by simp), Nat.sub_self];exact Qdo h hE (by omega) hro)
      exact Qan (Qa9 ho es ex hrun) (Qx.ofBlock hd hlt hdef hs2 (by simp) (Qhm hB (by simp [Qe]) (Qah _ _ _) hheap (by omega) p9 hroom) hK)
     ·have hol : (cur1.toList.take xs.length).length = xs.length := by simp; omega
      have holds : ∀ (j : Nat) (v : Value), (cur1.toList.take xs.length)[j]? = some v -> w.cell? ((⟨b1, 0, none⟩ : Addr).add j) = some v := fun j v hj => by
       have hj' : j < xs.length := by have := (List.getElem?_eq_some_iff.1 hj).1; omega
       rw [List.getElem?_take_of_lt hj'] at hj;rw [Addr.add_lit, Nat.zero_add, Qap p6 (by omega), Qdx cur1 j v hj]
      have hrun := run_append_grow (P := C.P) w t o.type ty2 ti zv hu i1 i2 ⟨b1, 0, none⟩ xs.length cap1' (cur1.toList.take xs.length) (by rw [hol, i3, Nat.mul_one]) holds ⟨b, 0, none⟩ 1 cap [u] (by simp [i3]) hnews
       (by omega) (by omega) (growslice_fits (by omega) (by rw [i4]; exact hby))
      have hge := grownCap_ge w (xs.length + 1) cap1' ty2;have hcm := grownCap_le_maxLen w (xs.length + 1) cap1' ty2 (by rw [Qav]; exact hmax);generalize grownCap w (xs.length + 1) cap1' ty2 = G at hrun hge hcm;have hcs : ((cur1.toList.take xs.length).toArray ++ [u].toArray ++ Builtin.zeroCells zv.cells (G - (xs.length + 1))).size = G := by simp only [Array.size_append, List.size_toArray, hol, size_zeroCells, hzs, List.length_cons, List.length_nil]; omega
      have hgd : ∀ i, i < xs.length + 1 -> ((cur1.toList.take xs.length).toArray ++ [u].toArray ++ Builtin.zeroCells zv.cells (G - (xs.length + 1))).getD i undef = if i < xs.length then cur1.getD i undef else u := fun i hi => by
       rw [Qa0, if_pos (by simp only [Array.size_append, List.size_toArray, hol, List.length_cons, List.length_nil]; omega), Qa0, List.size_toArray, hol];by_cases hil : i < xs.length
       ·rw [if_pos hil, if_pos hil, Qbn, List.getD_eq_getElem?_getD, List.getElem?_take_of_lt hil];simp [Array.getD_eq_getD_getElem?]
       ·rw [if_neg hil, if_neg hil, Qbn, show i - xs.length = 0 by omega]; rfl
      generalize hW : (cur1.toList.take xs.length).toArray ++ [u].toArray ++ Builtin.zeroCells zv.cells (G - (xs.length + 1)) = W at hrun hcs hgd;obtain ⟨hs1, _⟩ := h.newBlockG γ' hY Qc6 ⟨1, ty2, [], false⟩ W G _ (.inr rfl) (by simp [hcs]) (by simp) hcm (by simp) (by simp) (by simp);have hE : Ext (fun c => ρ γ' = some c /\ ∃ hb, hp γ' = some hb /\ hb.fz = false) w (w.drew.alloc (.cells W ty2)) := (Ext.drew w _).trans (Ext.alloc w.drew _ _);have hs2 := hs1.nestNew (cap := G) (xs := xs ++ [.mso β 0 m]) hB (by simp [Qe]) (Qah _ _ _) (Q0 w.drew _) hcs (by simpa using hge) hcm hall (fun i β' n' hi => by
       rw [List.getElem?_append] at hi;by_cases hil : i < xs.length
       ·rw [if_pos hil] at hi;rw [hgd i (by omega), if_pos hil];exact Qdo h hE (hrow1 i β' n' hi) (hro1 i β' n' hi)
       ·rw [if_neg hil] at hi;have hi0 : i - xs.length < 1 := by have := (List.getElem?_eq_some_iff.1 hi).1; simpa using this
        obtain rfl : i = xs.length := by omega
        rw [Nat.sub_self] at hi;simp at hi;obtain ⟨rfl, rfl⟩ := hi;rw [hgd _ (by omega), if_neg (by omega)];exact Qdo h hE (by omega) hro)
      exact Qan (Qa9 ho es ex hrun) (Qx.ofBlock hd hlt hdef hs2 (by simp) (Qhm hB (by simp [Qe]) (Qah _ _ _) (Q0 w.drew _) hcs hcm hge) hK)
    ·exact hv.elim
   ·exact hv.elim
  ·exact hv.elim
 ·exact hv.elim
theorem Qn6 {o : Oper} {t e : TypeId} {len n by_ : Nat} {z : PV} {parts : Array (Nat × Operand)} {ps : List Opd} {d : Nat} {Q : Exit -> Act -> World -> Prop} (ho : o.op = .buildSlice t len parts) (hd : o.dst = some d) (hlt : d < C.N) (hdef : a.defers = []) (h : Qg C ρ fr hp a.tmps w)
  (hu : C.P.underlying t = some (.slice e)) (hz : Qck C.P e = some (n, by_, z)) (hrange : parts.toList.map (·.1) = List.range len) (hsmall : len * n <= 16777216) (hzn : z.cells.length = n) (hps : (parts.toList.mapM fun p => opd p.2) = some ps)
  (hv : bsK n e (ps.map (ev fr)) d fr hp K) : o.wp C.P a w (Qx C true w K) Q := by
 unfold bsK at hv;split at hv
 ·rename_i hb; exact Qn5 ho hd hlt hdef h hu hz hrange hzn hps hb hv
 ·exact Qp9 ho hd hlt hdef h hu hz hrange hsmall hzn hps hv
theorem Qmc {o : Oper} {s x : Operand} {t e : TypeId} {n by_ : Nat} {z : PV} {ps px : PV} {d : Nat} {Q : Exit -> Act -> World -> Prop}
  (ho : o.op = .call { callee :=.builtin .append, args := #[s, x], argTypes := #[t, t] }) (hd : o.dst = some d) (hlt : d < C.N) (hdef : a.defers = []) (h : Qg C ρ fr hp a.tmps w)
  (hu : C.P.underlying t = some (.slice e)) (hz : Qck C.P e = some (n, by_, z)) (hzn : z.cells.length = n) (hs : Qb C ρ hp w ps (a.eval s)) (hx : Qb C ρ hp w px (a.eval x))
  (hv : Qcl n by_ e ps px d fr hp K) : o.wp C.P a w (Qx C false w K) Q :=
 Qn3 ho hd hlt hdef h hu hz hzn hs hx (fun _ hn => Qmb ho hd hlt hdef h hu hz hzn hs hx hn) hv
end Go.FW
namespace Go.FW
open Go
variable {C : Ctx} {ρ : Nat -> Option Nat} {fr : Fr} {hp : HP} {w : World} {a : Act} {K : Qa}
theorem Qj7 {P : Program} {g : FuncId} (hg : (P.funcs[g]?).any (fun fn => fn.body.isSome && fn.name != "runtime.NumGoroutine") = true) (args : Array Value) (w : World) :
  (callFunc g args).run P w = .ok (.enter g args) w := by
 cases hf : P.funcs[g]? with
 | none => simp [hf] at hg
 | some fn =>
  simp only [hf, Option.any_some, Bool.and_eq_true, bne_iff_ne, ne_eq] at hg;obtain ⟨h1, h2⟩ := hg;have h3 : fn.body.isNone = false := by cases hb : fn.body <;> simp [hb] at h1 ⊢
  have h4 : (fn.name == "runtime.NumGoroutine") = false := by simpa using h2
  have hn : ¬ (fn.body = none) := fun he => by simp [he] at h1
  unfold callFunc;simp [hf, h2, hn]
theorem Qmd {o : Oper} {f : Operand} {args : Array Operand} {ts : Array TypeId} {pf : Opd} {pargs : List Opd} {pr : Bool} {Q : Exit -> Act -> World -> Prop}
  (ho : o.op = .call { callee :=.value f, args := args, argTypes := ts }) (hlt : ∀ d, o.dst = some d -> d < C.N) (hdef : a.defers = []) (h : Qg C ρ fr hp a.tmps w)
  (hf : opd f = some pf) (hargs : args.toList.mapM opd = some pargs) (hv : Qdu C pr (ev fr pf) (pargs.map (ev fr)) o.dst fr hp K) : o.wp C.P a w (Qx C pr w K) Q := by
 have hfr := Qj h hf;unfold Qdu at hv;split at hv
 ·rename_i g first cap hev
  rw [hev] at hfr;obtain ⟨hg, hcall⟩ := hv;obtain ⟨fv, cv, ef, h1, h2, h3, h4⟩ := hfr;obtain ⟨m1, m2⟩ := Qg2 h hargs;have hmap : (args.toList.map a.eval).toArray = args.map a.eval := Array.ext' (by simp);rw [hmap] at m2;have hc := hcall ρ a.tmps w fv cv (args.map a.eval) hlt h h1 h2 (by simpa using m1.symm) h3 h4 m2;have hex : (execOp a.eval o).run C.P w = .ok (.enter g (fv ++ args.map a.eval ++ cv)) w := by unfold execOp;simp only [ho, resolve, Sem.run_bind, Sem.run_pure, Result.andThen_ok, ef, Deferred.ofValue, invoke];rw [Qj7 hg]
  unfold Oper.wp;rw [hex];refine hc.mono fun e w' hp' =>?_;obtain ⟨v, fr', hp', rfl, hs, hx, hK⟩ := hp';refine ⟨by rw [Qb1]; exact hdef, ⟨fr', hp', ?_, hK⟩, hx⟩;cases hd : o.dst with
  | some d => rw [hd] at hs; exact hs
  | none => rw [hd] at hs; exact hs
 ·exact hv.elim
theorem Qb9 {α : Type} {xs : Array α} {l : List α} (h : xs.toList = l) : xs = l.toArray := by subst h; simp
theorem Qeq {P : Program} {t e : TypeId} (h : Qeb P t = some e) : P.underlying t = some (.slice e) := by
 unfold Qeb at h; split at h
 ·rename_i hq; cases h; exact hq
 ·cases h
theorem Qhn {dr : Bool} {o : Oper} (hcls : (Qu C.P dr o).cls = 0) (hlt : ∀ d, o.dst = some d -> d < C.N) (h : Qg C ρ fr hp a.tmps w) (hv : opV C (Qu C.P dr o) fr hp K) : Qd C ρ o a w K := by
 unfold Qu at hcls hv;cases hco : Qas C.P dr o with
 | none => rw [hco] at hv; exact hv.elim
 | some so =>
  rw [hco] at hcls hv;simp only [Option.getD_some] at hcls hv;unfold Qas at hco;split at hco
  case h_1 x d hop hd => simp only [Option.map_eq_some_iff] at hco; obtain ⟨y, hy, rfl⟩ := hco; exact Qjx (.inl hop) hd (hlt d hd) h (Qj h hy) hv
  case h_2 x d hop hd => simp only [Option.map_eq_some_iff] at hco; obtain ⟨y, hy, rfl⟩ := hco; exact Qjx (.inr hop) hd (hlt d hd) h (Qj h hy) hv
  case h_3 c x y d hop hd =>
   simp only [Option.bind_eq_some_iff, Option.map_eq_some_iff] at hco;obtain ⟨pc, hc, px, hx, py, hy, rfl⟩ := hco;exact Ql4 hop hd (hlt d hd) h (Qj h hc) (Qj h hx) (Qj h hy) hv
  case h_4 op t x y t2 d hop hd =>
   simp only [Option.bind_eq_some_iff, Option.map_eq_some_iff] at hco;obtain ⟨px, hx, py, hy, rfl⟩ := hco;unfold Qjp at hv;split at hv
   ·rename_i ng hng;split at hng
    ·rename_i hs2;exact Qnv hop hng hs2 hd (hlt d hd) h (Qj h hx) (Qj h hy) hv
    ·cases hng
   split at hv
   ·rename_i ng hng;split at hng
    ·rename_i hs2;exact Qnt hop hng hs2 hd (hlt d hd) h (Qj h hx) (Qj h hy) hv
    ·cases hng
   refine Qnp hop hd (hlt d hd) h (Qj h hx) (Qj h hy) (fun hb =>?_) hv;split at hb
   ·assumption
   ·cases hb
  case h_5 op t x d hop hd => simp only [Option.map_eq_some_iff] at hco; obtain ⟨y, hy, rfl⟩ := hco; exact Qp1 hop hd (hlt d hd) h (Qj h hy) hv
  case h_6 s t x d hop hd =>
   split at hco
   ·rename_i ds k hS hT;simp only [Option.map_eq_some_iff] at hco;obtain ⟨y, hy, rfl⟩ := hco;exact Ql3 hop hd (hlt d hd) h hS hT (Qj h hy) hv
   ·cases hco
  case h_7 t x i d hop hd =>
   simp only [Option.bind_eq_some_iff] at hco;obtain ⟨px, hx, pi, hi, hco⟩ := hco;split at hco
   ·rename_i e hu;simp only [Option.map_eq_some_iff] at hco;obtain ⟨n, hn, rfl⟩ := hco;exact Qnw hop hd (hlt d hd) h hu hn (Qj h hx) (Qj h hi) hv
   ·rename_i len e hu;simp only [Option.map_eq_some_iff] at hco;obtain ⟨n, hn, rfl⟩ := hco;exact Ql5 hop hd (hlt d hd) h hu hn (Qj h hx) (Qj h hi) hv
   ·cases hco
  case h_8 t x i d hop hd =>
   simp only [Option.bind_eq_some_iff] at hco;obtain ⟨px, hx, pi, hi, hco⟩ := hco;split at hco
   ·rename_i len e hu;simp only [Option.bind_eq_some_iff, Option.map_eq_some_iff] at hco;obtain ⟨n, hn, ag, hag, rfl⟩ := hco;exact Qnz hop hd (hlt d hd) h hu hn hag (Qj h hx) (Qj h hi) hv
   ·rename_i hu;cases hco;exact Qny hop hd (hlt d hd) h hu (Qj h hx) (Qj h hi) hv
   ·cases hco
  case h_9 t x j d hop hd =>
   simp only [Option.bind_eq_some_iff] at hco;obtain ⟨px, hx, hco⟩ := hco;split at hco
   ·rename_i fs hu;simp only [Option.bind_eq_some_iff] at hco;obtain ⟨f, hf, n, hn, hco⟩ := hco;split at hco
    ·cases hco
    ·rename_i hn0;simp only [Option.some.injEq] at hco; subst hco;exact Qnx hop hd (hlt d hd) h hu hf hn hn0 (Qj h hx) hv
   ·cases hco
  case h_10 t x j d hop hd =>
   simp only [Option.bind_eq_some_iff] at hco;obtain ⟨px, hx, hco⟩ := hco;split at hco
   ·rename_i fs hu;simp only [Option.bind_eq_some_iff, Option.map_eq_some_iff] at hco;obtain ⟨f, hf, n, hn, ag, hag, rfl⟩ := hco;exact Ql6 hop hd (hlt d hd) h hu hf hn hag (Qj h hx) hv
   ·cases hco
  case h_17 t parts d hop hd =>
   simp only [Option.bind_eq_some_iff, Option.map_eq_some_iff] at hco;obtain ⟨⟨n, by_, z⟩, hz, ps, hps, rfl⟩ := hco;simp only [opV, Qcp] at hv;split at hv
   ·exact Ql8 hop hd (hlt d hd) h hz hps hv
   ·exact Qn0 hop hd (hlt d hd) h hz hps hv
  case h_18 t x lo hi m d hop hd =>
   simp only [Option.bind_eq_some_iff, Option.map_eq_some_iff] at hco;obtain ⟨px, hx, plo, hlo, phi, hhi, pm, hm, e, he, n, hn, rfl⟩ := hco;have hu : C.P.underlying t = some (.slice e) := by
    unfold Qeb at he; split at he
    ·rename_i hq; cases he; exact hq
    ·cases he
   exact Qp5 hop hd (hlt d hd) h hu hn (Qj h hx) hlo hhi hm hv
  case h_19 x i d hop hd => simp only [Option.map_eq_some_iff] at hco; obtain ⟨y, hy, rfl⟩ := hco; exact Qnu hop hd (hlt d hd) h (Qj h hy) hv
  case h_20 f first cap d hop hd =>
   simp only [Option.bind_eq_some_iff, Option.map_eq_some_iff] at hco;obtain ⟨pf, h1, pc, h2, rfl⟩ := hco;exact Qp6 hop hd (hlt d hd) h h1 h2 hv
  case h_11 => simp only [Option.bind_eq_some_iff, Option.map_eq_some_iff] at hco; obtain ⟨_, _, _, _, _, _, rfl⟩ := hco; cases hcls
  case h_12 => simp only [Option.bind_eq_some_iff, Option.map_eq_some_iff] at hco; obtain ⟨_, _, _, _, _, _, rfl⟩ := hco; cases hcls
  case h_13 => simp only [Option.bind_eq_some_iff, Option.map_eq_some_iff] at hco; obtain ⟨_, _, _, _, rfl⟩ := hco; cases hcls
  case h_14 => simp only [Option.map_eq_some_iff] at hco; obtain ⟨_, _, rfl⟩ := hco; cases hcls
  case h_15 => simp only [Option.bind_eq_some_iff, Option.map_eq_some_iff] at hco; obtain ⟨_, _, _, _, _, _, _, _, rfl⟩ := hco; cases hcls
  case h_16 =>
   simp only [Option.bind_eq_some_iff] at hco;obtain ⟨_, _, _, _, hco⟩ := hco;split at hco
   ·simp only [Option.map_eq_some_iff] at hco; obtain ⟨_, _, rfl⟩ := hco; cases hcls
   ·cases hco
  case h_21 hop => simp only [Option.map_eq_some_iff] at hco; obtain ⟨y, hy, rfl⟩ := hco; exact Ql7 hop hlt h (Qj h hy) hv
  case h_22 c hop =>
   obtain ⟨callee, args, ts⟩ := c;split at hco
   ·simp only [Option.bind_eq_some_iff, Option.map_eq_some_iff] at hco; obtain ⟨_, _, _, _, rfl⟩ := hco; cases hcls
   ·rename_i x t d hcal hargs hts hd;obtain rfl : args = #[x] := Qb9 hargs;obtain rfl : ts = #[t] := Qb9 hts;cases hcal;split at hco
    ·rename_i hs;simp only [Option.map_eq_some_iff] at hco;obtain ⟨y, hy, rfl⟩ := hco;exact Qns hop hd (hlt d hd) h (Qj h hy) hs hv
    simp only [Option.bind_eq_some_iff, Option.map_eq_some_iff] at hco;obtain ⟨e, he, y, hy, rfl⟩ := hco;exact Qnr hop hd (hlt d hd) h (Qj h hy) (Qeq he) hv
   ·rename_i x y d hcal hargs hd;simp only [Option.bind_eq_some_iff, Option.map_eq_some_iff] at hco;obtain ⟨px, hx, py, hy, rfl⟩ := hco;obtain rfl : args = #[x, y] := Qb9 hargs;cases hcal;exact Qpz hop hd (hlt d hd) h (Qj h hx) (Qj h hy) hv
   ·rename_i x y d hcal hargs hd;simp only [Option.bind_eq_some_iff, Option.map_eq_some_iff] at hco;obtain ⟨px, hx, py, hy, rfl⟩ := hco;obtain rfl : args = #[x, y] := Qb9 hargs;cases hcal;exact Qp0 hop hd (hlt d hd) h (Qj h hx) (Qj h hy) hv
   ·simp only [Option.bind_eq_some_iff] at hco;obtain ⟨_, _, _, _, _, _, hco⟩ := hco;split at hco
    ·simp only [Option.bind_eq_some_iff] at hco;obtain ⟨_, _, hco⟩ := hco;split at hco
     ·cases hco; cases hcls
     ·cases hco
    ·cases hco
   ·simp only [Option.bind_eq_some_iff] at hco;obtain ⟨_, _, _, _, _, _, hco⟩ := hco;split at hco
    ·simp only [Option.map_eq_some_iff] at hco; obtain ⟨_, _, rfl⟩ := hco; cases hcls
    ·cases hco
   ·cases hco
  case h_23 => cases hco
theorem Qho {dr : Bool} {o : Oper} (hcls : (Qu C.P dr o).cls = 1) (hlt : ∀ d, o.dst = some d -> d < C.N) (h : Qg C ρ fr hp a.tmps w) (hv : opV C (Qu C.P dr o) fr hp K) : Qf9 C ρ o a w K := by
 unfold Qu at hcls hv;cases hco : Qas C.P dr o with
 | none => rw [hco] at hv; exact hv.elim
 | some so =>
  rw [hco] at hcls hv;simp only [Option.getD_some] at hcls hv;unfold Qas at hco;split at hco
  case h_11 t x d hop hd =>
   simp only [Option.bind_eq_some_iff, Option.map_eq_some_iff] at hco;obtain ⟨px, hx, n, hn, ag, hag, rfl⟩ := hco;exact Qp4 hop hd (hlt d hd) h hn hag (Qj h hx) hv
  case h_1 => simp only [Option.map_eq_some_iff] at hco; obtain ⟨_, _, rfl⟩ := hco; cases hcls
  case h_2 => simp only [Option.map_eq_some_iff] at hco; obtain ⟨_, _, rfl⟩ := hco; cases hcls
  case h_3 => simp only [Option.bind_eq_some_iff, Option.map_eq_some_iff] at hco; obtain ⟨_, _, _, _, _, _, rfl⟩ := hco; cases hcls
  case h_4 => simp only [Option.bind_eq_some_iff, Option.map_eq_some_iff] at hco; obtain ⟨_, _, _, _, rfl⟩ := hco; unfold Qjp at hcls; split at hcls <;> first | (cases hcls; done) | (split at hcls <;> cases hcls)
  case h_5 => simp only [Option.map_eq_some_iff] at hco; obtain ⟨_, _, rfl⟩ := hco; cases hcls
  case h_6 => split at hco <;> first | cases hco | (simp only [Option.map_eq_some_iff] at hco; obtain ⟨_, _, rfl⟩ := hco; cases hcls)
  case h_7 =>
   simp only [Option.bind_eq_some_iff] at hco;obtain ⟨_, _, _, _, hco⟩ := hco;split at hco <;> first | cases hco | (simp only [Option.map_eq_some_iff] at hco; obtain ⟨_, _, rfl⟩ := hco; cases hcls)
  case h_8 =>
   simp only [Option.bind_eq_some_iff] at hco;obtain ⟨_, _, _, _, hco⟩ := hco;split at hco <;> first | (simp only [Option.bind_eq_some_iff, Option.map_eq_some_iff] at hco; obtain ⟨_, _, _, _, rfl⟩ := hco; cases hcls) | (cases hco; done) | (cases hco; cases hcls)
  case h_9 =>
   simp only [Option.bind_eq_some_iff] at hco;obtain ⟨_, _, hco⟩ := hco;split at hco
   ·simp only [Option.bind_eq_some_iff] at hco;obtain ⟨_, _, _, _, hco⟩ := hco;split at hco <;> first | (cases hco; done) | (simp only [Option.some.injEq] at hco; subst hco; cases hcls)
   ·cases hco
  case h_10 =>
   simp only [Option.bind_eq_some_iff] at hco;obtain ⟨_, _, hco⟩ := hco;split at hco <;> first | (cases hco; done) | (simp only [Option.bind_eq_some_iff, Option.map_eq_some_iff] at hco; obtain ⟨_, _, _, _, _, _, rfl⟩ := hco; cases hcls)
  case h_12 => simp only [Option.bind_eq_some_iff, Option.map_eq_some_iff] at hco; obtain ⟨_, _, _, _, _, _, rfl⟩ := hco; cases hcls
  case h_13 => simp only [Option.bind_eq_some_iff, Option.map_eq_some_iff] at hco; obtain ⟨_, _, _, _, rfl⟩ := hco; cases hcls
  case h_14 => simp only [Option.map_eq_some_iff] at hco; obtain ⟨_, _, rfl⟩ := hco; cases hcls
  case h_15 => simp only [Option.bind_eq_some_iff, Option.map_eq_some_iff] at hco; obtain ⟨_, _, _, _, _, _, _, _, rfl⟩ := hco; cases hcls
  case h_16 =>
   simp only [Option.bind_eq_some_iff] at hco;obtain ⟨_, _, _, _, hco⟩ := hco;split at hco
   ·simp only [Option.map_eq_some_iff] at hco; obtain ⟨_, _, rfl⟩ := hco; cases hcls
   ·cases hco
  case h_17 => simp only [Option.bind_eq_some_iff, Option.map_eq_some_iff] at hco; obtain ⟨_, _, _, _, rfl⟩ := hco; cases hcls
  case h_18 => simp only [Option.bind_eq_some_iff, Option.map_eq_some_iff] at hco; obtain ⟨_, _, _, _, _, _, _, _, _, _, _, _, rfl⟩ := hco; cases hcls
  case h_19 => simp only [Option.map_eq_some_iff] at hco; obtain ⟨_, _, rfl⟩ := hco; cases hcls
  case h_20 => simp only [Option.bind_eq_some_iff, Option.map_eq_some_iff] at hco; obtain ⟨_, _, _, _, rfl⟩ := hco; cases hcls
  case h_21 => simp only [Option.map_eq_some_iff] at hco; obtain ⟨_, _, rfl⟩ := hco; cases hcls
  case h_22 =>
   split at hco
   ·simp only [Option.bind_eq_some_iff, Option.map_eq_some_iff] at hco; obtain ⟨_, _, _, _, rfl⟩ := hco; cases hcls
   ·split at hco
    ·simp only [Option.map_eq_some_iff] at hco; obtain ⟨_, _, rfl⟩ := hco; cases hcls
    ·simp only [Option.bind_eq_some_iff, Option.map_eq_some_iff] at hco; obtain ⟨_, _, _, _, rfl⟩ := hco; cases hcls
   ·simp only [Option.bind_eq_some_iff, Option.map_eq_some_iff] at hco; obtain ⟨_, _, _, _, rfl⟩ := hco; cases hcls
   ·simp only [Option.bind_eq_some_iff, Option.map_eq_some_iff] at hco; obtain ⟨_, _, _, _, rfl⟩ := hco; cases hcls
   ·simp only [Option.bind_eq_some_iff] at hco;obtain ⟨_, _, _, _, _, _, hco⟩ := hco;split at hco
    ·simp only [Option.bind_eq_some_iff] at hco;obtain ⟨_, _, hco⟩ := hco;split at hco
     ·cases hco; cases hcls
     ·cases hco
    ·cases hco
   ·simp only [Option.bind_eq_some_iff] at hco;obtain ⟨_, _, _, _, _, _, hco⟩ := hco;split at hco
    ·simp only [Option.map_eq_some_iff] at hco; obtain ⟨_, _, rfl⟩ := hco; cases hcls
    ·cases hco
   ·cases hco
  case h_23 => cases hco
theorem Qd.wp {o : Oper} {two : Bool} {Q : Exit -> Act -> World -> Prop} (hdef : a.defers = []) (h : Qd C ρ o a w K) : o.wp C.P a w (Qx C two w K) Q := by obtain ⟨v, hr, fr', hp', hs, hK⟩ := h;exact Qan (hr w) ⟨by rw [Qb1]; exact hdef, ⟨fr', hp', ⟨ρ, hs⟩, hK⟩, fun _ => Ext.refl _ _⟩
theorem Qf9.wp {o : Oper} {two : Bool} {Q : Exit -> Act -> World -> Prop} (hdef : a.defers = []) (h : Qf9 C ρ o a w K) : o.wp C.P a w (Qx C two w K) Q := by obtain ⟨v, b, _, hr, fr', hp', hs, hK⟩ := h;exact Qan (hr w rfl) ⟨by rw [Qb1]; exact hdef, ⟨fr', hp', ⟨ρ, hs⟩, hK⟩, fun _ => Ext.refl _ _⟩
theorem Qx.mono {two two' : Bool} {a' : Act} {w' : World} (h2 : two' = true -> two = true) (h : Qx C two w K a' w') : Qx C two' w K a' w' := ⟨h.1, h.2.1, fun hh => h.2.2 (h2 hh)⟩
theorem Qqc {dr : Bool} {o : Oper} {Q : Exit -> Act -> World -> Prop} (hlt : ∀ d, o.dst = some d -> d < C.N) (hdef : a.defers = []) (h : Qg C ρ fr hp a.tmps w) (hv : opV C (Qu C.P dr o) fr hp K) :
  o.wp C.P a w (Qx C (!(Qu C.P dr o).brk) w K) Q := by
 by_cases h0 : (Qu C.P dr o).cls = 0
 ·exact (Qhn h0 hlt h hv).wp hdef
 by_cases h1 : (Qu C.P dr o).cls = 1
 ·exact (Qho h1 hlt h hv).wp hdef
 unfold Qu at h0 h1 hv ⊢;cases hco : Qas C.P dr o with
 | none => rw [hco] at hv; exact hv.elim
 | some so =>
  rw [hco] at h0 h1 hv;simp only [Option.getD_some] at h0 h1 hv ⊢;have fin : ∀ {two : Bool}, (so.brk = false -> two = true) -> o.wp C.P a w (Qx C two w K) Q -> o.wp C.P a w (Qx C (!so.brk) w K) Q := fun h2 hw =>
   Oper.wp_mono (fun a' w' hA => hA.mono (fun hh => h2 (by simpa using hh))) hw
  unfold Qas at hco;split at hco
  case h_12 t x y hop hd =>
   simp only [Option.bind_eq_some_iff, Option.map_eq_some_iff] at hco;obtain ⟨px, hx, py, hy, n, hn, rfl⟩ := hco;exact fin (by simp [SOp.brk]) (Qqb hop hd hdef h hn (Qj h hx) (Qj h hy) hv)
  case h_13 t x d hop hd =>
   simp only [Option.bind_eq_some_iff, Option.map_eq_some_iff] at hco;obtain ⟨px, hx, n, hn, rfl⟩ := hco;exact fin (fun _ => rfl) (Qma hop hd (hlt d hd) hdef h (Qj h hx) hv)
  case h_14 t d hop hd =>
   simp only [Option.map_eq_some_iff] at hco;obtain ⟨⟨n, by_, z⟩, hz, rfl⟩ := hco;obtain ⟨ti, zv, i1, i2, _, _, i5⟩ := Qcv hz;exact fin (fun _ => rfl) (Qk7 hop hd (hlt d hd) hdef h i1 i2 i5 hv)
  case h_15 t l c d hop hd =>
   simp only [Option.bind_eq_some_iff, Option.map_eq_some_iff] at hco;obtain ⟨pl, hl, pc, hc, e, he, ⟨n, by_, z⟩, hz, rfl⟩ := hco;exact fin (fun _ => rfl) (Qp8 hop hd (hlt d hd) hdef h (Qeq he) hz (Qj h hl) (Qj h hc) hv)
  case h_16 t len parts d hop hd =>
   simp only [Option.bind_eq_some_iff] at hco;obtain ⟨e, he, ⟨n, by_, z⟩, hz, hco⟩ := hco;split at hco
   ·rename_i hcond;simp only [Option.map_eq_some_iff] at hco;obtain ⟨ps, hps, rfl⟩ := hco;exact fin (fun _ => rfl) (Qn6 hop hd (hlt d hd) hdef h (Qeq he) hz hcond.1 hcond.2.1 hcond.2.2 hps hv)
   ·cases hco
  case h_22 c hop =>
   obtain ⟨callee, args, ts⟩ := c;split at hco
   ·rename_i f hcal;simp only [Option.bind_eq_some_iff, Option.map_eq_some_iff] at hco;obtain ⟨pf, hf, pargs, hargs, rfl⟩ := hco;cases hcal;exact fin (two := dr && !Qno C.P pf) (fun hh => by simpa [SOp.brk] using hh) (Qmd hop hlt hdef h hf hargs hv)
   ·split at hco
    ·simp only [Option.map_eq_some_iff] at hco; obtain ⟨_, _, rfl⟩ := hco; exact absurd rfl h0
    ·simp only [Option.bind_eq_some_iff, Option.map_eq_some_iff] at hco; obtain ⟨_, _, _, _, rfl⟩ := hco; exact absurd rfl h0
   ·simp only [Option.bind_eq_some_iff, Option.map_eq_some_iff] at hco; obtain ⟨_, _, _, _, rfl⟩ := hco; exact absurd rfl h0
   ·simp only [Option.bind_eq_some_iff, Option.map_eq_some_iff] at hco; obtain ⟨_, _, _, _, rfl⟩ := hco; exact absurd rfl h0
   ·rename_i s x t u d hcal hargs hts hd;simp only [Option.bind_eq_some_iff] at hco;obtain ⟨ps, hs, px, hx, e, he, hco⟩ := hco;split at hco
    ·rename_i htu;subst htu;simp only [Option.bind_eq_some_iff] at hco;obtain ⟨⟨n, by_, z⟩, hz, hco⟩ := hco;split at hco
     ·rename_i hzn;simp only [Option.some.injEq] at hco;subst hco;obtain rfl : args = #[s, x] := Qb9 hargs;obtain rfl : ts = #[t, t] := Qb9 hts;cases hcal;exact fin (by simp [SOp.brk]) (Qmc hop hd (hlt d hd) hdef h (Qeq he) hz hzn (Qj h hs) (Qj h hx) hv)
     ·cases hco
    ·cases hco
   ·rename_i s x t u d hcal hargs hts hd;simp only [Option.bind_eq_some_iff] at hco;obtain ⟨ps, hs, px, hx, e, he, hco⟩ := hco;split at hco
    ·rename_i htu;subst htu;simp only [Option.map_eq_some_iff] at hco;obtain ⟨n, hn, rfl⟩ := hco;obtain rfl : args = #[s, x] := Qb9 hargs;obtain rfl : ts = #[t, t] := Qb9 hts;cases hcal;exact fin (by simp [SOp.brk]) (Qn4 hop hd (hlt d hd) hdef h (Qeq he) hn (Qj h hs) (Qj h hx) hv)
    ·cases hco
   ·cases hco
  all_goals exfalso
  case h_1 => simp only [Option.map_eq_some_iff] at hco; obtain ⟨_, _, rfl⟩ := hco; exact h0 rfl
  case h_2 => simp only [Option.map_eq_some_iff] at hco; obtain ⟨_, _, rfl⟩ := hco; exact h0 rfl
  case h_3 => simp only [Option.bind_eq_some_iff, Option.map_eq_some_iff] at hco; obtain ⟨_, _, _, _, _, _, rfl⟩ := hco; exact h0 rfl
  case h_4 => simp only [Option.bind_eq_some_iff, Option.map_eq_some_iff] at hco; obtain ⟨_, _, _, _, rfl⟩ := hco; exact h0 (by unfold Qjp; split <;> first | rfl | (split <;> rfl))
  case h_5 => simp only [Option.map_eq_some_iff] at hco; obtain ⟨_, _, rfl⟩ := hco; exact h0 rfl
  case h_6 => split at hco <;> first | (cases hco; done) | (simp only [Option.map_eq_some_iff] at hco; obtain ⟨_, _, rfl⟩ := hco; exact h0 rfl)
  case h_7 =>
   simp only [Option.bind_eq_some_iff] at hco;obtain ⟨_, _, _, _, hco⟩ := hco;split at hco <;> first | (cases hco; done) | (simp only [Option.map_eq_some_iff] at hco; obtain ⟨_, _, rfl⟩ := hco; exact h0 rfl)
  case h_8 =>
   simp only [Option.bind_eq_some_iff] at hco;obtain ⟨_, _, _, _, hco⟩ := hco;split at hco <;> first | (cases hco; done) | (simp only [Option.bind_eq_some_iff, Option.map_eq_some_iff] at hco; obtain ⟨_, _, _, _, rfl⟩ := hco; exact h0 rfl) | (cases hco; exact h0 rfl)
  case h_9 =>
   simp only [Option.bind_eq_some_iff] at hco;obtain ⟨_, _, hco⟩ := hco;split at hco
   ·simp only [Option.bind_eq_some_iff] at hco;obtain ⟨_, _, _, _, hco⟩ := hco;split at hco <;> first | (cases hco; done) | (simp only [Option.some.injEq] at hco; subst hco; exact h0 rfl)
   ·cases hco
  case h_10 =>
   simp only [Option.bind_eq_some_iff] at hco;obtain ⟨_, _, hco⟩ := hco;split at hco <;> first | (cases hco; done) | (simp only [Option.bind_eq_some_iff, Option.map_eq_some_iff] at hco; obtain ⟨_, _, _, _, _, _, rfl⟩ := hco; exact h0 rfl)
  case h_11 => simp only [Option.bind_eq_some_iff, Option.map_eq_some_iff] at hco; obtain ⟨_, _, _, _, _, _, rfl⟩ := hco; exact h1 rfl
  case h_17 => simp only [Option.bind_eq_some_iff, Option.map_eq_some_iff] at hco; obtain ⟨_, _, _, _, rfl⟩ := hco; exact h0 rfl
  case h_18 => simp only [Option.bind_eq_some_iff, Option.map_eq_some_iff] at hco; obtain ⟨_, _, _, _, _, _, _, _, _, _, _, _, rfl⟩ := hco; exact h0 rfl
  case h_19 => simp only [Option.map_eq_some_iff] at hco; obtain ⟨_, _, rfl⟩ := hco; exact h0 rfl
  case h_20 => simp only [Option.bind_eq_some_iff, Option.map_eq_some_iff] at hco; obtain ⟨_, _, _, _, rfl⟩ := hco; exact h0 rfl
  case h_21 => simp only [Option.map_eq_some_iff] at hco; obtain ⟨_, _, rfl⟩ := hco; exact h0 rfl
  case h_23 => cases hco
end Go.FW
namespace Go.FW
open Go
variable {C : Ctx} {ρ : Nat -> Option Nat} {fr : Fr} {hp : HP} {w : World} {a : Act} {K : Qa}
theorem Qqd (h : Qg C ρ fr hp a.tmps w) {s : Nat} (hs : s < C.N) : a.tmps[s]? = some (a.tmps.getD s undef) := by
 have : s < a.tmps.size := by rw [h.sz]; exact hs
 simp [Array.getD, this]
theorem Qgv {dr : Bool} {ops : Array Oper} {o : Oper} {g : GOp} (h : Qg C ρ fr hp a.tmps w) (hc : Qcc C.P C.N dr ops o = some g) (hv : Qfp C g.g g.o fr hp K) :
  (∀ d, o.dst = some d -> d < C.N) /\ g.o = Qu C.P dr o /\
  ((Region.wanted o (yielded ops a.tmps) = true /\ opV C g.o fr hp K) ∨ (Region.wanted o (yielded ops a.tmps) = false /\ Qb4 g.o fr hp K)) := by
 unfold Qcc at hc;split at hc
 ·rename_i hall;have hlt : ∀ d, o.dst = some d -> d < C.N := fun d hd => by rw [hd] at hall; simpa using hall
  cases hg : o.guard with
  | none =>rw [hg] at hc; cases hc;exact ⟨hlt, rfl, .inl ⟨by simp [Region.wanted, hg], hv⟩⟩
  | some jw =>
   obtain ⟨j, want⟩ := jw;rw [hg] at hc;simp only at hc;split at hc
   ·rename_i s hs;split at hc
    ·rename_i hsN;cases hc;refine ⟨hlt, rfl, ?_⟩;have ht := Qqd h hsN;have hr := h.slots s;simp only [Qfp] at hv;split at hv
     ·rename_i t hfs;rw [hfs] at hr;have hb := hr.bool_inv;have hy : yielded ops a.tmps j = some t := by simp only [yielded, hs, Option.bind_some, ht, hb]
      have hsame : ∀ b, t = b -> upd fr s (.bool b) = fr := fun b hb' => by
       funext i; unfold upd; split
       ·rename_i hi; subst hi; subst hb'; exact hfs.symm
       ·rfl
      by_cases hw : t = want
      ·refine .inl ⟨by simp [Region.wanted, hg, hy, hw], ?_⟩;have := hv.1 hw
       rwa [hsame want hw] at this
      ·have hw' : t = !want := by cases t <;> cases want <;> simp_all
       refine .inr ⟨by simp [Region.wanted, hg, hy, hw], ?_⟩;have := hv.2 hw'
       rwa [hsame _ hw'] at this
     ·rename_i hfs;rw [hfs] at hr;obtain ⟨vs, ev, hsz, _⟩ := hr;have hv0 : vs = #[] := Array.eq_empty_of_size_eq_zero (by simpa using hsz);have hy : yielded ops a.tmps j = none := by simp only [yielded, hs, Option.bind_some, ht, ev]
      exact .inr ⟨by simp [Region.wanted, hg, hy], hv⟩
     ·exact hv.elim
    ·cases hc
   ·cases hc
 ·cases hc
theorem Qn7 {dr : Bool} {o : Oper} : (Qu C.P dr o).dst = o.dst := by
 unfold Qu;cases hco : Qas C.P dr o with
 | none => rfl
 | some so =>
  simp only [Option.getD_some];unfold Qas at hco;split at hco
  case h_1 hd => simp only [Option.map_eq_some_iff] at hco; obtain ⟨_, _, rfl⟩ := hco; exact hd.symm
  case h_2 hd => simp only [Option.map_eq_some_iff] at hco; obtain ⟨_, _, rfl⟩ := hco; exact hd.symm
  case h_3 hd => simp only [Option.bind_eq_some_iff, Option.map_eq_some_iff] at hco; obtain ⟨_, _, _, _, _, _, rfl⟩ := hco; exact hd.symm
  case h_4 hd => simp only [Option.bind_eq_some_iff, Option.map_eq_some_iff] at hco; obtain ⟨_, _, _, _, rfl⟩ := hco; unfold Qjp; split <;> first | exact hd.symm | (split <;> exact hd.symm)
  case h_5 hd => simp only [Option.map_eq_some_iff] at hco; obtain ⟨_, _, rfl⟩ := hco; exact hd.symm
  case h_6 hd => split at hco <;> first | (cases hco; done) | (simp only [Option.map_eq_some_iff] at hco; obtain ⟨_, _, rfl⟩ := hco; exact hd.symm)
  case h_7 hd =>
   simp only [Option.bind_eq_some_iff] at hco;obtain ⟨_, _, _, _, hco⟩ := hco;split at hco <;> first | (cases hco; done) | (simp only [Option.map_eq_some_iff] at hco; obtain ⟨_, _, rfl⟩ := hco; exact hd.symm)
  case h_8 hd =>
   simp only [Option.bind_eq_some_iff] at hco;obtain ⟨_, _, _, _, hco⟩ := hco;split at hco <;> first | (cases hco; done) | (simp only [Option.bind_eq_some_iff, Option.map_eq_some_iff] at hco; obtain ⟨_, _, _, _, rfl⟩ := hco; exact hd.symm) | (cases hco; exact hd.symm)
  case h_9 hd =>
   simp only [Option.bind_eq_some_iff] at hco;obtain ⟨_, _, hco⟩ := hco;split at hco
   ·simp only [Option.bind_eq_some_iff] at hco;obtain ⟨_, _, _, _, hco⟩ := hco;split at hco <;> first | (cases hco; done) | (simp only [Option.some.injEq] at hco; subst hco; exact hd.symm)
   ·cases hco
  case h_10 hd =>
   simp only [Option.bind_eq_some_iff] at hco;obtain ⟨_, _, hco⟩ := hco;split at hco <;> first | (cases hco; done) | (simp only [Option.bind_eq_some_iff, Option.map_eq_some_iff] at hco; obtain ⟨_, _, _, _, _, _, rfl⟩ := hco; exact hd.symm)
  case h_11 hd => simp only [Option.bind_eq_some_iff, Option.map_eq_some_iff] at hco; obtain ⟨_, _, _, _, _, _, rfl⟩ := hco; exact hd.symm
  case h_12 hd => simp only [Option.bind_eq_some_iff, Option.map_eq_some_iff] at hco; obtain ⟨_, _, _, _, _, _, rfl⟩ := hco; exact hd.symm
  case h_13 hd => simp only [Option.bind_eq_some_iff, Option.map_eq_some_iff] at hco; obtain ⟨_, _, _, _, rfl⟩ := hco; exact hd.symm
  case h_14 hd => simp only [Option.map_eq_some_iff] at hco; obtain ⟨_, _, rfl⟩ := hco; exact hd.symm
  case h_15 hd => simp only [Option.bind_eq_some_iff, Option.map_eq_some_iff] at hco; obtain ⟨_, _, _, _, _, _, _, _, rfl⟩ := hco; exact hd.symm
  case h_16 hd =>
   simp only [Option.bind_eq_some_iff] at hco;obtain ⟨_, _, _, _, hco⟩ := hco;split at hco
   ·simp only [Option.map_eq_some_iff] at hco; obtain ⟨_, _, rfl⟩ := hco; exact hd.symm
   ·cases hco
  case h_17 hd => simp only [Option.bind_eq_some_iff, Option.map_eq_some_iff] at hco; obtain ⟨_, _, _, _, rfl⟩ := hco; exact hd.symm
  case h_18 hd => simp only [Option.bind_eq_some_iff, Option.map_eq_some_iff] at hco; obtain ⟨_, _, _, _, _, _, _, _, _, _, _, _, rfl⟩ := hco; exact hd.symm
  case h_19 hd => simp only [Option.map_eq_some_iff] at hco; obtain ⟨_, _, rfl⟩ := hco; exact hd.symm
  case h_20 hd => simp only [Option.bind_eq_some_iff, Option.map_eq_some_iff] at hco; obtain ⟨_, _, _, _, rfl⟩ := hco; exact hd.symm
  case h_21 => simp only [Option.map_eq_some_iff] at hco; obtain ⟨_, _, rfl⟩ := hco; rfl
  case h_22 =>
   split at hco
   ·simp only [Option.bind_eq_some_iff, Option.map_eq_some_iff] at hco; obtain ⟨_, _, _, _, rfl⟩ := hco; rfl
   ·rename_i hd;split at hco
    ·simp only [Option.map_eq_some_iff] at hco; obtain ⟨_, _, rfl⟩ := hco; exact hd.symm
    ·simp only [Option.bind_eq_some_iff, Option.map_eq_some_iff] at hco; obtain ⟨_, _, _, _, rfl⟩ := hco; exact hd.symm
   ·rename_i hd; simp only [Option.bind_eq_some_iff, Option.map_eq_some_iff] at hco; obtain ⟨_, _, _, _, rfl⟩ := hco; exact hd.symm
   ·rename_i hd; simp only [Option.bind_eq_some_iff, Option.map_eq_some_iff] at hco; obtain ⟨_, _, _, _, rfl⟩ := hco; exact hd.symm
   ·rename_i hd;simp only [Option.bind_eq_some_iff] at hco;obtain ⟨_, _, _, _, _, _, hco⟩ := hco;split at hco
    ·simp only [Option.bind_eq_some_iff] at hco;obtain ⟨_, _, hco⟩ := hco;split at hco
     ·cases hco; exact hd.symm
     ·cases hco
    ·cases hco
   ·rename_i hd;simp only [Option.bind_eq_some_iff] at hco;obtain ⟨_, _, _, _, _, _, hco⟩ := hco;split at hco
    ·simp only [Option.map_eq_some_iff] at hco; obtain ⟨_, _, rfl⟩ := hco; exact hd.symm
    ·cases hco
   ·cases hco
  case h_23 => cases hco
theorem Qme {dr two : Bool} {o : Oper} (hlt : ∀ d, o.dst = some d -> d < C.N) (hdef : a.defers = []) (h : Qg C ρ fr hp a.tmps w) (hv : Qb4 (Qu C.P dr o) fr hp K) : Qx C two w K (a.put o.dst undef) w := by
 unfold Qb4 at hv;rw [Qn7] at hv;cases hd : o.dst with
 | some d =>rw [hd] at hv;exact ⟨hdef, ⟨_, hp, ⟨ρ, h.upd Qb.tup0 (hlt d hd)⟩, hv⟩, fun _ => Ext.refl _ _⟩
 | none =>rw [hd] at hv;exact ⟨hdef, ⟨fr, hp, ⟨ρ, h⟩, hv⟩, fun _ => Ext.refl _ _⟩
theorem Qhp {dr : Bool} {ops : Array Oper} {i : Nat} {o : Oper} {g : GOp} {Q : Exit -> Act -> World -> Prop} (hi : ops[i]? = some o) (hdef : a.defers = []) (h : Qg C ρ fr hp a.tmps w) (hc : Qcc C.P C.N dr ops o = some g) (hv : Qfp C g.g g.o fr hp K) :
  wpOp C.P ops Q i (Qx C (!(Qu C.P dr o).brk) w K) a w := by
 obtain ⟨hlt, hgo, hcase⟩ := Qgv h hc hv;rw [hgo] at hcase;unfold wpOp;simp only [hi];rcases hcase with ⟨hw, hv⟩ | ⟨hw, hv⟩
 ·rw [if_pos hw]; exact .inl (Qqc hlt hdef h hv)
 ·rw [hw]; simp only [Bool.false_eq_true, if_false]; exact Qme hlt hdef h hv
def Qmf (C : Ctx) (K : Qa) (Q : Exit -> Act -> World -> Prop) : Prop := ∀ fr hp (a : Act) w, a.defers = [] -> Sim C fr hp a.tmps w -> K fr hp -> Q .normal a w
theorem Qhq {C : Ctx} {R : Qa} {sk : List It} {fr : Fr} {hp : HP} : vc C R (.o .nil :: sk) fr hp = vc C R sk fr hp := by rw [vc]
theorem Qhr {C : Ctx} {R : Qa} {sk : List It} {g : Option (Nat × Bool)} {o : SOp} {r : RT} {fr : Fr} {hp : HP} : vc C R (.o (.o g o r) :: sk) fr hp = Qfp C g o fr hp (vc C R (.o r :: sk)) := by rw [vc]
theorem Qsd {C : Ctx} {R : Qa} {sk : List It} {x y : RT} {fr : Fr} {hp : HP} : vc C R (.o (.br x y) :: sk) fr hp = (vc C R (.o x :: sk) fr hp /\ vc C R (.o y :: sk) fr hp) := by rw [vc]
theorem Qn8 {C : Ctx} {R : Qa} {sk : List It} {r : RT} {fr : Fr} {hp : HP} : vc C R (.o (.wk r) :: sk) fr hp = ∃ fr0 hp0, Wk fr hp fr0 hp0 /\ vc C R (.o r :: sk) fr0 hp0 := by rw [vc]
theorem Qeh {C : Ctx} {R : Qa} {sk : List It} {tmps : Array Value} {w : World} : ∀ (r : RT) (fr : Fr) (hp : HP), Sim C fr hp tmps w -> vc C R (.o r :: sk) fr hp ->
  ∃ r' fr' hp', r'.strip = r.strip /\ (∀ x, r' ≠ .wk x) /\ Sim C fr' hp' tmps w /\ vc C R (.o r' :: sk) fr' hp' := by
 intro r;induction r with
 | wk r ih =>intro fr hp hs hv;rw [Qn8] at hv;obtain ⟨fr0, hp0, hw, hv⟩ := hv;exact ih fr0 hp0 (hw _ _ _ hs) hv
 | nil => exact fun fr hp hs hv => ⟨_, fr, hp, rfl, (fun x h => by cases h), hs, hv⟩
 | o => exact fun fr hp hs hv => ⟨_, fr, hp, rfl, (fun x h => by cases h), hs, hv⟩
 | br => exact fun fr hp hs hv => ⟨_, fr, hp, rfl, (fun x h => by cases h), hs, hv⟩
theorem Qiz {r : RT} (h : r.strip = .nil) (hn : ∀ x, r ≠ .wk x) : r = .nil := by
 cases r with
 | nil => rfl
 | wk x => exact absurd rfl (hn x)
 | _ => simp [RT.strip] at h
theorem Qig {r s : RT} {g : Option (Nat × Bool)} {o : SOp} (h : r.strip = .o g o s) (hn : ∀ x, r ≠ .wk x) : ∃ r', r = .o g o r' /\ r'.strip = s := by
 cases r with
 | o g' o' r' => simp only [RT.strip, RT.o.injEq] at h; obtain ⟨rfl, rfl, h⟩ := h; exact ⟨r', rfl, h⟩
 | wk x => exact absurd rfl (hn x)
 | _ => simp [RT.strip] at h
theorem Qqe {r a b : RT} (h : r.strip = .br a b) (hn : ∀ x, r ≠ .wk x) : ∃ a' b', r = .br a' b' /\ a'.strip = a /\ b'.strip = b := by
 cases r with
 | br a' b' => simp only [RT.strip, RT.br.injEq] at h; exact ⟨a', b', rfl, h.1, h.2⟩
 | wk x => exact absurd rfl (hn x)
 | _ => simp [RT.strip] at h
theorem Qhs {R : Qa} {sk : List It} {ops : Array Oper} {Q : Exit -> Act -> World -> Prop} (hQ : Qmf C (vc C R sk) Q) : ∀ (gs : List GOp) (is : List Nat) (r : RT) (fr : Fr) (hp : HP) (a : Act) (w : World),
  is.length = gs.length -> (∀ (k i : Nat) (g : GOp), is[k]? = some i -> gs[k]? = some g -> ∃ o, ops[i]? = some o /\ Qcc C.P C.N false ops o = some g) ->
  a.defers = [] -> Sim C fr hp a.tmps w -> r.strip = Qh5 gs -> vc C R (.o r :: sk) fr hp -> wpOps C.P ops Q is a w
 | [], [], r, fr, hp, a, w, _, _, hdef, hs, hr, hv => by obtain ⟨r', fr', hp', h1, h2, hs, hv⟩ := Qeh r fr hp hs hv;obtain rfl := Qiz (h1.trans hr) h2;rw [Qhq] at hv;exact hQ fr' hp' a w hdef hs hv
 | [], i :: is, _, _, _, _, _, hl, _, _, _, _, _ => by simp at hl
 | g :: gs, [], _, _, _, _, _, hl, _, _, _, _, _ => by simp at hl
 | g :: gs, i :: is, r, fr, hp, a, w, hl, hc, hdef, hs, hr, hv => by obtain ⟨o, ho, hco⟩ := hc 0 i g rfl rfl;obtain ⟨r', fr', hp', h1, h2, ⟨ρ, hs⟩, hv⟩ := Qeh r fr hp hs hv;obtain ⟨r2, rfl, hr2⟩ := Qig (h1.trans hr) h2;rw [Qhr] at hv;rw [wpOps_cons];refine wpOp_mono (fun a' w' hA =>?_) (Qhp ho hdef hs hco hv);obtain ⟨hd', ⟨fr', hp', hs', hv'⟩, _⟩ := hA;exact Qhs hQ gs is r2 fr' hp' a' w' (by simpa using hl) (fun k j g' h1 h2 => hc (k + 1) j g' (by simpa using h1) (by simpa using h2)) hd' hs' hr2 hv'
end Go.FW
namespace Go.FW
open Go
section
variable {P : Program} {ops : Array Oper} {Q : Exit -> Act -> World -> Prop}
def Qer (P : Program) (ops : Array Oper) (Q : Exit -> Act -> World -> Prop) (brk : Nat -> Bool) : Nat -> Array Bool -> Act -> World -> Prop
 | 0, listed, a, w => Region.ready .any ops listed = [] /\ Q .normal a w
 | fuel + 1, listed, a, w =>
  (Region.ready .any ops listed = [] -> Q .normal a w) /\
  ∀ i ∈ Region.ready .any ops listed, wpOp P ops Q i (fun a' w' => (brk i = false -> Ext Qm w w') /\ Qer P ops Q brk fuel (listed.setIfInBounds i true) a' w') a w
theorem Qfs (brk : Nat -> Bool) : ∀ (fuel : Nat) (listed : Array Bool) (a : Act) (w : World), Qer P ops Q brk fuel listed a w -> wpAny P .any ops Q fuel listed a w
 | 0, _, _, _, h => h
 | fuel + 1, _, _, _, h => ⟨h.1, fun i hi => wpOp_mono (fun a' w' h' => Qfs brk fuel _ a' w' h'.2) (h.2 i hi)⟩
def YF (P : Program) (ops : Array Oper) (all : Bool) (o : Oper) (v : Value) (a : Act) (w : World) : Prop :=
 (Region.wanted o (yielded ops a.tmps) = true /\ ∀ w', (all = true ∨ Ext Qm w w') -> (execOp a.eval o).run P w' = .ok (.value v) w') ∨
 (Region.wanted o (yielded ops a.tmps) = false /\ v = undef)
theorem YF.step {all : Bool} {o : Oper} {v : Value} {a a' : Act} {w w' : World} (hy : YF P ops all o v a w) (he : execOp a'.eval o = execOp a.eval o)
  (hw : Region.wanted o (yielded ops a'.tmps) = Region.wanted o (yielded ops a.tmps)) (hx : all = true ∨ Ext Qm w w') : YF P ops all o v a' w' := by
 unfold YF at *
 rw [he, hw];rcases hy with ⟨h1, h2⟩ | h
 ·refine .inl ⟨h1, fun w2 h3 => h2 w2 ?_⟩;rcases hx with hx | hx
  ·exact .inl hx
  ·rcases h3 with h3 | h3
   ·exact .inl h3
   ·exact .inr (hx.trans h3)
 ·exact .inr h
theorem YF.wpOp {all : Bool} {i : Nat} {o : Oper} {v : Value} {a : Act} {w : World} (hi : ops[i]? = some o) (hy : YF P ops all o v a w)
  {K : Act -> World -> Prop} (h : K (a.put o.dst v) w) : Go.wpOp P ops Q i K a w := by
 unfold Go.wpOp;simp only [hi];rcases hy with ⟨hw, hv⟩ | ⟨hw, rfl⟩
 ·simp only [hw, if_true, Oper.wp, hv w (.inr (Ext.refl _ _)), Oper.upon]; exact .inl h
 ·simp only [hw, Bool.false_eq_true, if_false]; exact h
theorem Qn9 {j : Nat} {oi oj : Oper} {v : Value} (hj : ops[j]? = some oj) (hap : oi.apart ops oj = true)
  (hsi : ∀ cs b, oi.op ≠ .select cs b) (hsj : ∀ cs b, oj.op ≠ .select cs b)
  (hQ : ∀ c a w, Q (.panic c) (a.put oi.dst v) w -> Q (.panic c) a w) {K : Act -> World -> Prop} {a : Act} {w : World}
  (h : Go.wpOp P ops Q j K (a.put oi.dst v) w) :
  Go.wpOp P ops Q j (fun a' w' => (execOp a'.eval oi = execOp a.eval oi /\ Region.wanted oi (yielded ops a'.tmps) = Region.wanted oi (yielded ops a.tmps)) /\ K (a'.put oi.dst v) w') a w := by
 obtain ⟨h1, h2, h3⟩ := Oper.apart_spec hap;have keep : ∀ u, execOp (a.put oj.dst u).eval oi = execOp a.eval oi /\ Region.wanted oi (yielded ops (a.put oj.dst u).tmps) = Region.wanted oi (yielded ops a.tmps) := fun u =>
  ⟨execOp_put oi hsi a oj.dst u h3, wanted_put oi a oj.dst u h3⟩
 have keepD : ∀ d u, execOp (({ a with defers := d :: a.defers } : Act).put oj.dst u).eval oi = execOp a.eval oi /\ Region.wanted oi (yielded ops (({ a with defers := d :: a.defers } : Act).put oj.dst u).tmps) = Region.wanted oi (yielded ops a.tmps) := fun d u =>
  ⟨(execOp_put oi hsi ({ a with defers := d :: a.defers } : Act) oj.dst u h3).trans rfl, (wanted_put oi ({ a with defers := d :: a.defers } : Act) oj.dst u h3).trans rfl⟩
 unfold Go.wpOp at *
 simp only [hj] at *
 rw [wanted_put oj a oi.dst v h1] at h;split
 ·rename_i hw;simp only [hw, if_true] at h;rcases h with h | ⟨hasks, hlets⟩
  case inr => exact .inr ⟨by unfold Oper.asks at *; rw [execOp_put oj hsj a oi.dst v h1] at hasks; exact hasks, hlets⟩
  refine .inl ?_;unfold Oper.wp at *
  rw [execOp_put oj hsj a oi.dst v h1] at h;generalize (execOp a.eval oj).run P w = r at *
  cases r with
  | ok n w' =>
   cases n <;> simp only [Oper.upon] at h ⊢
   case value u => exact ⟨keep u, by rw [<- Act.put_comm a v u h2]; exact h⟩
   case skip => exact ⟨keep _, by rw [<- Act.put_comm a v undef h2]; exact h⟩
   case defer d =>
    refine ⟨keepD d _, ?_⟩;rw [<- Act.put_comm _ v undef h2, <- Act.put_defers];exact h
   case enter f args =>
    refine Calls.mono h fun e w'' he =>?_;cases e with
    | returned u => exact ⟨keep u, by rw [<- Act.put_comm a v u h2]; exact he⟩
    | panicked c => exact hQ _ _ _ he
    | outgrown => exact he
   case row row args => exact Rows.mono h fun u w'' he => ⟨keep u, by rw [<- Act.put_comm a v u h2]; exact he⟩
  | halt x w' =>
   cases x <;> simp only [Oper.upon] at h ⊢
   case panic u => exact hQ _ _ _ h
 ·rename_i hw;simp only [hw] at h;exact ⟨keep _, by rw [<- Act.put_comm a v undef h2]; exact h⟩
def Qes (ops : Array Oper) (listed : Array Bool) : Prop := ∀ (j : Nat) (o : Oper), ops[j]? = some o -> listed.getD j false = true -> ∀ e ∈ o.after, Region.binds .any e = true -> listed.getD e.on false = true
theorem Qes.step {listed : Array Bool} {i : Nat} (h : Qes ops listed) (hi : i ∈ Region.ready .any ops listed) : Qes ops (listed.setIfInBounds i true) := by
 intro j o hj hl e he hb;obtain ⟨h0, oi, hoi, hall⟩ := mem_ready.1 hi;by_cases hij : i = j
 ·subst hij;rw [hj] at hoi; cases hoi;exact getD_set_true (hall e he hb)
 ·rw [getD_set_ne false hij] at hl;exact getD_set_true (h j o hj hl e he hb)
theorem Qe1 {listed : Array Bool} {i : Nat} (hd : Qes ops listed) : ∀ (n k : Nat), listed.getD k false = true -> Qbz ops n i k = true -> listed.getD i false = true
 | 0, _, _, h => by simp [Qbz] at h
 | n + 1, k, hk, h => by
  unfold Qbz at h;cases ho : ops[k]? with
  | none => simp [ho] at h
  | some o =>
   simp only [ho, List.any_eq_true, Bool.and_eq_true, Bool.or_eq_true, beq_iff_eq] at h;obtain ⟨e, he, hb, h⟩ := h;have hl := hd k o ho hk e (by simpa using he) hb;rcases h with h | h
   ·rw [<- h]; exact hl
   ·exact Qe1 hd n e.on hl h
theorem Qih {listed : Array Bool} {i j n : Nat} (hd : Qes ops listed) (hj : j ∈ Region.ready .any ops listed) (h : Qbz ops n i j = true) : listed.getD i false = true := by
 obtain ⟨_, o, ho, hall⟩ := mem_ready.1 hj;cases n with
 | zero => simp [Qbz] at h
 | succ n =>
  unfold Qbz at h;simp only [ho, List.any_eq_true, Bool.and_eq_true, Bool.or_eq_true, beq_iff_eq] at h;obtain ⟨e, he, hb, h⟩ := h;have hl := hall e (by simpa using he) hb;rcases h with h | h
  ·rw [<- h]; exact hl
  ·exact Qe1 hd n e.on hl h
theorem Qoa {listed : Array Bool} {i : Nat} (h0 : listed.getD i true = false) : ¬ listed.getD i false = true := by
 intro h1;rcases Nat.lt_or_ge i listed.size with h' | h'
 ·simp [h'] at h0 h1; rw [h0] at h1; cases h1
 ·simp [Array.getElem?_eq_none h'] at h1
theorem Qj8 {brk : Nat -> Bool} {all : Bool} {i : Nat} {oi : Oper} {v : Value} (hi : ops[i]? = some oi) (hsel : ∀ (j : Nat) (o : Oper) cs b, ops[j]? = some o -> o.op ≠ .select cs b)
  (hQ : ∀ c a w, Q (.panic c) (a.put oi.dst v) w -> Q (.panic c) a w)
  (hpre : all = true ∨ ∀ j, brk j = true -> j < ops.size -> Qbz ops ops.size i j = true ∨ j = i) :
  ∀ (fuel : Nat) (listed : Array Bool) (a : Act) (w : World), Qes ops listed ->
   (∀ j oj, ops[j]? = some oj -> j ≠ i -> listed.getD j true = false -> (∀ e ∈ oj.after, Region.binds .any e = true -> e.on ≠ i) -> oi.apart ops oj = true) ->
   i ∈ Region.ready .any ops listed -> YF P ops all oi v a w ->
   Qer P ops Q brk fuel (listed.setIfInBounds i true) (a.put oi.dst v) w -> Qer P ops Q brk (fuel + 1) listed a w := by
 intro fuel;induction fuel with
 | zero =>
  intro listed a w _ _ hr hy H;refine ⟨fun h => (by rw [h] at hr; cases hr), fun j hj =>?_⟩;by_cases hji : j = i
  ·subst hji; exact hy.wpOp hi ⟨fun _ => Ext.refl _ _, H⟩
  ·have := ready_mono hj hji;rw [H.1] at this;cases this
 | succ fuel ih =>
  intro listed a w hdown hfree hr hy H;refine ⟨fun h => (by rw [h] at hr; cases hr), fun j hj =>?_⟩;by_cases hji : j = i
  ·subst hji; exact hy.wpOp hi ⟨fun _ => Ext.refl _ _, H⟩
  ·have h1 := H.2 j (ready_mono hj hji);obtain ⟨hjun, oj, hoj, hall⟩ := mem_ready.1 hj;have hiun : ¬ listed.getD i false = true := Qoa (mem_ready.1 hr).1;have hnot : ∀ e ∈ oj.after, Region.binds .any e = true -> e.on ≠ i := fun e he hb heq => hiun (heq ▸ hall e he hb);have h2 := Qn9 hoj (hfree j oj hoj hji hjun hnot) (fun cs b => hsel i oi cs b hi) (fun cs b => hsel j oj cs b hoj) hQ h1;have hbrk : all = true ∨ brk j = false := by
    rcases hpre with h | h
    ·exact .inl h
    ·cases hb : brk j with
     | false => exact .inr rfl
     | true =>
      have hjlt : j < ops.size := (Array.getElem?_eq_some_iff.1 hoj).1;rcases h j hb hjlt with h | h
      ·exact absurd (Qih hdown hj h) hiun
      ·exact absurd h hji
   have hfree' : ∀ k ok, ops[k]? = some ok -> k ≠ i -> (listed.setIfInBounds j true).getD k true = false ->
     (∀ e ∈ ok.after, Region.binds .any e = true -> e.on ≠ i) -> oi.apart ops ok = true := fun k ok hk hki hun hno => by
    refine hfree k ok hk hki ?_ hno;by_cases hjk : j = k
    ·subst hjk; exact hjun
    ·rw [getD_set_ne true hjk] at hun; exact hun
   refine wpOp_mono (fun a' w' h3 =>?_) h2;obtain ⟨⟨he, hw⟩, hx, hrest⟩ := h3;refine ⟨hx, ih (listed.setIfInBounds j true) a' w' (hdown.step hj) hfree' (ready_mono hr (Ne.symm hji)) (hy.step he hw ?_) ?_⟩
   ·rcases hbrk with h | h
    ·exact .inl h
    ·exact .inr (hx h)
   ·rw [Array.setIfInBounds_comm _ _ hji];exact hrest
end
section
variable {C : Ctx} {ρ : Nat -> Option Nat} {fr : Fr} {hp : HP} {w : World} {a : Act} {K : Qa}
theorem Qgb {dr : Bool} {o : Oper} (hlt : ∀ d, o.dst = some d -> d < C.N) (h : Qg C ρ fr hp a.tmps w) (hv : Qb4 (Qu C.P dr o) fr hp K) : ∃ fr' hp', Qg C ρ fr' hp' (a.put o.dst undef).tmps w /\ K fr' hp' := by
 unfold Qb4 at hv;rw [Qn7] at hv;cases hd : o.dst with
 | some d => rw [hd] at hv; exact ⟨_, hp, h.upd Qb.tup0 (hlt d hd), hv⟩
 | none => rw [hd] at hv; exact ⟨fr, hp, h, hv⟩
theorem Quj {P : Program} {dr : Bool} {o : Oper} : (Qu P dr o).cls = (Qu P true o).cls := by
 cases dr with
 | true => rfl
 | false =>
  have h0 : (Qas P false o).map SOp.cls = (Qas P true o).map SOp.cls := by
   unfold Qas;split <;> first | rfl | skip
   split <;> first | rfl | skip
   rename_i f _;cases h1 : opd f with
   | none => simp
   | some pf =>simp only [Option.bind_some, Option.map_map];congr 1
  unfold Qu;cases h1 : Qas P false o <;> cases h2 : Qas P true o <;> simp_all [SOp.cls]
theorem Qgc {dr : Bool} {R : Qa} {sk : List It} {ops : Array Oper} {Q : Exit -> Act -> World -> Prop} (hns : Region.noSelect ops = true) (hQ : Qmf C (vc C R sk) Q) : ∀ (n : Nat) (listed : Array Bool) (r : RT) (fr : Fr) (hp : HP) (a : Act) (w : World),
  Qco C.P C.N dr ops n listed = some r.strip -> Qes ops listed -> a.defers = [] -> Sim C fr hp a.tmps w -> vc C R (.o r :: sk) fr hp ->
  Qer C.P ops (NoPanic Q) (Qgl C.P dr ops) n listed a w := by
 intro n;have done : ∀ (n : Nat) (listed : Array Bool) (r : RT) (fr : Fr) (hp : HP) (a : Act) (w : World), Region.ready .any ops listed = [] -> a.defers = [] -> Sim C fr hp a.tmps w -> r.strip = .nil -> vc C R (.o r :: sk) fr hp -> Qer C.P ops (NoPanic Q) (Qgl C.P dr ops) n listed a w := by
  intro n listed r fr hp a w hr hdef hs hr0 hv;obtain ⟨r', fr, hp, h1, h2, hs, hv⟩ := Qeh r fr hp hs hv;obtain rfl := Qiz (h1.trans hr0) h2;rw [Qhq] at hv;have hq : NoPanic Q .normal a w := hQ fr hp a w hdef hs hv;cases n with
  | zero => exact ⟨hr, hq⟩
  | succ n => exact ⟨fun _ => hq, by rw [hr]; simp⟩
 induction n with
 | zero =>
  intro listed r fr hp a w ho hd hdef hs hv;unfold Qco at ho;split at ho
  ·rename_i hr;exact done 0 listed r fr hp a w (by simpa using hr) hdef hs (Option.some.inj ho).symm hv
  ·cases ho
 | succ n ih =>
  intro listed r fr hp a w ho hd hdef hs hv;unfold Qco at ho;split at ho
  ·rename_i hr;exact done (n + 1) listed r fr hp a w (by simpa using hr) hdef hs (Option.some.inj ho).symm hv
  ·rename_i hr;obtain ⟨r', fr, hp, e1, e2, hs, hv⟩ := Qeh r fr hp hs hv;rw [<- e1] at ho;split at ho
   ·rename_i i hfind;have hstep := List.find?_some hfind;simp only [Option.bind_eq_some_iff, Option.map_eq_some_iff] at ho;obtain ⟨g, ⟨o, hoi, hcg⟩, r0, hr', he0⟩ := ho;obtain ⟨r', rfl, rfl⟩ := Qig he0.symm e2;unfold Qjq at hstep;simp only [Bool.and_eq_true, List.contains_iff_mem] at hstep;obtain ⟨⟨hready, hfree⟩, hcls⟩ := hstep;have hca : Qew C.P ops i = (Qu C.P dr o).cls := by rw [Quj]; simp [Qew, hoi]
    rw [Qhr] at hv;obtain ⟨ρ, hsr⟩ := hs;obtain ⟨hlt, hgo, hcase⟩ := Qgv hsr hcg hv;rw [hgo] at hcase;have hpre : ∀ all : Bool, (all = false -> Qew C.P ops i = 1) -> all = true ∨ ∀ j, Qgl C.P dr ops j = true -> j < ops.size -> Qbz ops ops.size i j = true ∨ j = i := by
     intro all hall;cases all with
     | true => exact .inl rfl
     | false =>
      refine .inr fun j hj hjl =>?_;rw [hall rfl] at hcls;have := List.all_eq_true.1 hcls j (by simpa using hjl);simp only [Bool.or_eq_true, Bool.not_eq_true'] at this;rcases this with h | h
      ·rw [hj] at h; cases h
      ·exact .inl h
    have fin : ∀ (all : Bool) (v : Value), (all = false -> Qew C.P ops i = 1) -> YF C.P ops all o v a w -> (∃ fr' hp', Qg C ρ fr' hp' (a.put o.dst v).tmps w /\ vc C R (.o r' :: sk) fr' hp') -> Qer C.P ops (NoPanic Q) (Qgl C.P dr ops) (n + 1) listed a w := by
     intro all v hall hy ⟨fr', hp', hs', hv'⟩;exact Qj8 hoi (Region.noSelect_spec hns) (fun _ _ _ h => h) (hpre all hall) n listed a w hd (Region.free_spec hoi hfree) hready hy
      (ih _ r' fr' hp' _ w hr' (hd.step hready) (by rw [Qb1]; exact hdef) ⟨ρ, hs'⟩ hv')
    rcases hcase with ⟨hw, hv⟩ | ⟨hw, hv⟩
    ·by_cases h0 : Qew C.P ops i = 0
     ·obtain ⟨v, hrun, hrest⟩ := Qhn (by rw [<- hca]; exact h0) hlt hsr hv;exact fin true v (by simp) (.inl ⟨hw, fun w' _ => hrun w'⟩) hrest
     ·by_cases h1 : Qew C.P ops i = 1
      ·obtain ⟨v, b, hb, hrun, hrest⟩ := Qho (by rw [<- hca]; exact h1) hlt hsr hv;exact fin false v (fun _ => h1) (.inl ⟨hw, fun w' hw' => hrun w' (hw'.elim (fun h => by cases h) (fun h => h.block b hb (fun h => h)))⟩) hrest
      ·split at hcls
       ·rename_i h; exact absurd h h0
       ·rename_i h; exact absurd h h1
       ·cases hcls
    ·by_cases h1 : Qew C.P ops i = 1
     ·exact fin false undef (fun _ => h1) (.inr ⟨hw, rfl⟩) (Qgb hlt hsr hv)
     ·exact fin true undef (by simp) (.inr ⟨hw, rfl⟩) (Qgb hlt hsr hv)
   ·
    simp only [Option.map_eq_some_iff] at ho;obtain ⟨rs, hrs, he0⟩ := ho;obtain ⟨m1, m2⟩ := Qbl hrs;have hbr : ∀ (rs : List RT) (r' : RT) (fr : Fr) (hp : HP), r'.strip = brs rs -> Sim C fr hp a.tmps w -> vc C R (.o r' :: sk) fr hp -> ∀ r ∈ rs, ∃ r2 fr2 hp2, r2.strip = r /\ (∀ x, r2 ≠ .wk x) /\ Sim C fr2 hp2 a.tmps w /\ vc C R (.o r2 :: sk) fr2 hp2 := by
     intro rs;induction rs with
     | nil => intro _ _ _ _ _ _ r hr; cases hr
     | cons x xs ihx =>
      intro r' fr hp hr' hs hv r hr;obtain ⟨r2, fr2, hp2, f1, f2, hs, hv⟩ := Qeh r' fr hp hs hv;cases xs with
      | nil => simp at hr; subst hr; exact ⟨r2, fr2, hp2, f1.trans hr', f2, hs, hv⟩
      | cons y ys =>
       rw [brs] at hr'
       ·obtain ⟨a', b', rfl, g1, g2⟩ := Qqe (f1.trans hr') f2;rw [Qsd] at hv;rcases List.mem_cons.1 hr with rfl | hr
        ·obtain ⟨r3, fr3, hp3, k1, k2, k3, k4⟩ := Qeh a' fr2 hp2 hs hv.1;exact ⟨r3, fr3, hp3, k1.trans g1, k2, k3, k4⟩
        ·exact ihx b' fr2 hp2 g2 hs hv.2 r hr
       ·simp
    refine ⟨fun h0 => absurd (by rw [h0]; rfl) hr, fun i hi =>?_⟩;obtain ⟨k, hk⟩ := List.getElem?_of_mem hi;have hkl : k < rs.length := by rw [m1]; exact (List.getElem?_eq_some_iff.1 hk).1
    obtain ⟨i', hi', hf⟩ := m2 k _ (List.getElem?_eq_getElem hkl);rw [hk] at hi'; cases hi';simp only [Option.bind_eq_some_iff, Option.map_eq_some_iff] at hf;obtain ⟨g, ⟨o, hoi, hcg⟩, r0, hr', he⟩ := hf;obtain ⟨r2, fr2, hp2, f1, f2, hs, hv'⟩ := hbr rs r' fr hp he0.symm hs hv _ (List.getElem_mem hkl);obtain ⟨r', rfl, rfl⟩ := Qig (f1.trans he.symm) f2;rw [Qhr] at hv';obtain ⟨ρ, hsr⟩ := hs;refine wpOp_mono (fun a' w' hA =>?_) (Qhp hoi hdef hsr hcg hv');obtain ⟨hd', ⟨fr', hp', hs', hv2⟩, hx⟩ := hA;refine ⟨fun hb => hx ?_, ih _ r' fr' hp' a' w' hr' (hd.step hi) hd' hs' hv2⟩;simpa [Qgl, hoi] using hb
theorem Sim.drew {tmps : Array Value} (h : Sim C fr hp tmps w) : Sim C fr hp tmps { w with drawn := w.drawn + 1 } := by obtain ⟨ρ, hs⟩ := h;exact ⟨ρ, hs.grow (Ext.drew w _)⟩
theorem Qes.start (ops : Array Oper) : Qes ops (Array.replicate ops.size false) := by intro j o _ hl;exfalso;simp [Array.getD] at hl
theorem Qg4 {s : SC} {r : RT} (h : s.strip = .rg r) : ∃ r', s = .rg r' /\ r'.strip = r := by
 cases s with
 | rg r' => simp only [SC.strip, SC.rg.injEq] at h; exact ⟨r', rfl, h⟩
 | _ => simp [SC.strip] at h
theorem Qj9 {R : Qa} {sk : List It} {ops : Array Oper} {draw : Bool} {id : Nat} {s : SC} {Q : Exit -> Act -> World -> Prop} (hm : C.P.follows .mixedOrders = true) (hQ : Qmf C (vc C R sk) Q)
  (hc : Qen C.P C.N ops draw = some s.strip) (hdef : a.defers = []) (hs : Sim C fr hp a.tmps w) (hv : vc C R (.c s :: sk) fr hp) : (Code.region id ops draw).wp C.P Q a w := by
 unfold Qen at hc;split at hc
 ·rename_i hd;subst hd;split at hc
  ·rename_i hns;have key : ∀ (dr : Bool) (most : Nat) (s : SC), Qem C.P C.N ops dr most = some s.strip -> vc C R (.c s :: sk) fr hp -> (Code.region id ops true).wp C.P Q a w := by
    intro dr most s hc hv;unfold Qem at hc;split at hc
    ·cases hc
    split at hc
    ·rename_i r0 hr;split at hc
     ·obtain ⟨r, rfl, rfl⟩ := Qg4 (Option.some.inj hc).symm;rw [vc] at hv;exact wp_region_noPanic (wp_region_any hm (Qfs _ _ _ _ _ (Qgc hns hQ _ _ r fr hp a _ hr (Qes.start ops) hdef hs.drew hv)))
     ·cases hc
    ·cases hc
   split at hc
   ·rename_i s' hs';cases hc;split at hs'
    ·simp only [Option.map_eq_some_iff] at hs';obtain ⟨r0, hr, he⟩ := hs';obtain ⟨r, rfl, rfl⟩ := Qg4 he.symm;rw [vc] at hv;exact wp_region_noPanic (wp_region_any hm (Qfs _ _ _ _ _ (Qgc hns hQ _ _ r fr hp a _ (Qct _ _ _ hr) (Qes.start ops) hdef hs.drew hv)))
    ·cases hs'
   ·exact key _ _ _ hc hv
  ·cases hc
 ·rename_i hd;have hdf : draw = false := by simpa using hd
  subst hdf;simp only [Option.map_eq_some_iff] at hc;obtain ⟨gs, hgs, he⟩ := hc;obtain ⟨r, rfl, hr⟩ := Qg4 he.symm;rw [vc] at hv;obtain ⟨m1, m2⟩ := Qbl hgs;refine wp_region (Qhs hQ gs (List.range ops.size) r fr hp a w (by simp [m1]) (fun k i g hk hg =>?_) hdef hs hr hv);obtain ⟨o, ho, hco⟩ := m2 k g hg;have hkl : k < ops.size := by have := (List.getElem?_eq_some_iff.1 hk).1; simpa using this
  rw [List.getElem?_range hkl] at hk;cases hk;exact ⟨o, by simpa using ho, hco⟩
end
end Go.FW
namespace Go.FW
open Go
variable {C : Ctx} {ρ : Nat -> Option Nat} {fr : Fr} {hp : HP} {w : World} {a : Act} {K R : Qa}
structure Quk (C : Ctx) (R : Qa) (sk : List It) (Q : Exit -> Act -> World -> Prop) : Prop where
 nrm : Qmf C (vc C R sk) Q
 ext : ∀ id sk', FW.Qs id sk = some sk' -> ∀ fr hp (a : Act) w, a.defers = [] -> Sim C fr hp a.tmps w -> vc C R sk' fr hp -> Q (.exit id) a w
 ret : ∀ fr hp (a : Act) w, a.defers = [] -> Sim C fr hp a.tmps w -> R fr hp -> Q .ret a w
theorem Qka {sk : List It} {x y : SC} : vc C R (.c (.seq x y) :: sk) fr hp = vc C R (.c x :: .c y :: sk) fr hp := by rw [vc]
theorem Qg5 {sk : List It} {id : Nat} {x : SC} : vc C R (.c (.block id x) :: sk) fr hp = vc C R (.c x :: .eb id :: sk) fr hp := by rw [vc]
theorem Qii {sk : List It} : vc C R (.c .skip :: sk) fr hp = vc C R sk fr hp := by rw [vc]
theorem Qse {sk : List It} {r : RT} : vc C R (.c (.rg r) :: sk) fr hp = vc C R (.o r :: sk) fr hp := by rw [vc]
theorem Qmg {sk : List It} {id : Nat} : vc C R (.eb id :: sk) fr hp = vc C R sk fr hp := by rw [vc]
theorem Qji {sk : List It} {J : Qa} : vc C R (.el J :: sk) fr hp = J fr hp := by rw [vc]
theorem Qkb {sk : List It} : vc C R (.c .ret :: sk) fr hp = R fr hp := by rw [vc]
theorem Qht : vc C R [] fr hp = R fr hp := by rw [vc]
def Qgm (c : PV) (A B : Prop) : Prop := match c with
 |.bool t => (t = true -> A) /\ (t = false -> B)
 | _ => False
theorem Qij {sk : List It} {c : Opd} {x y : SC} : vc C R (.c (.cond c x y) :: sk) fr hp = Qgm (ev fr c) (vc C R (.c x :: sk) fr hp) (vc C R (.c y :: sk) fr hp) := by rw [vc]; rfl
def Qgn (C : Ctx) (R : Qa) (sk : Option (List It)) (fr : Fr) (hp : HP) : Prop := match sk with
 | some sk => vc C R sk fr hp
 | none => False
theorem Qik {sk : List It} {id : Nat} : vc C R (.c (.exit id) :: sk) fr hp = Qgn C R (FW.Qs id sk) fr hp := by
 rw [vc];unfold Qgn;split
 ·rename_i h; rw [h]
 ·rename_i h; rw [h]
theorem Qdh {sk : List It} {x : SC} : vc C R (.c (.loop x) :: sk) fr hp = ∃ (I : Qa) (μ : Fr -> HP -> Nat), (∃ fr0 hp0, Wk fr hp fr0 hp0 /\ I fr0 hp0) /\ ∀ fr hp, I fr hp -> vc C R (.c x :: .el (fun fr' hp' => ∃ fr0 hp0, Wk fr' hp' fr0 hp0 /\ I fr0 hp0 /\ μ fr0 hp0 < μ fr hp) :: sk) fr hp := by rw [vc]
theorem Wk.trans {fr1 fr2 fr3 : Fr} {hp1 hp2 hp3 : HP} (h : Wk fr1 hp1 fr2 hp2) (k : Wk fr2 hp2 fr3 hp3) : Wk fr1 hp1 fr3 hp3 := fun C t w hs => k C t w (h C t w hs)
def Qgo (I : Qa) (μ : Fr -> HP -> Nat) (n : Nat) : Qa := fun fr' hp' => ∃ fr0 hp0, Wk fr' hp' fr0 hp0 /\ I fr0 hp0 /\ μ fr0 hp0 < n
theorem Qqf {sk : List It} {x : SC} (I : Qa) (μ : Fr -> HP -> Nat) {fr0 : Fr} {hp0 : HP} (hw : Wk fr hp fr0 hp0) (h0 : I fr0 hp0) (h : ∀ fr hp, I fr hp -> vc C R (.c x :: .el (Qgo I μ (μ fr hp)) :: sk) fr hp) : vc C R (.c (.loop x) :: sk) fr hp := by rw [Qdh]; exact ⟨I, μ, ⟨fr0, hp0, hw, h0⟩, h⟩
theorem Qmh {s : SC} (h : s.strip = .skip) : s = .skip := by cases s <;> simp [SC.strip] at h ⊢
theorem Qob {s : SC} (h : s.strip = .ret) : s = .ret := by cases s <;> simp [SC.strip] at h ⊢
theorem Qmi {s : SC} {id : Nat} (h : s.strip = .exit id) : s = .exit id := by cases s <;> simp [SC.strip] at h ⊢; exact h
theorem Qoc {s : SC} {id : Nat} {ops : Array Oper} (h : s.strip = .raw id ops) : s = .raw id ops := by cases s <;> simp [SC.strip] at h ⊢; exact h
theorem Qod {s a b : SC} (h : s.strip = .seq a b) : ∃ a' b', s = .seq a' b' /\ a'.strip = a /\ b'.strip = b := by cases s <;> simp [SC.strip] at h; exact ⟨_, _, rfl, h.1, h.2⟩
theorem Qmj {s a b : SC} {c : Opd} (h : s.strip = .cond c a b) : ∃ a' b', s = .cond c a' b' /\ a'.strip = a /\ b'.strip = b := by
 cases s with
 | cond c' a' b' => simp only [SC.strip, SC.cond.injEq] at h; obtain ⟨rfl, h1, h2⟩ := h; exact ⟨a', b', rfl, h1, h2⟩
 | _ => simp [SC.strip] at h
theorem Qk8 {s a : SC} {id : Nat} (h : s.strip = .block id a) : ∃ a', s = .block id a' /\ a'.strip = a := by
 cases s with
 | block c' a' => simp only [SC.strip, SC.block.injEq] at h; obtain ⟨rfl, h1⟩ := h; exact ⟨a', rfl, h1⟩
 | _ => simp [SC.strip] at h
theorem Qmk {s a : SC} (h : s.strip = .loop a) : ∃ a', s = .loop a' /\ a'.strip = a := by
 cases s with
 | loop a' => simp only [SC.strip, SC.loop.injEq] at h; exact ⟨a', rfl, h⟩
 | _ => simp [SC.strip] at h
theorem Qk9 (hm : C.P.follows .mixedOrders = true) : ∀ (c : Code) (s : SC) (sk : List It) (Q : Exit -> Act -> World -> Prop) (fr : Fr) (hp : HP) (a : Act) (w : World),
  Q7 C.P C.N c = some s.strip -> Quk C R sk Q -> a.defers = [] -> Sim C fr hp a.tmps w -> vc C R (.c s :: sk) fr hp -> c.wp C.P Q a w := by
 intro c;induction c with
 | skip =>intro s sk Q fr hp a w hc hL hd hs hv;simp only [Q7, Option.some.injEq] at hc; obtain rfl := Qmh hc.symm;rw [Qii] at hv;exact wp_skip (hL.nrm fr hp a w hd hs hv)
 | region id ops draw =>
  intro s sk Q fr hp a w hc hL hd hs hv;simp only [Q7] at hc;split at hc
  ·rename_i s' hs';rw [hc] at hs';exact Qj9 hm hL.nrm hs' hd hs hv
  ·split at hc
   ·rename_i hdr;obtain rfl := Qoc (Option.some.inj hc).symm;have hdr' : draw = true := hdr;subst hdr';rw [vc] at hv;obtain ⟨tmps, defers⟩ := a;simp only at hd hs;subst hd;exact hv tmps w Q hs (fun fr' hp' tmps' w' hs' hv' => hL.nrm fr' hp' _ w' rfl hs' hv')
   ·cases hc
 | seq x y ihx ihy =>
  intro s sk Q fr hp a w hc hL hd hs hv;simp only [Q7, Option.bind_eq_some_iff, Option.map_eq_some_iff] at hc;obtain ⟨sx, hx, sy, hy, he⟩ := hc;obtain ⟨sx, sy, rfl, rfl, rfl⟩ := Qod he.symm;rw [Qka] at hv;refine wp_seq (ihx sx (.c sy :: sk) _ fr hp a w hx ⟨fun fr hp a w hd hs hv =>?_, fun id sk' he fr hp a w hd hs hv =>?_, fun fr hp a w hd hs hv =>?_⟩ hd hs hv)
  ·exact ihy sy sk Q fr hp a w hy hL hd hs hv
  ·exact hL.ext id sk' (by simpa [FW.Qs] using he) fr hp a w hd hs hv
  ·exact hL.ret fr hp a w hd hs hv
 | cond c x y ihx ihy =>
  intro s sk Q fr hp a w hc hL hd hs hv;simp only [Q7, Option.bind_eq_some_iff, Option.map_eq_some_iff] at hc;obtain ⟨pc, hpc, sx, hx, sy, hy, he⟩ := hc;obtain ⟨sx, sy, rfl, rfl, rfl⟩ := Qmj he.symm;rw [Qij] at hv;obtain ⟨ρ, hsr⟩ := hs;have hr := Qj hsr hpc;unfold Qgm at hv;split at hv
  ·rename_i t ht;rw [ht] at hr;exact wp_cond_split hr.bool_inv (fun h => ihx sx sk Q fr hp a w hx hL hd ⟨ρ, hsr⟩ (hv.1 h)) (fun h => ihy sy sk Q fr hp a w hy hL hd ⟨ρ, hsr⟩ (hv.2 h))
  ·exact hv.elim
 | block id x ihx =>
  intro s sk Q fr hp a w hc hL hd hs hv;simp only [Q7, Option.map_eq_some_iff] at hc;obtain ⟨sx, hx, he⟩ := hc;obtain ⟨sx, rfl, rfl⟩ := Qk8 he.symm;rw [Qg5] at hv;refine wp_block (ihx sx (.eb id :: sk) _ fr hp a w hx ⟨fun fr hp a w hd hs hv =>?_, fun id' sk' he fr hp a w hd hs hv =>?_, fun fr hp a w hd hs hv =>?_⟩ hd hs hv)
  ·rw [Qmg] at hv; exact hL.nrm fr hp a w hd hs hv
  ·simp only [FW.Qs] at he;simp only [Exit.inBlock];by_cases hi : id = id'
   ·subst hi; simp only [if_true] at he ⊢; cases he; exact hL.nrm fr hp a w hd hs hv
   ·rw [if_neg hi] at he; rw [if_neg (fun e => hi e.symm)]; exact hL.ext id' sk' he fr hp a w hd hs hv
  ·exact hL.ret fr hp a w hd hs hv
 | loop x ihx =>
  intro s sk Q fr hp a w hc hL hd hs hv;simp only [Q7, Option.map_eq_some_iff] at hc;obtain ⟨sx, hx, he⟩ := hc;obtain ⟨sx, rfl, rfl⟩ := Qmk he.symm;rw [Qdh] at hv;obtain ⟨I, μ, ⟨fr0, hp0, hwk, h0⟩, hround⟩ := hv;have key : ∀ (n : Nat) (fr : Fr) (hp : HP) (a : Act) (w : World), μ fr hp < n -> I fr hp -> a.defers = [] -> Sim C fr hp a.tmps w -> Code.rounds C.P x Q n a w := by
   intro n;induction n with
   | zero => intro _ _ _ _ h; omega
   | succ n ih =>
    intro fr hp a w hlt hI hd hs;rw [rounds_succ];refine ihx sx _ _ fr hp a w hx ⟨fun fr' hp' a' w' hd' hs' hv' =>?_, fun id sk' he fr hp a w hd hs hv =>?_, fun fr hp a w hd hs hv =>?_⟩ hd hs (hround fr hp hI)
    ·rw [Qji] at hv';obtain ⟨fr2, hp2, hw2, hI2, hlt2⟩ := hv';exact ih fr2 hp2 a' w' (by omega) hI2 hd' (hw2 _ _ _ hs')
    ·exact hL.ext id sk' (by simpa [FW.Qs] using he) fr hp a w hd hs hv
    ·exact hL.ret fr hp a w hd hs hv
  exact wp_loop_rounds (μ fr0 hp0 + 1) (key _ fr0 hp0 a w (Nat.lt_succ_self _) h0 hd (hwk _ _ _ hs))
 | exit id =>
  intro s sk Q fr hp a w hc hL hd hs hv;simp only [Q7, Option.some.injEq] at hc; obtain rfl := Qmi hc.symm;rw [Qik] at hv;unfold Qgn at hv;split at hv
  ·rename_i sk' he;exact wp_exit (hL.ext id sk' he fr hp a w hd hs hv)
  ·exact hv.elim
 | ret =>intro s sk Q fr hp a w hc hL hd hs hv;simp only [Q7, Option.some.injEq] at hc; obtain rfl := Qob hc.symm;rw [Qkb] at hv;exact wp_ret (hL.ret fr hp a w hd hs hv)
 | _ => intro s sk Q fr hp a w hc; simp [Q7] at hc
theorem Qml (hm : C.P.follows .mixedOrders = true) (c : Code) (s : SC) (sk : List It) (Q : Exit -> Act -> World -> Prop) (fr : Fr) (hp : HP) (a : Act) (w : World)
  (hc : Q7 C.P C.N c = some s) (hL : Quk C R sk Q) (hd : a.defers = []) (hs : Sim C fr hp a.tmps w) (hv : vc C R (.c s :: sk) fr hp) : c.wp C.P Q a w :=
 Qk9 hm c s sk Q fr hp a w (by rw [Qjc _ _ hc]; exact hc) hL hd hs hv
def PV.le1 : PV -> PV -> Prop
 |.nilS, .sl _ [] => True
 | p, q => p = q
def PV.leL : List PV -> List PV -> Prop
 | [], [] => True
 | p :: ps, q :: qs => PV.le1 p q /\ PV.leL ps qs
 | _, _ => False
def PV.le : PV -> PV -> Prop
 |.agg ps, .agg qs => PV.leL ps qs
 | p, q => PV.le1 p q
def PV.leT : List PV -> List PV -> Prop
 | [], [] => True
 | p :: ps, q :: qs => PV.le p q /\ PV.leT ps qs
 | _, _ => False
def PV.leR : PV -> PV -> Prop
 |.tup ps, .tup qs => PV.leT ps qs
 | p, q => PV.le p q
theorem Qbp (p : PV) : PV.le1 p p := by cases p <;> first | rfl | (unfold PV.le1; split <;> trivial)
theorem Qkc : ∀ (l : List PV), PV.leL l l
 | [] => trivial
 | p :: ps => ⟨Qbp p, Qkc ps⟩
theorem Qag (p : PV) : PV.le p p := by cases p <;> first | exact Qkc _ | (simp only [PV.le]; exact Qbp _)
theorem Qc.le {X : Nat -> Prop} {p q : PV} {v : Value} (h : Qc w X p v) (hl : PV.le1 p q) : Qc w X q v := by
 unfold PV.le1 at hl;split at hl
 ·cases h; exact .slE _ _ _ (Nat.zero_le _)
 ·subst hl; exact h
theorem Qlm : ∀ (ps qs : List PV), PV.leL ps qs -> qs.length = ps.length /\ ∀ (i : Nat) (q : PV), qs[i]? = some q -> ∃ p, ps[i]? = some p /\ PV.le1 p q
 | [], [], _ => ⟨rfl, by simp⟩
 | [], _ :: _, h => h.elim
 | _ :: _, [], h => h.elim
 | p :: ps, q :: qs, h => by
  obtain ⟨h1, h2⟩ := Qlm ps qs h.2;refine ⟨by simp [h1], fun i x hx =>?_⟩;cases i with
  | zero => simp at hx; subst hx; exact ⟨p, rfl, h.1⟩
  | succ i => simp at hx; simpa using h2 i x hx
theorem Qil : ∀ (ps qs : List PV), PV.leT ps qs -> qs.length = ps.length /\ ∀ (i : Nat) (q : PV), qs[i]? = some q -> ∃ p, ps[i]? = some p /\ PV.le p q
 | [], [], _ => ⟨rfl, by simp⟩
 | [], _ :: _, h => h.elim
 | _ :: _, [], h => h.elim
 | p :: ps, q :: qs, h => by
  obtain ⟨h1, h2⟩ := Qil ps qs h.2;refine ⟨by simp [h1], fun i x hx =>?_⟩;cases i with
  | zero => simp at hx; subst hx; exact ⟨p, rfl, h.1⟩
  | succ i => simp at hx; simpa using h2 i x hx
theorem Qk.le {X : Nat -> Prop} {p q : PV} {v : Value} (h : Qk w X p v) (hl : PV.le p q) : Qk w X q v := by
 by_cases hp : ∃ ps, p = .agg ps
 ·obtain ⟨ps, rfl⟩ := hp;by_cases hq : ∃ qs, q = .agg qs
  ·obtain ⟨qs, rfl⟩ := hq;obtain ⟨h1, h2⟩ := Qlm ps qs hl;obtain ⟨vs, rfl, g1, g2⟩ := h;refine ⟨vs, rfl, by omega, fun i x hx =>?_⟩;obtain ⟨p, hp, hle⟩ := h2 i x hx;exact (g2 i p hp).le hle
  ·have : PV.le1 (.agg ps) q := by cases q <;> first | exact hl | exact absurd ⟨_, rfl⟩ hq
   have : q = .agg ps := by
    unfold PV.le1 at this;split at this
    ·rename_i h1; cases h1
    ·exact this.symm
   exact absurd ⟨_, this⟩ hq
 ·have h1 : Qc w X p v := by cases p <;> first | exact h | exact absurd ⟨_, rfl⟩ hp
  have h2 : PV.le1 p q := by cases p <;> first | exact hl | exact absurd ⟨_, rfl⟩ hp
  exact Qk.of_c (h1.le h2)
theorem Qbj.le {X : Nat -> Prop} {p q : PV} {v : Value} (h : Qbj w X p v) (hl : PV.leR p q) : Qbj w X q v := by
 by_cases hp : ∃ ps, p = .tup ps
 ·obtain ⟨ps, rfl⟩ := hp;by_cases hq : ∃ qs, q = .tup qs
  ·obtain ⟨qs, rfl⟩ := hq;obtain ⟨h1, h2⟩ := Qil ps qs hl;obtain ⟨vs, rfl, g1, g2⟩ := h;refine ⟨vs, rfl, by omega, fun i x hx =>?_⟩;obtain ⟨p, hp, hle⟩ := h2 i x hx;exact (g2 i p hp).le hle
  ·have : PV.le (.tup ps) q := by cases q <;> first | exact hl | exact absurd ⟨_, rfl⟩ hq
   have : PV.le1 (.tup ps) q := this;have : q = .tup ps := by
    unfold PV.le1 at this;split at this
    ·rename_i h1; cases h1
    ·exact this.symm
   exact absurd ⟨_, this⟩ hq
 ·have h1 : Qk w X p v := by cases p <;> first | exact h | exact absurd ⟨_, rfl⟩ hp
  have h2 : PV.le p q := by cases p <;> first | exact hl | exact absurd ⟨_, rfl⟩ hp
  exact Qbj.of1 (h1.le h2)
def Qkd (P : Program) (f : FuncId) : Prop := (P.funcs[f]?).any (fun fn => fn.body.isSome && fn.name != "runtime.NumGoroutine") = true
def Qo (P : Program) (f : FuncId) (args : List PV) (R : PV -> Prop) : Prop :=
 Qkd P f /\ ∀ (w : World) (X : Nat -> Prop) (vals : Array Value), (∀ b, X b -> b < w.heap.size) -> vals.size = args.length -> (∀ (i : Nat) (x : PV), args[i]? = some x -> Qk w X x (vals.getD i undef)) ->
  Calls P f vals w fun e w' => ∃ v r, e = .returned v /\ Ext Qm w w' /\ Qbj w' X r v /\ R r
theorem Qo.le {P : Program} {f : FuncId} {args args' : List PV} {R : PV -> Prop} (h : Qo P f args R) (hl : PV.leT args' args) : Qo P f args' R := by obtain ⟨h1, h2⟩ := Qil _ _ hl;refine ⟨h.1, fun w X vals g1 g2 g3 => h.2 w X vals g1 (by omega) (fun i x hx =>?_)⟩;obtain ⟨p, hp, hle⟩ := h2 i x hx;exact (g3 i p hp).le hle
def Qke (args : List PV) : Fr := fun i => (args[i]?).getD .undef
def okR (fr : Fr) (hp : HP) : RV -> Prop
 |.t s => (Qh hp (fr s)).isData = true
 |.cell s n ag => match fr s with
  |.mp β i o => match hp β with
   | some hb => i < hb.xs.length /\ o + n <= hb.e /\ (ag = false -> n = 1)
   | none => False
  | _ => False
def rvP (fr : Fr) (hp : HP) : RV -> PV
 |.t s => Qh hp (fr s)
 |.cell s n ag => match fr s with
  |.mp β i o => match hp β with
   | some hb => ldV ag n o ((hb.xs[i]?).getD .undef)
   | none =>.undef
  | _ =>.undef
def Qce (rs : List RV) (R : PV -> Prop) : Qa := fun fr hp => match rs with
 | [r] => okR fr hp r /\ ∃ p, PV.le (rvP fr hp r) p /\ R p
 | rs => (∀ r ∈ rs, okR fr hp r) /\ ∃ p, PV.leR (.tup (rs.map (rvP fr hp))) p /\ R p
def Qkf (tmps : Array Value) : ResultVar -> Sem Value
 |.tmp t => pure (tmps.getD t undef)
 |.cell x t => do loadVar t (<- asAddr (tmps.getD x undef))
def lr (fr : Fr) : RV -> List Nat
 |.t s => (fr s).refs
 |.cell _ _ _ => []
theorem Qkg {l l' : List Nat} (h : ∀ β ∈ l, β ∈ l') {b : Nat} (hx : Xof C ρ (Ql hp l') b) : Xof C ρ (Ql hp l) b := by
 rcases hx with hx | ⟨γ, hg, h1, h2, h3⟩
 ·exact .inl hx
 ·obtain ⟨hg0, g1, _, _, _, g5, g6⟩ := Qdw h1;refine .inr ⟨γ, hg0, ?_, by rw [<- g5 h2]; exact h2, h3⟩;have hn : γ ∉ l := fun hl => g6 h2 (h γ hl);unfold Ql;rw [if_neg (by simpa using hn)];exact g1
theorem Qmm : Ql hp [] = hp := by funext β; simp [Ql]
theorem Qmn {p : PV} (h : (Qh hp p).isData = true) : ∀ β ∈ p.refs, isY β = false := by
 have h1 : ∀ q : PV, (Qw hp q).notU = true -> ∀ β ∈ q.ref1, isY β = false := by
  intro q hq β hβ;cases q with
  | mp γ i o => simp only [PV.ref1, List.mem_singleton] at hβ; subst hβ; cases hy : isY β with
   | false => rfl
   | true => simp [Qw, hy, PV.notU] at hq
  | mso γ o n => simp only [PV.ref1, List.mem_singleton] at hβ; subst hβ; cases hy : isY β with
   | false => rfl
   | true => simp [Qw, hy, PV.notU] at hq
  | rb => simp [Qw, PV.notU] at hq
  | _ => cases hβ
 intro β hβ;cases p with
 | mp γ i o => exact h1 (.mp γ i o) (by cases hq : Qw hp (.mp γ i o) <;> simp_all [Qh, PV.isData, PV.notU]) β hβ
 | mso γ o n => exact h1 (.mso γ o n) (by cases hq : Qw hp (.mso γ o n) <;> simp_all [Qh, PV.isData, PV.notU]) β hβ
 | rb => simp [Qh, Qw, PV.isData] at h
 | fn f first cap =>
  simp only [Qh, PV.isData, Bool.and_eq_true, List.all_map, List.all_eq_true] at h;rcases List.mem_append.1 hβ with hβ | hβ
  ·obtain ⟨x, hx, hβ⟩ := List.mem_flatMap.1 hβ; exact h1 x (h.1 x hx) β hβ
  ·obtain ⟨x, hx, hβ⟩ := List.mem_flatMap.1 hβ; exact h1 x (h.2 x hx) β hβ
 | _ => cases hβ
theorem Qw1 {rv : RV} (h : okR fr hp rv) : ∀ β ∈ lr fr rv, isY β = false := by
 cases rv with
 | t s => exact Qmn h
 | cell => intro β hβ; cases hβ
theorem Qqg {P : Program} (hP : C.P = P) {r : ResultVar} {rv : RV} (hc : Qcd P r = some rv) (h : Qg C ρ fr hp a.tmps w) (ho : okR fr hp rv) :
  ∃ v, (Qkf a.tmps r).run P w = .ok v w /\ Qk w (Xof C ρ (Ql hp (lr fr rv))) (rvP fr hp rv) v := by
 subst hP;cases r with
 | tmp t =>simp [Qcd] at hc; subst hc;exact ⟨_, rfl, Qb0 h (h.slots t) (fun β hβ => hβ) ho⟩
 | cell x t =>
  simp only [Qcd, Option.bind_eq_some_iff, Option.map_eq_some_iff] at hc;obtain ⟨n, hn, ag, hag, rfl⟩ := hc;have hx := h.slots x;simp only [okR] at ho;split at ho
  ·rename_i β i o hfx;rw [hfx] at hx;split at ho
   ·rename_i hb hβ;obtain ⟨h1, h2, h3⟩ := ho;obtain ⟨b, hb2, g1, g2, g3⟩ := hx.mp_inv;rw [hβ] at g2; cases g2;have hown := h.own β hb hβ;have hblk := hown.blk;rw [g1] at hblk;obtain ⟨_, hlt', cur, cap, c1, c2, c3, c4, c5⟩ := hblk;have hxi := List.getElem?_eq_getElem h1;have hcl := (hown.len i _ hxi).1;have hcap : i < cap := by omega
    have hin : ∀ j, j < n -> i * hb.e + o + j < cur.size := fun j hj => by rw [c2]; exact Qcw hcap h2 hj
    have hrun := Qdc (P := C.P) (t := t) (b := b) (off := i * hb.e + o) (vs := Array.ofFn (n := n) fun j => cur.getD (i * hb.e + o + j.val) undef) hn hag h3 (by simp) w
     (fun j hj => by rw [Qb7 (f := fun j => cur.getD (i * hb.e + o + j) undef) hj]; exact Qap c1 (hin j hj))
    obtain ⟨V, hV⟩ : ∃ V : Value, V = (if ag then .agg (Array.ofFn (n := n) fun j => cur.getD (i * hb.e + o + j.val) undef) else (Array.ofFn (n := n) fun j => cur.getD (i * hb.e + o + j.val) undef).getD 0 undef) := ⟨_, rfl⟩
    rw [<- hV] at hrun;refine ⟨V, ?_, ?_⟩
    ·simp only [Qkf, g3, asAddr, Sem.run_bind, Sem.run_pure, Result.andThen_ok];exact hrun
    ·have : Qk w (Xof C ρ hp) (ldV ag n o (hb.xs[i]'h1)) (if ag then .agg (Array.ofFn (n := n) fun j => cur.getD (i * hb.e + o + j.val) undef) else (Array.ofFn (n := n) fun j => cur.getD (i * hb.e + o + j.val) undef).getD 0 undef) :=
      Qff (by simp) (by rw [hcl]; exact h2) h3 (fun j y hj hy => by rw [Qb7 (f := fun j => cur.getD (i * hb.e + o + j) undef) hj, Nat.add_assoc];exact c5 i _ hxi (o + j) y hy)
     simp only [rvP, hfx, hβ, hxi, Option.getD_some];rw [hV];simp only [lr, Qmm]; exact this
   ·exact ho.elim
  ·exact ho.elim
theorem Qi0 {P : Program} (hP : C.P = P) (h : Qg C ρ fr hp a.tmps w) : ∀ (rl : List ResultVar) (rs : List RV), rl.mapM (Qcd P) = some rs -> (∀ r ∈ rs, okR fr hp r) ->
  ∃ vs : List Value, vs.length = rs.length /\ (rl.mapM (Qkf a.tmps)).run P w = .ok vs w /\ ∀ (i : Nat) (r : RV), rs[i]? = some r -> ∃ v, vs[i]? = some v /\ Qk w (Xof C ρ (Ql hp (rs.flatMap (lr fr)))) (rvP fr hp r) v
 | [], rs, hc, _ => by simp at hc; subst hc; exact ⟨[], rfl, by simp, by simp⟩
 | x :: rl, rs, hc, ho => by
  rw [List.mapM_cons] at hc;simp only [Option.bind_eq_bind, Option.pure_def, Option.bind_eq_some_iff, Option.some.injEq] at hc;obtain ⟨r, hr, rs', hrs, rfl⟩ := hc;obtain ⟨v, h1, h2⟩ := Qqg hP hr h (ho r (by simp));obtain ⟨vs, g1, g2, g3⟩ := Qi0 hP h rl rs' hrs (fun q hq => ho q (by simp [hq]));refine ⟨v :: vs, by simp [g1], by simp [List.mapM_cons, Sem.run_bind, h1, g2], fun i q hq =>?_⟩;cases i with
  | zero =>simp at hq; subst hq;exact ⟨v, rfl, h2.mono (fun _ _ _ => rfl) (fun _ _ hn hx => hn (Qkg (fun β hβ => by rw [List.flatMap_cons]; exact List.mem_append_left _ hβ) hx)) (Nat.le_refl _)⟩
  | succ i =>simp at hq;obtain ⟨v', k1, k2⟩ := g3 i q hq;exact ⟨v', by simpa using k1, k2.mono (fun _ _ _ => rfl) (fun _ _ hn hx => hn (Qkg (fun β hβ => by rw [List.flatMap_cons]; exact List.mem_append_right _ hβ) hx)) (Nat.le_refl _)⟩
theorem Qmo {P : Program} (hP : C.P = P) {fn : Func} {rs : List RV} {Rr : PV -> Prop} (hc : fn.results.toList.mapM (Qcd P) = some rs) (h : Qg C ρ fr hp a.tmps w) (hr : Qce rs Rr fr hp) :
  ∃ v r, (results fn a.tmps).run P w = .ok v w /\ Qbj w (Xof C ρ (Ql hp (rs.flatMap (lr fr)))) r v /\ (∀ β ∈ rs.flatMap (lr fr), isY β = false) /\ Rr r := by
 have hall : (∀ r ∈ rs, okR fr hp r) := by
  intro r hr'
  match rs, hr, hr' with
  | [r0], hr, hr' => simp at hr'; subst hr'; exact hr.1
  | [], hr, hr' => cases hr'
  | r0 :: r1 :: rest, hr, hr' => exact hr.1 r hr'
 have hN : ∀ β ∈ rs.flatMap (lr fr), isY β = false := fun β hβ => by obtain ⟨r, hr, hβ⟩ := List.mem_flatMap.1 hβ;exact Qw1 (hall r hr) β hβ
 obtain ⟨vs, hlen, hrun, hspec⟩ := Qi0 hP h _ rs hc hall;have hres : (results fn a.tmps).run P w = .ok (if h : vs.toArray.size = 1 then vs.toArray[0] else .tuple vs.toArray) w := by
  have e : results fn a.tmps = (do let vs <- fn.results.mapM (Qkf a.tmps); pure (if h : vs.size = 1 then vs[0] else .tuple vs)) := rfl;rw [e, Array.mapM_eq_mapM_toList];simp only [Sem.run_bind];have h2 : (List.toArray <$> fn.results.toList.mapM (Qkf a.tmps) : Sem (Array Value)).run P w = .ok vs.toArray w := by simp [hrun]
  rw [h2];rfl
 match rs, hr, hlen, hspec, hN with
 | [r0], hr, hlen, hspec, hN =>
  have h1 : vs.toArray.size = 1 := by simpa using hlen
  rw [dif_pos h1] at hres;obtain ⟨v, h2, h3⟩ := hspec 0 r0 rfl;have e : vs.toArray[0] = v := by
   have : vs[0]? = some (vs.toArray[0]) := by simp [hlen]
   rw [h2] at this; exact (Option.some.inj this).symm
  rw [e] at hres;obtain ⟨_, p, hle, hRp⟩ := hr;exact ⟨_, _, hres, Qbj.of1 (h3.le hle), hN, hRp⟩
 | [], hr, hlen, hspec, hN =>
  have h1 : ¬ vs.toArray.size = 1 := by simp [hlen]
  rw [dif_neg h1] at hres;obtain ⟨_, p, hle, hRp⟩ := hr;exact ⟨_, _, hres, Qbj.le (p :=.tup []) ⟨vs.toArray, rfl, by simp [hlen], by simp⟩ hle, hN, hRp⟩
 | r0 :: r1 :: rest, hr, hlen, hspec, hN =>
  have h1 : ¬ vs.toArray.size = 1 := by simp [hlen]
  rw [dif_neg h1] at hres;obtain ⟨_, p, hle, hRp⟩ := hr;refine ⟨_, _, hres, Qbj.le (p :=.tup ((r0 :: r1 :: rest).map (rvP fr hp))) ⟨vs.toArray, rfl, by simp [hlen], fun i x hx =>?_⟩ hle, hN, hRp⟩;simp only [List.getElem?_map, Option.map_eq_some_iff] at hx;obtain ⟨rv, hrv, rfl⟩ := hx;obtain ⟨v, h2, h3⟩ := hspec i rv hrv;rw [Qbn, List.getD_eq_getElem?_getD, h2];exact h3
theorem Qoe {P : Program} (hP : C.P = P) {fn : Func} {rs : List RV} {Rr : PV -> Prop} (hc : fn.results.toList.mapM (Qcd P) = some rs) (h : Qg C ρ fr hp a.tmps w) (hr : Qce rs Rr fr hp) :
  ∃ v r, (results fn a.tmps).run P w = .ok v w /\ Qbj w C.X0 r v /\ Rr r := by
 obtain ⟨v, r, h1, h2, _, h3⟩ := Qmo hP hc h hr;exact ⟨v, r, h1, h2.mono (fun _ _ _ => rfl) (fun _ _ hn hx => hn (.inl hx)) (Nat.le_refl _), h3⟩
theorem Qz {P : Program} {f : FuncId} {fn : Func} {sf : SFn} {args : List PV} {Rr : PV -> Prop} (hm : P.follows .mixedOrders = true) (hf : P.funcs[f]? = some fn) (hname : (fn.name != "runtime.NumGoroutine") = true) (hc : Q4 P fn = some sf) (hn : args.length <= sf.n /\ sf.n <= 1000000)
  (hv : ∀ C : Ctx, C.P = P -> vc C (Qce sf.rs Rr) [.c sf.body] (Qke args) hp0) : Qo P f args Rr := by
 simp only [Q4, Option.bind_eq_some_iff, Option.map_eq_some_iff] at hc;obtain ⟨c, hb, sb, hcb, rs, hrs, rfl⟩ := hc;refine ⟨by simp [Qkd, hf, hb]; simpa using hname, fun w X vals hX hsz hrep =>?_⟩
 let C : Ctx := Ctx.plain P fn.ntmps w X hX hn.2
 refine calls_of_wp hf hb ?_;have hsz' : (vals ++ Array.replicate (fn.ntmps - vals.size) undef).size = fn.ntmps := by simp at hn ⊢; omega
 have hsim : Sim C (Qke args) hp0 (vals ++ Array.replicate (fn.ntmps - vals.size) undef) w := by
  refine ⟨fun _ => none, hsz', Ext.refl _ _, (fun _ _ h => by cases h), by simp [hp0], by simp [hp0], fun i =>?_⟩;unfold Qke;cases hi : args[i]? with
  | none => trivial
  | some p =>
   simp only [Option.getD_some];have hil : i < vals.size := by rw [hsz]; exact (List.getElem?_eq_some_iff.1 hi).1
   have hr := hrep i p hi;have e : (vals ++ Array.replicate (fn.ntmps - vals.size) undef).getD i undef = vals.getD i undef := by rw [Qa0, if_pos hil]
   rw [e];refine Qb.ofData (hr.mono (fun _ _ _ => rfl) (fun b _ hn hx =>?_) (Nat.le_refl _));rcases hx with hx | ⟨_, _, h1, _⟩
   ·exact hn hx
   ·simp [hp0] at h1
 have fin : ∀ (fr : Fr) (hp : HP) (a : Act) (w' : World), a.defers = [] -> Sim C fr hp a.tmps w' -> Qce rs Rr fr hp ->
   a.defers = [] /\ ∃ v, (results fn a.tmps).run P w' = .ok v w' /\ ∃ v' r, Ending.returned v = .returned v' /\ Ext Qm w w' /\ Qbj w' X r v' /\ Rr r := by
  intro fr hp a w' hd ⟨ρ, hs⟩ hr;obtain ⟨v, r, h1, h2, h3⟩ := Qoe (C := C) rfl hrs hs hr;exact ⟨hd, v, h1, v, r, rfl, Ctx.plain_ext hs.ext, h2, h3⟩
 exact Qml (C := C) (R := Qce rs Rr) hm c sb [] _ (Qke args) hp0 _ w hcb ⟨fun fr hp a w' hd hs hv => (by rw [Qht] at hv; exact fin fr hp a w' hd hs hv), fun id sk' he => (by simp [FW.Qs] at he), fin⟩ rfl hsim (hv C rfl)
end Go.FW
namespace Go.FW
open Go
variable {C : Ctx} {ρ : Nat -> Option Nat} {fr : Fr} {hp : HP} {w : World} {a : Act} {K R : Qa}
def Qgd (fr : Fr) (d : Option Nat) (r : PV) : Fr := match d with | some d => upd fr d r | none => fr
theorem Qb.ofV {p : PV} {v : Value} (h : Qbj w (Xof C ρ hp) p v) : Qb C ρ hp w p v := by
 cases p with
 | tup ps => exact h
 | _ => exact Qb.ofData h
theorem Qul {tmps : Array Value} (h : Qg C ρ fr hp tmps w) : ∀ b, Xof C ρ hp b -> b < w.heap.size := by
 rintro b (hx | ⟨β, hb, h1, _, h3⟩)
 ·exact Nat.lt_of_lt_of_le (C.hX0 b hx) h.ext.size
 ·have := (h.own β hb h1).blk;rw [h3] at this;exact this.2.1
theorem Qg.updO {tmps : Array Value} {d : Option Nat} (h : Qg C ρ fr hp tmps w) {p : PV} {v : Value} (hv : Qb C ρ hp w p v) (hd : ∀ x, d = some x -> x < C.N) : Qg C ρ (Qgd fr d p) hp (Qug tmps d v) w := by
 cases d with
 | some d => exact h.upd hv (hd d rfl)
 | none => exact h
theorem Qqh {tmps : Array Value} {first cap args : List PV} {fv cv av : Array Value} (hs : Qg C ρ fr hp tmps w) (h1 : fv.size = first.length) (_h2 : cv.size = cap.length) (h3 : av.size = args.length)
  (hr1 : ∀ (i : Nat) (x : PV), first[i]? = some x -> Qbh C ρ hp w x (fv.getD i undef)) (hr2 : ∀ (i : Nat) (x : PV), cap[i]? = some x -> Qbh C ρ hp w x (cv.getD i undef)) (hr3 : ∀ (i : Nat) (x : PV), args[i]? = some x -> Qb C ρ hp w x (av.getD i undef))
  (hdat : ((first ++ args ++ cap).map (Qh hp)).all PV.isData = true) :
  ∀ (i : Nat) (x : PV), ((first ++ args ++ cap).map (Qh hp))[i]? = some x -> Qk w (Xof C ρ (Ql hp ((first ++ args ++ cap).flatMap PV.refs))) x ((fv ++ av ++ cv).getD i undef) := by
 intro i x hx;rw [List.all_eq_true] at hdat;have hxd := hdat x (List.mem_of_getElem? hx);simp only [List.getElem?_map, Option.map_eq_some_iff] at hx;obtain ⟨p, hp', rfl⟩ := hx;have hmem := List.mem_of_getElem? hp';have hl : ∀ β ∈ p.refs, β ∈ (first ++ args ++ cap).flatMap PV.refs := fun β hβ => List.mem_flatMap.2 ⟨p, hmem, hβ⟩;have toF : ∀ {p : PV} {v : Value}, Qbh C ρ hp w p v -> (Qh hp p).isData = true -> Qb C ρ hp w p v := by
  intro p v hr hd;cases p with
  | undef => trivial
  | mp => exact hr
  | mso => exact hr
  | rb => exact hr
  | np => exact hr
  | nso => exact hr
  | _ => exact Qb.ofData (Qk.of_c hr)
 rw [Qa0];rw [List.getElem?_append] at hp';by_cases c1 : i < (first ++ args).length
 ·rw [if_pos c1] at hp';rw [if_pos (by simp only [Array.size_append, h1, h3]; simpa using c1), Qa0];rw [List.getElem?_append] at hp';by_cases c2 : i < first.length
  ·rw [if_pos c2] at hp';rw [if_pos (by omega)];exact Qb0 hs (toF (hr1 i p hp') hxd) hl hxd
  ·rw [if_neg c2] at hp';rw [if_neg (by omega), h1];exact Qb0 hs (hr3 _ p hp') hl hxd
 ·rw [if_neg c1] at hp';have hsz : (fv ++ av).size = (first ++ args).length := by simp [h1, h3]
  rw [if_neg (by omega), hsz];exact Qb0 hs (toF (hr2 _ p hp') hxd) hl hxd
theorem Qge {P : Program} (hP : C.P = P) {g : FuncId} {first cap args pargs : List PV} {pr : Bool} {d : Option Nat} {Rr : PV -> Prop} (h : Qo P g pargs Rr) (hargs : (first ++ args ++ cap).map (Qh hp) = pargs) (hdat : pargs.all PV.isData = true)
  (hK : ∀ r, Rr r -> K (Qgd fr d r) (Ql hp ((first ++ args ++ cap).flatMap PV.refs))) : Qdu C pr (.fn g first cap) args d fr hp K := by
 subst hP;refine ⟨h.1, fun ρ tmps w fv cv av hdN hs h1 h2 h3 hr1 hr2 hr3 =>?_⟩;have hf := hs.freeze ((first ++ args ++ cap).flatMap PV.refs);refine (h.2 w _ (fv ++ av ++ cv) (Qul hf) (by rw [<- hargs]; simp [h1, h2, h3]) (by rw [<- hargs]; exact Qqh hs h1 h2 h3 hr1 hr2 hr3 (by rw [hargs]; exact hdat))).mono ?_;rintro e w' ⟨v, r, rfl, hx, hr, hRr⟩;exact ⟨v, _, _, rfl, ⟨ρ, (hf.grow hx).updO (Qb.ofV hr) hdN⟩, fun _ => hx, hK r hRr⟩
theorem Qch {P : Program} (hP : C.P = P) {g : FuncId} {first cap args pargs : List PV} {pr : Bool} {d : Option Nat} {r : PV} (h : Qo P g pargs (· = r)) (hargs : (first ++ args ++ cap).map (Qh hp) = pargs) (hdat : pargs.all PV.isData = true)
  (hK : K (Qgd fr d r) (Ql hp ((first ++ args ++ cap).flatMap PV.refs))) : Qdu C pr (.fn g first cap) args d fr hp K :=
 Qge hP h hargs hdat (fun _ hr => hr ▸ hK)
def Qft (C : Ctx) (R : Qa) (c : PV) (x y : SC) (sk : List It) (fr : Fr) (hp : HP) : Prop := Qgm c (vc C R (.c x :: sk) fr hp) (vc C R (.c y :: sk) fr hp)
def brV (C : Ctx) (R : Qa) (x y : RT) (sk : List It) (fr : Fr) (hp : HP) : Prop := vc C R (.o x :: sk) fr hp /\ vc C R (.o y :: sk) fr hp
def Qd4 (C : Ctx) (p : PV) (s : Nat) (want : Bool) (o : SOp) (fr : Fr) (hp : HP) (K : Qa) : Prop := match p with
  |.bool t => (t = want -> opV C o (upd fr s (.bool want)) hp K) /\ (t = (!want) -> Qb4 o (upd fr s (.bool !want)) hp K)
  |.tup [] => Qb4 o fr hp K
  | _ => False
theorem Qr {p : Prop} [Decidable p] {x y : SC} {sk : List It} (h1 : p -> vc C R (.c x :: sk) fr hp) (h2 : ¬ p -> vc C R (.c y :: sk) fr hp) : Qft C R (.bool (decide p)) x y sk fr hp :=
 ⟨fun h => h1 (of_decide_eq_true h), fun h => h2 (of_decide_eq_false h)⟩
theorem Qqi {sk : List It} {c : Opd} {x y : SC} : vc C R (.c (.cond c x y) :: sk) fr hp = Qft C R (ev fr c) x y sk fr hp := Qij
theorem Qum {sk : List It} {x y : RT} : vc C R (.o (.br x y) :: sk) fr hp = brV C R x y sk fr hp := Qsd
theorem Qun {sk : List It} {o : SOp} {r : RT} : vc C R (.o (.o none o r) :: sk) fr hp = opV C o fr hp (vc C R (.o r :: sk)) := Qhr
theorem Quo {sk : List It} {s : Nat} {b : Bool} {o : SOp} {r : RT} : vc C R (.o (.o (some (s, b)) o r) :: sk) fr hp = Qd4 C (fr s) s b o fr hp (vc C R (.o r :: sk)) := Qhr
theorem vcs :
  (∀ (C : Ctx) (R : Qa) (sk : List It) (x y : SC) (fr : Fr) (hp : HP), vc C R (.c (.seq x y) :: sk) fr hp = vc C R (.c x :: .c y :: sk) fr hp) /\
  (∀ (C : Ctx) (R : Qa) (sk : List It) (id : Nat) (x : SC) (fr : Fr) (hp : HP), vc C R (.c (.block id x) :: sk) fr hp = vc C R (.c x :: .eb id :: sk) fr hp) /\
  (∀ (C : Ctx) (R : Qa) (sk : List It) (fr : Fr) (hp : HP), vc C R (.c .skip :: sk) fr hp = vc C R sk fr hp) /\
  (∀ (C : Ctx) (R : Qa) (sk : List It) (r : RT) (fr : Fr) (hp : HP), vc C R (.c (.rg r) :: sk) fr hp = vc C R (.o r :: sk) fr hp) /\
  (∀ (C : Ctx) (R : Qa) (sk : List It) (id : Nat) (fr : Fr) (hp : HP), vc C R (.eb id :: sk) fr hp = vc C R sk fr hp) /\
  (∀ (C : Ctx) (R : Qa) (sk : List It) (J : Qa) (fr : Fr) (hp : HP), vc C R (.el J :: sk) fr hp = J fr hp) /\
  (∀ (C : Ctx) (R : Qa) (sk : List It) (fr : Fr) (hp : HP), vc C R (.c .ret :: sk) fr hp = R fr hp) /\
  (∀ (C : Ctx) (R : Qa) (fr : Fr) (hp : HP), vc C R [] fr hp = R fr hp) /\
  (∀ (C : Ctx) (R : Qa) (sk : List It) (c : Opd) (x y : SC) (fr : Fr) (hp : HP), vc C R (.c (.cond c x y) :: sk) fr hp = Qft C R (ev fr c) x y sk fr hp) /\
  (∀ (C : Ctx) (R : Qa) (sk : List It) (id : Nat) (fr : Fr) (hp : HP), vc C R (.c (.exit id) :: sk) fr hp = Qgn C R (FW.Qs id sk) fr hp) /\
  (∀ (C : Ctx) (R : Qa) (sk : List It) (fr : Fr) (hp : HP), vc C R (.o .nil :: sk) fr hp = vc C R sk fr hp) /\
  (∀ (C : Ctx) (R : Qa) (sk : List It) (o : SOp) (r : RT) (fr : Fr) (hp : HP), vc C R (.o (.o none o r) :: sk) fr hp = opV C o fr hp (vc C R (.o r :: sk))) /\
  (∀ (C : Ctx) (R : Qa) (sk : List It) (s : Nat) (b : Bool) (o : SOp) (r : RT) (fr : Fr) (hp : HP), vc C R (.o (.o (some (s, b)) o r) :: sk) fr hp = Qd4 C (fr s) s b o fr hp (vc C R (.o r :: sk))) /\
  (∀ (C : Ctx) (R : Qa) (sk : List It) (x y : RT) (fr : Fr) (hp : HP), vc C R (.o (.br x y) :: sk) fr hp = brV C R x y sk fr hp) /\
  (∀ (C : Ctx) (R : Qa) (x y : SC) (sk : List It) (fr : Fr) (hp : HP), Qft C R (.bool true) x y sk fr hp = vc C R (.c x :: sk) fr hp) /\
  (∀ (C : Ctx) (R : Qa) (x y : SC) (sk : List It) (fr : Fr) (hp : HP), Qft C R (.bool false) x y sk fr hp = vc C R (.c y :: sk) fr hp) /\
  (∀ (C : Ctx) (R : Qa) (sk : List It) (fr : Fr) (hp : HP), Qgn C R (some sk) fr hp = vc C R sk fr hp) /\
  (∀ (id : Nat) (s : SC) (sk : List It), FW.Qs id (.c s :: sk) = FW.Qs id sk) /\
  (∀ (id : Nat) (r : RT) (sk : List It), FW.Qs id (.o r :: sk) = FW.Qs id sk) /\
  (∀ (id : Nat) (J : Qa) (sk : List It), FW.Qs id (.el J :: sk) = FW.Qs id sk) /\
  (∀ (id i : Nat) (sk : List It), FW.Qs id (.eb i :: sk) = if i = id then some sk else FW.Qs id sk) /\
  (∀ (C : Ctx) (s : Nat) (o : SOp) (fr : Fr) (hp : HP) (K : Qa), Qd4 C (.bool true) s true o fr hp K = opV C o (upd fr s (.bool true)) hp K) /\
  (∀ (C : Ctx) (s : Nat) (o : SOp) (fr : Fr) (hp : HP) (K : Qa), Qd4 C (.bool false) s true o fr hp K = Qb4 o (upd fr s (.bool false)) hp K) /\
  (∀ (C : Ctx) (s : Nat) (o : SOp) (fr : Fr) (hp : HP) (K : Qa), Qd4 C (.bool true) s false o fr hp K = Qb4 o (upd fr s (.bool true)) hp K) /\
  (∀ (C : Ctx) (s : Nat) (o : SOp) (fr : Fr) (hp : HP) (K : Qa), Qd4 C (.bool false) s false o fr hp K = opV C o (upd fr s (.bool false)) hp K) /\
  (∀ (C : Ctx) (s : Nat) (b : Bool) (o : SOp) (fr : Fr) (hp : HP) (K : Qa), Qd4 C (.tup []) s b o fr hp K = Qb4 o fr hp K) := by
 refine ⟨fun _ _ _ _ _ _ _ => Qka, fun _ _ _ _ _ _ _ => Qg5, fun _ _ _ _ _ => Qii, fun _ _ _ _ _ _ => Qse, fun _ _ _ _ _ _ => Qmg, fun _ _ _ _ _ _ => Qji, fun _ _ _ _ _ => Qkb, fun _ _ _ _ => Qht, fun _ _ _ _ _ _ _ _ => Qqi,
  fun _ _ _ _ _ _ => Qik, fun _ _ _ _ _ => Qhq, fun _ _ _ _ _ _ _ => Qun, fun _ _ _ _ _ _ _ _ _ => Quo, fun _ _ _ _ _ _ _ => Qum, fun _ _ _ _ _ _ _ =>?_, fun _ _ _ _ _ _ _ =>?_, fun _ _ _ _ _ => rfl, fun _ _ _ => rfl, fun _ _ _ => rfl, fun _ _ _ => rfl, fun _ _ _ => rfl, ?_, ?_, ?_, ?_, fun _ _ _ _ _ _ _ => rfl⟩
 ·simp [Qft, Qgm]
 ·simp [Qft, Qgm]
 all_goals intros; simp [Qd4]
end Go.FW
namespace Go.FW
open Go
variable {C : Ctx} {fr : Fr} {hp : HP} {K R : Qa}
theorem Qkh {n : Int} (h1 : -9223372036854775808 <= n) (h2 : n <= 9223372036854775807) : IntKind.i64.wrap n = n := by rw [IntKind.wrap_i64]; omega
theorem Qqj {n : Int} (h1 : -2147483648 <= n) (h2 : n <= 2147483647) : IntKind.i32.wrap n = n := by rw [IntKind.wrap_i32]; omega
theorem Qki {n : Int} (h1 : 0 <= n) (h2 : n <= 18446744073709551615) : IntKind.u64.wrap n = n := by rw [IntKind.wrap_u64]; omega
theorem Qqk {n : Int} (h1 : 0 <= n) (h2 : n <= 4294967295) : IntKind.u32.wrap n = n := by rw [IntKind.wrap_u32]; omega
theorem Qsq {n : Int} (h1 : 0 <= n) (h2 : n <= 255) : IntKind.u8.wrap n = n := by rw [IntKind.wrap_u8]; omega
theorem Qsr {x y : Int} (h : 0 <= x) : x.tdiv y = x / y := Int.tdiv_eq_ediv_of_nonneg h
theorem Qss {x y : Int} (h : 0 <= x) : x.tmod y = x % y := Int.tmod_eq_emod_of_nonneg h
def ldM (hb : Option HB) (n : Nat) (ag : Bool) (i o : Nat) (d : Nat) (fr : Fr) (hp : HP) (K : Qa) : Prop := match hb with
 | some hb => ∃ h : i < hb.xs.length, o + n <= hb.e /\ (ag = false -> n = 1) /\ K (upd fr d (ldV ag n o (hb.xs[i]'h))) hp
 | none => False
def stM (hb : Option HB) (β : Nat) (n : Nat) (i o : Nat) (v : PV) (fr : Fr) (hp : HP) (K : Qa) : Prop := match hb with
  | some hb => hb.fz = false /\ v.isData = true /\ v.cells.length = n /\ ∃ h : i < hb.xs.length, o + n <= hb.e /\
        K fr (Qe hp β { hb with xs := hb.xs.set i (if n = hb.e then v else stV (hb.xs[i]'h) o v) })
  | none => False
def Qmp (R : PV -> Prop) (p : PV) : Prop := p.isData = true /\ ∃ q, PV.le p q /\ R q
theorem Q6 {p r : PV} (h : p = r) (hd : r.isData = true) : Qmp (· = r) p := by subst h; exact ⟨hd, _, Qag _, rfl⟩
theorem Qst {p r : PV} (h : PV.le p r) (hd : p.isData = true) : Qmp (· = r) p := ⟨hd, _, h, rfl⟩
theorem Qln {e ty n : Nat} {ag fz : Bool} {o d : Nat} {x : PV} (h : o + n <= e) (ha : ag = false -> n = 1) : ldM (some ⟨e, ty, [x], fz⟩) n ag 0 o d fr hp K = K (upd fr d (ldV ag n o x)) hp := by simp [ldM, h]; intro _; exact ha
theorem Qfh {e ty n i : Nat} {ag fz : Bool} {o d : Nat} {xs : List PV} (h : i < xs.length) (h1 : o + n <= e) (ha : ag = false -> n = 1) : ldM (some ⟨e, ty, xs, fz⟩) n ag i o d fr hp K = K (upd fr d (ldV ag n o (xs[i]'h))) hp := by simp [ldM, h, h1]; intro _; exact ha
theorem Qup {e ty n β i : Nat} {o : Nat} {xs : List PV} {v : PV} (h : i < xs.length) (hv : v.isData = true) (hl : v.cells.length = n) (h1 : o + n <= e) : stM (some ⟨e, ty, xs, false⟩) β n i o v fr hp K = K fr (Qe hp β ⟨e, ty, xs.set i (if n = e then v else stV (xs[i]'h) o v), false⟩) := by simp [stM, h, h1, hv, hl]
theorem Qof {ty n β i : Nat} {xs : List PV} {v : PV} (h : i < xs.length) (hv : v.isData = true) (hl : v.cells.length = n) : stM (some ⟨n, ty, xs, false⟩) β n i 0 v fr hp K = K fr (Qe hp β ⟨n, ty, xs.set i v, false⟩) := by rw [Qup h hv hl (by omega)]; simp
theorem Qgf {e d : Nat} {k : IntKind} {m : Int} {xs : List PV} (h0 : 0 <= m) (h : m < xs.length) : Qbg e (.sl e xs) (.int k m) d fr hp K = K (upd fr d (.pt (xs[m.toNat]'(by omega)).cells)) hp := by
 have : m.toNat < xs.length := by omega
 simp [Qbg, h0, this]
theorem Qgp {α : Type} {f : α -> PV} {e d : Nat} {k : IntKind} {m : Int} {xs : List α} (h0 : 0 <= m) (h : m < xs.length) : Qbg e (.sl e (xs.map f)) (.int k m) d fr hp K = K (upd fr d (.pt (f (xs[m.toNat]'(by omega))).cells)) hp := by rw [Qgf h0 (by simpa using h)]; simp
theorem Quq {e d β o n : Nat} {k : IntKind} {m : Int} (h0 : 0 <= m) (h : m < n) (he : (hp β).map (·.e) = some e) : Qbg e (.mso β o n) (.int k m) d fr hp K = K (upd fr d (.mp β (o + m.toNat) 0)) hp := by
 have : m.toNat < n := by omega
 simp [Qbg, h0, this, he]
theorem Qjj {e by_ ty d : Nat} {z : PV} {k k' : IntKind} {L Cc : Int} (h0 : 0 < e) (hz : z.cells.length = e) (h1 : 0 <= L) (h2 : L <= Cc) (h3 : by_ * Cc <= 281474976710656) (h4 : Cc <= 9223372036854775807) :
  mkK e by_ ty z (.int k L) (.int k' Cc) d fr hp K = K (upd (Qy d fr) d (.ms d L.toNat)) (Qe hp d ⟨e, ty, List.replicate L.toNat z, false⟩) := by
 simp [mkK, h0, hz, h1, h2, h3, h4]
theorem Qur {n ty d β o m : Nat} (hB : isY β = true) : Qbb n ty (.mso β o m) d fr hp K = K (upd fr d (.rb β o m)) hp := by simp [Qbb, hB]
theorem Qw2 {d β o m : Nat} : ldK 1 false (.rb β o m) d fr hp K = K (upd fr d (.mso β o m)) hp := by simp [ldK]
theorem Qmq {e by_ ty d : Nat} {x : PV} {ys : List PV} (hs : Qb3 hp x = some (e, ys)) (h0 : 0 < e) (h1 : ys.length * by_ <= 140737488355328) (h2 : ys.length <= 9223372036854775807) :
  Qcl e by_ ty .nilS x d fr hp K = K (upd (Qy d fr) d (.ms d ys.length)) (Qe hp d ⟨e, ty, ys, false⟩) := by
 simp [Qcl, hs, h0, h1, h2]
theorem Qef {e by_ ty d β n : Nat} {x : PV} {ys xs : List PV} (hs : Qb3 hp x = some (e, ys)) (hb : hp β = some ⟨e, ty, xs, false⟩) (h0 : 0 < e) (hn : n <= xs.length) (h1 : (n + ys.length) * by_ <= 140737488355328) (h2 : n + ys.length <= 9223372036854775807) (hB : isB β = false := by decide) :
  Qcl e by_ ty (.ms β n) x d fr hp K = K (upd (Qy β fr) d (.ms β (n + ys.length))) (Qe hp β ⟨e, ty, xs.take n ++ ys, false⟩) := by
 simp [Qcl, hs, hb, h0, hn, h1, h2, hB]
theorem Qmr {e d : Nat} {xs : List PV} {lo hi : Option PV} {L H : Int} (h1 : Qal 0 lo = some L) (h2 : Qal xs.length hi = some H) (h3 : 0 <= L) (h4 : L <= H) (h5 : H <= xs.length) :
  slK e (.sl e xs) lo hi none d fr hp K = K (upd fr d (.sl e ((xs.take H.toNat).drop L.toNat))) hp := by
 have hM : Qal (xs.length) none = some (xs.length : Int) := rfl;simp only [slK, h1, h2, hM];simp [h3, h4, h5]
theorem Qw3 {e d : Nat} {xs : List PV} {k : IntKind} {H : Int} (h4 : 0 <= H) (h5 : H <= xs.length) :
  slK e (.sl e xs) none (some (.int k H)) none d fr hp K = K (upd fr d (.sl e (xs.take H.toNat))) hp := by
 rw [Qmr (L := 0) (H := H) rfl rfl (by omega) h4 h5]; simp
theorem Qw4 {e d : Nat} {xs : List PV} {k : IntKind} {L : Int} (h4 : 0 <= L) (h5 : L <= xs.length) :
  slK e (.sl e xs) (some (.int k L)) none none d fr hp K = K (upd fr d (.sl e (xs.drop L.toNat))) hp := by
 rw [Qmr (L := L) (H := xs.length) rfl rfl h4 h5 (by omega)]; simp
theorem Qya :
  (∀ (C : Ctx) (d : Nat) (x : Opd) (fr : Fr) (hp : HP) (K : Qa), opV C (.mv d x) fr hp K = K (upd fr d (ev fr x)) hp) /\
  (∀ (C : Ctx) (d : Nat) (c a b : Opd) (fr : Fr) (hp : HP) (K : Qa), opV C (.pick d c a b) fr hp K = Qec (ev fr c) (ev fr a) (ev fr b) d fr hp K) /\
  (∀ (C : Ctx) (d : Nat) (op : BinOp) (bt : Bool) (a b : Opd) (fr : Fr) (hp : HP) (K : Qa), opV C (.bin d op bt a b) fr hp K = Qaw op bt (ev fr a) (ev fr b) d fr hp K) /\
  (∀ (C : Ctx) (d : Nat) (op : UnOp) (a : Opd) (fr : Fr) (hp : HP) (K : Qa), opV C (.un d op a) fr hp K = unK op (ev fr a) d fr hp K) /\
  (∀ (C : Ctx) (d : Nat) (k : IntKind) (a : Opd) (fr : Fr) (hp : HP) (K : Qa), opV C (.conv d k a) fr hp K = Qfo k (ev fr a) d fr hp K) /\
  (∀ (C : Ctx) (d : Nat) (a : Opd) (fr : Fr) (hp : HP) (K : Qa), opV C (.len d a) fr hp K = Qd8 (ev fr a) d fr hp K) /\
  (∀ (C : Ctx) (d : Nat) (a b : Opd) (fr : Fr) (hp : HP) (K : Qa), opV C (.mx d a b) fr hp K = mxK (ev fr a) (ev fr b) d fr hp K) /\
  (∀ (C : Ctx) (d : Nat) (a b : Opd) (fr : Fr) (hp : HP) (K : Qa), opV C (.mn d a b) fr hp K = mnK (ev fr a) (ev fr b) d fr hp K) /\
  (∀ (C : Ctx) (d e : Nat) (a b : Opd) (fr : Fr) (hp : HP) (K : Qa), opV C (.idx d e a b) fr hp K = Qbg e (ev fr a) (ev fr b) d fr hp K) /\
  (∀ (C : Ctx) (d n e : Nat) (a b : Opd) (fr : Fr) (hp : HP) (K : Qa), opV C (.idxA d n e a b) fr hp K = Qds n e (ev fr a) (ev fr b) d fr hp K) /\
  (∀ (C : Ctx) (d n e : Nat) (ag : Bool) (a b : Opd) (fr : Fr) (hp : HP) (K : Qa), opV C (.ixv d n e ag a b) fr hp K = Qh7 n e ag (ev fr a) (ev fr b) d fr hp K) /\
  (∀ (C : Ctx) (d off : Nat) (a : Opd) (fr : Fr) (hp : HP) (K : Qa), opV C (.fld d off a) fr hp K = Qe7 off (ev fr a) d fr hp K) /\
  (∀ (C : Ctx) (d off n : Nat) (ag : Bool) (a : Opd) (fr : Fr) (hp : HP) (K : Qa), opV C (.fldv d off n ag a) fr hp K = Qdt off n ag (ev fr a) d fr hp K) /\
  (∀ (C : Ctx) (d n : Nat) (ag : Bool) (a : Opd) (fr : Fr) (hp : HP) (K : Qa), opV C (.ld d n ag a) fr hp K = ldK n ag (ev fr a) d fr hp K) /\
  (∀ (C : Ctx) (n : Nat) (a b : Opd) (fr : Fr) (hp : HP) (K : Qa), opV C (.st n a b) fr hp K = stK n (ev fr a) (ev fr b) fr hp K) /\
  (∀ (C : Ctx) (d n ty : Nat) (a : Opd) (fr : Fr) (hp : HP) (K : Qa), opV C (.box d n ty a) fr hp K = Qbb n ty (ev fr a) d fr hp K) /\
  (∀ (C : Ctx) (d n ty : Nat) (z : PV) (fr : Fr) (hp : HP) (K : Qa), opV C (.alloc d n ty z) fr hp K = Qbb n ty z d fr hp K) /\
  (∀ (C : Ctx) (d e by_ ty : Nat) (z : PV) (l c : Opd) (fr : Fr) (hp : HP) (K : Qa), opV C (.mk d e by_ ty z l c) fr hp K = mkK e by_ ty z (ev fr l) (ev fr c) d fr hp K) /\
  (∀ (C : Ctx) (d e ty : Nat) (ps : List Opd) (fr : Fr) (hp : HP) (K : Qa), opV C (.bs d e ty ps) fr hp K = bsK e ty (ps.map (ev fr)) d fr hp K) /\
  (∀ (C : Ctx) (d e by_ ty : Nat) (a b : Opd) (fr : Fr) (hp : HP) (K : Qa), opV C (.app d e by_ ty a b) fr hp K = Qcl e by_ ty (ev fr a) (ev fr b) d fr hp K) /\
  (∀ (C : Ctx) (d e : Nat) (a b : Opd) (fr : Fr) (hp : HP) (K : Qa), opV C (.cpy d e a b) fr hp K = Qia e (ev fr a) (ev fr b) d fr hp K) /\
  (∀ (C : Ctx) (d e : Nat) (a : Opd) (l h m : Option Opd) (fr : Fr) (hp : HP) (K : Qa), opV C (.sl d e a l h m) fr hp K = slK e (ev fr a) (l.map (ev fr)) (h.map (ev fr)) (m.map (ev fr)) d fr hp K) /\
  (∀ (C : Ctx) (d : Nat) (a : Opd) (i : Nat) (fr : Fr) (hp : HP) (K : Qa), opV C (.ext d a i) fr hp K = Qc3 (ev fr a) i d fr hp K) /\
  (∀ (C : Ctx) (d : Nat) (z : List PV) (ps : List (Nat × Nat × Opd)) (fr : Fr) (hp : HP) (K : Qa), opV C (.bld d z ps) fr hp K = Qcp z (ps.map fun p => (p.1, p.2.1, ev fr p.2.2)) d fr hp K) /\
  (∀ (C : Ctx) (d f : Nat) (x y : List Opd) (fr : Fr) (hp : HP) (K : Qa), opV C (.fn d f x y) fr hp K = ((x.map (ev fr) ++ y.map (ev fr)).all PV.isCap = true /\ K (upd fr d (.fn f (x.map (ev fr)) (y.map (ev fr)))) hp)) /\
  (∀ (C : Ctx) (d : Option Nat) (pr : Bool) (f : Opd) (ars : List Opd) (fr : Fr) (hp : HP) (K : Qa), opV C (.call d pr f ars) fr hp K = Qdu C pr (ev fr f) (ars.map (ev fr)) d fr hp K) /\
  (∀ (C : Ctx) (d : Option Nat) (x : Opd) (fr : Fr) (hp : HP) (K : Qa), opV C (.nilc d x) fr hp K = Qhg (ev fr x) d fr hp K) /\
  (∀ (fr : Fr) (n : Nat), ev fr (.t n) = fr n) /\ (∀ (fr : Fr) (p : PV), ev fr (.c p) = p) := by
 refine ⟨?_, ?_, ?_, ?_, ?_, ?_, ?_, ?_, ?_, ?_, ?_, ?_, ?_, ?_, ?_, ?_, ?_, ?_, ?_, ?_, ?_, ?_, ?_, ?_, ?_, ?_, ?_, ?_, ?_⟩ <;> intros <;> rfl
theorem Qyb :
  (∀ (bt : Bool) (k : IntKind) (x y : Int) (d : Nat) (fr : Fr) (hp : HP) (K : Qa), Qaw .add bt (.int k x) (.int k y) d fr hp K = K (upd fr d (.int k (k.wrap (x + y)))) hp) /\
  (∀ (bt : Bool) (k : IntKind) (x y : Int) (d : Nat) (fr : Fr) (hp : HP) (K : Qa), Qaw .sub bt (.int k x) (.int k y) d fr hp K = K (upd fr d (.int k (k.wrap (x - y)))) hp) /\
  (∀ (bt : Bool) (k : IntKind) (x y : Int) (d : Nat) (fr : Fr) (hp : HP) (K : Qa), Qaw .mul bt (.int k x) (.int k y) d fr hp K = K (upd fr d (.int k (k.wrap (x * y)))) hp) /\
  (∀ (bt : Bool) (k : IntKind) (x y : Int) (d : Nat) (fr : Fr) (hp : HP) (K : Qa), Qaw .eql bt (.int k x) (.int k y) d fr hp K = K (upd fr d (.bool (decide (x = y)))) hp) /\
  (∀ (bt : Bool) (k : IntKind) (x y : Int) (d : Nat) (fr : Fr) (hp : HP) (K : Qa), Qaw .neq bt (.int k x) (.int k y) d fr hp K = K (upd fr d (.bool (decide (¬ x = y)))) hp) /\
  (∀ (bt : Bool) (k : IntKind) (x y : Int) (d : Nat) (fr : Fr) (hp : HP) (K : Qa), Qaw .lss bt (.int k x) (.int k y) d fr hp K = K (upd fr d (.bool (decide (x < y)))) hp) /\
  (∀ (bt : Bool) (k : IntKind) (x y : Int) (d : Nat) (fr : Fr) (hp : HP) (K : Qa), Qaw .leq bt (.int k x) (.int k y) d fr hp K = K (upd fr d (.bool (decide (x <= y)))) hp) /\
  (∀ (bt : Bool) (k : IntKind) (x y : Int) (d : Nat) (fr : Fr) (hp : HP) (K : Qa), Qaw .gtr bt (.int k x) (.int k y) d fr hp K = K (upd fr d (.bool (decide (y < x)))) hp) /\
  (∀ (bt : Bool) (k : IntKind) (x y : Int) (d : Nat) (fr : Fr) (hp : HP) (K : Qa), Qaw .geq bt (.int k x) (.int k y) d fr hp K = K (upd fr d (.bool (decide (y <= x)))) hp) /\
  (∀ (x y : Bool) (d : Nat) (fr : Fr) (hp : HP) (K : Qa), Qaw .eql true (.bool x) (.bool y) d fr hp K = K (upd fr d (.bool (x == y))) hp) /\
  (∀ (x y : Bool) (d : Nat) (fr : Fr) (hp : HP) (K : Qa), Qaw .neq true (.bool x) (.bool y) d fr hp K = K (upd fr d (.bool (!(x == y)))) hp) /\
  (∀ (b : Bool) (d : Nat) (fr : Fr) (hp : HP) (K : Qa), unK .not (.bool b) d fr hp K = K (upd fr d (.bool (!b))) hp) /\
  (∀ (k : IntKind) (n : Int) (d : Nat) (fr : Fr) (hp : HP) (K : Qa), unK .neg (.int k n) d fr hp K = K (upd fr d (.int k (k.wrap (0 - n)))) hp) /\
  (∀ (k k' : IntKind) (n : Int) (d : Nat) (fr : Fr) (hp : HP) (K : Qa), Qfo k (.int k' n) d fr hp K = K (upd fr d (.int k (k.wrap n))) hp) /\
  (∀ (d : Nat) (fr : Fr) (hp : HP) (K : Qa), Qd8 .nilS d fr hp K = K (upd fr d (.int .i64 0)) hp) /\
  (∀ (e : Nat) (xs : List PV) (d : Nat) (fr : Fr) (hp : HP) (K : Qa), Qd8 (.sl e xs) d fr hp K = K (upd fr d (.int .i64 xs.length)) hp) /\
  (∀ (β o n : Nat) (d : Nat) (fr : Fr) (hp : HP) (K : Qa), Qd8 (.mso β o n) d fr hp K = K (upd fr d (.int .i64 n)) hp) /\
  (∀ (k k' : IntKind) (x y : Int) (d : Nat) (fr : Fr) (hp : HP) (K : Qa), mxK (.int k x) (.int k' y) d fr hp K = K (upd fr d (.int k (max x y))) hp) /\
  (∀ (k k' : IntKind) (x y : Int) (d : Nat) (fr : Fr) (hp : HP) (K : Qa), mnK (.int k x) (.int k' y) d fr hp K = K (upd fr d (.int k (min x y))) hp) /\
  (∀ (a b : PV) (d : Nat) (fr : Fr) (hp : HP) (K : Qa), Qec (.bool true) a b d fr hp K = K (upd fr d a) hp) /\
  (∀ (a b : PV) (d : Nat) (fr : Fr) (hp : HP) (K : Qa), Qec (.bool false) a b d fr hp K = K (upd fr d b) hp) /\
  (∀ (off β i o : Nat) (d : Nat) (fr : Fr) (hp : HP) (K : Qa), Qe7 off (.mp β i o) d fr hp K = K (upd fr d (.mp β i (o + off))) hp) /\
  (∀ (n : Nat) (ag : Bool) (β i o : Nat) (d : Nat) (fr : Fr) (hp : HP) (K : Qa), ldK n ag (.mp β i o) d fr hp K = ldM (hp β) n ag i o d fr hp K) /\
  (∀ (c : PV) (cs : List PV) (d : Nat) (fr : Fr) (hp : HP) (K : Qa), ldK 1 false (.pt (c :: cs)) d fr hp K = K (upd fr d c) hp) /\
  (∀ (n : Nat) (β i o : Nat) (v : PV) (fr : Fr) (hp : HP) (K : Qa), stK n (.mp β i o) v fr hp K = stM (Ql hp v.refs β) β n i o (Qh hp v) fr (Ql hp v.refs) K) /\
  (∀ (ps : List PV) (p : PV) (d : Nat) (fr : Fr) (hp : HP) (K : Qa), Qc3 (.tup (p :: ps)) 0 d fr hp K = (p.isData = true /\ K (upd fr d p) hp)) /\
  (∀ (ps : List PV) (p q : PV) (d : Nat) (fr : Fr) (hp : HP) (K : Qa), Qc3 (.tup (p :: q :: ps)) 1 d fr hp K = (q.isData = true /\ K (upd fr d q) hp)) /\
  (∀ (ps : List PV) (p q r : PV) (d : Nat) (fr : Fr) (hp : HP) (K : Qa), Qc3 (.tup (p :: q :: r :: ps)) 2 d fr hp K = (r.isData = true /\ K (upd fr d r) hp)) /\
  (∀ (s : Nat) (Rr : PV -> Prop) (fr : Fr) (hp : HP), Qce [.t s] Rr fr hp = Qmp Rr (Qh hp (fr s))) /\
  (∀ (e : Nat) (xs : List PV), Qb3 hp0 (.sl e xs) = some (e, xs)) /\
  (∀ (hp : HP), Ql hp [] = hp) /\
  (∀ (fr : Fr) (r : PV), Qgd fr none r = fr) /\ (∀ (fr : Fr) (d : Nat) (r : PV), Qgd fr (some d) r = upd fr d r) /\
  (∀ (β : Nat) (fr : Fr) (i : Nat), Qy β fr i = Qn β (fr i)) := by
 refine ⟨?_, ?_, ?_, ?_, ?_, ?_, ?_, ?_, ?_, ?_, ?_, ?_, ?_, ?_, ?_, ?_, ?_, ?_, ?_, ?_, ?_, ?_, ?_, ?_, ?_, ?_, ?_, ?_, ?_, ?_, ?_, ?_, ?_, ?_⟩ <;> intros
 all_goals first
  | rfl
  | (simp [Qaw, Qec, Qc3, ldK, ldV, PV.cells, stK, stM]; done)
  | (simp [Qaw, Qec, Qc3, ldK, ldV, PV.cells, stK, stM]; try rfl)
  | skip
end Go.FW
namespace Go.FW
open Go
variable {C : Ctx} {ρ : Nat -> Option Nat} {fr : Fr} {hp : HP} {w : World} {K R : Qa}
theorem Qus (i β e ty : Nat) (he : 0 < e) (hi : fr i = .nilS) (hB : isB β = false := by decide) : Wk fr hp (upd (Qy β fr) i (.ms β 0)) (Qe hp β ⟨e, ty, [], false⟩) := by
 rintro C tmps w ⟨ρ, hs⟩;have hr := hs.rebind (w' := w) β none ⟨e, ty, [], false⟩ hB (Ext.refl _ _) (by simp) he (by simp) (by simp) (by simp);refine ⟨_, hr.sz, hr.ext, hr.keep, hr.own, hr.inj, fun j =>?_⟩;unfold upd;split
 ·rename_i hj;subst hj;have := hs.slots j;rw [hi] at this;have e := Qb.nil_inv this;exact ⟨_, by simp [Qe]; rfl, by simp, .inl ⟨Qah _ _ _, e, rfl, rfl⟩⟩
 ·exact hr.slots j
end Go.FW
namespace Go.FW
open Go
variable {C : Ctx} {ρ : Nat -> Option Nat} {fr : Fr} {hp : HP} {w : World} {K R : Qa}
theorem Qsu (fr : Fr) (a : Nat) (v w : PV) : upd (upd fr a v) a w = upd fr a w := by funext i; unfold upd; split <;> rfl
theorem Qog {α : Type} {f : α -> PV} {e d : Nat} {xs : List α} {k : IntKind} {H : Int} (h4 : 0 <= H) (h5 : H <= xs.length) :
  slK e (.sl e (xs.map f)) none (some (.int k H)) none d fr hp K = K (upd fr d (.sl e ((xs.take H.toNat).map f))) hp := by
 rw [Qw3 h4 (by simpa using h5)]; simp
theorem Qoh {α : Type} {f : α -> PV} {e d : Nat} {xs : List α} {k : IntKind} {L : Int} (h4 : 0 <= L) (h5 : L <= xs.length) :
  slK e (.sl e (xs.map f)) (some (.int k L)) none none d fr hp K = K (upd fr d (.sl e ((xs.drop L.toNat).map f))) hp := by
 rw [Qw4 h4 (by simpa using h5)]; simp
theorem Qla {α : Type} {f : α -> PV} {e d : Nat} {xs : List α} {k k' : IntKind} {L H : Int} (h3 : 0 <= L) (h4 : L <= H) (h5 : H <= xs.length) :
  slK e (.sl e (xs.map f)) (some (.int k L)) (some (.int k' H)) none d fr hp K = K (upd fr d (.sl e (((xs.take H.toNat).drop L.toNat).map f))) hp := by
 rw [Qmr (L := L) (H := H) rfl rfl h3 h4 (by simpa using h5)]; simp
theorem Qsv (hp : HP) (e : Nat) (xs : List PV) : Qh hp (.sl e xs) = .sl e xs := rfl
theorem Qql (hp : HP) (k : IntKind) (n : Int) : Qh hp (.int k n) = .int k n := rfl
theorem Qoi (hp : HP) (b : Bool) : Qh hp (.bool b) = .bool b := rfl
theorem Qqm (hp : HP) (cs : List PV) : Qh hp (.agg cs) = .agg cs := rfl
theorem Qqn (hp : HP) : Qh hp .nilS = .nilS := rfl
theorem Qsw (e : Nat) (xs : List PV) : (PV.sl e xs).refs = [] := rfl
theorem Qqo (k : IntKind) (n : Int) : (PV.int k n).refs = [] := rfl
theorem Qoj (b : Bool) : (PV.bool b).refs = [] := rfl
theorem Qqp (cs : List PV) : (PV.agg cs).refs = [] := rfl
theorem Qqq : PV.nilS.refs = [] := rfl
theorem Qqr (β e : Nat) (xs : List PV) : Qn β (.sl e xs) = .sl e xs := rfl
theorem Qok (β : Nat) (k : IntKind) (n : Int) : Qn β (.int k n) = .int k n := rfl
theorem Qms (β : Nat) (b : Bool) : Qn β (.bool b) = .bool b := rfl
theorem Qol (β : Nat) (cs : List PV) : Qn β (.agg cs) = .agg cs := rfl
theorem Qom (β : Nat) : Qn β .nilS = .nilS := rfl
theorem Qkj (β γ o n : Nat) : Qn β (.mso γ o n) = if γ = β then .undef else .mso γ o n := by
 by_cases h : γ = β
 ·subst h; simp [Qn, PV.refs]
 ·simp [Qn, PV.refs, h]; intro h'; exact absurd h'.symm h
theorem Qqs (β γ o n : Nat) : Qn β (.rb γ o n) = if γ = β then .undef else .rb γ o n := by
 by_cases h : γ = β
 ·subst h; simp [Qn, PV.refs]
 ·simp [Qn, PV.refs, h]; intro h'; exact absurd h'.symm h
theorem Qkk (β γ i o : Nat) : Qn β (.mp γ i o) = if γ = β then .undef else .mp γ i o := by
 by_cases h : γ = β
 ·subst h; simp [Qn, PV.refs]
 ·simp [Qn, PV.refs, h]; intro h'; exact absurd h'.symm h
theorem Qw5 :
  (∀ (fr : Fr) (a : Nat) (v : PV) (b : Nat), upd fr a v b = if b = a then v else fr b) /\
  (∀ (h : HP) (a : Nat) (v : HB) (b : Nat), Qe h a v b = if b = a then some v else h b) /\
  (∀ (β : Nat), hp0 β = none) /\
  (∀ (hp : HP) (e : Nat) (xs : List PV), Qh hp (.sl e xs) = .sl e xs) /\
  (∀ (hp : HP) (k : IntKind) (n : Int), Qh hp (.int k n) = .int k n) /\
  (∀ (hp : HP) (b : Bool), Qh hp (.bool b) = .bool b) /\
  (∀ (hp : HP) (cs : List PV), Qh hp (.agg cs) = .agg cs) /\
  (∀ (hp : HP), Qh hp .nilS = .nilS) /\
  (∀ (e : Nat) (xs : List PV), (PV.sl e xs).refs = []) /\
  (∀ (k : IntKind) (n : Int), (PV.int k n).refs = []) /\
  (∀ (b : Bool), (PV.bool b).refs = []) /\
  (∀ (cs : List PV), (PV.agg cs).refs = []) /\
  (PV.nilS.refs = []) /\
  (∀ (β o n : Nat), (PV.mso β o n).refs = [β]) /\
  (∀ (β i o : Nat), (PV.mp β i o).refs = [β]) /\
  (∀ (β e : Nat) (xs : List PV), Qn β (.sl e xs) = .sl e xs) /\
  (∀ (β : Nat) (k : IntKind) (n : Int), Qn β (.int k n) = .int k n) /\
  (∀ (β : Nat) (b : Bool), Qn β (.bool b) = .bool b) /\
  (∀ (β : Nat) (cs : List PV), Qn β (.agg cs) = .agg cs) /\
  (∀ (β : Nat), Qn β .nilS = .nilS) /\
  (∀ (β γ o n : Nat), Qn β (.mso γ o n) = if γ = β then .undef else .mso γ o n) /\
  (∀ (β γ i o : Nat), Qn β (.mp γ i o) = if γ = β then .undef else .mp γ i o) /\
  (∀ (β γ o n : Nat), Qn β (.rb γ o n) = if γ = β then .undef else .rb γ o n) /\
  (∀ (β o n : Nat), (PV.rb β o n).refs = [β]) /\
  (∀ (o : SOp) (fr : Fr) (hp : HP) (K : Qa), Qb4 o fr hp K = match o.dst with | some d => K (upd fr d (.tup [])) hp | none => K fr hp) /\
  (∀ (f : Opd -> PV), Option.map f none = none) /\ (∀ (f : Opd -> PV) (x : Opd), Option.map f (some x) = some (f x)) /\
  (∀ (k : IntKind) (n : Int), (PV.int k n).cells = [.int k n]) /\
  (∀ (b : Bool), (PV.bool b).cells = [.bool b]) /\
  (∀ (e : Nat) (xs : List PV), (PV.sl e xs).cells = [.sl e xs]) /\
  (∀ (cs : List PV), (PV.agg cs).cells = cs) := by
 refine ⟨fun _ _ _ _ => rfl, fun _ _ _ _ => rfl, fun _ => rfl, Qsv, Qql, Qoi, Qqm, Qqn, Qsw, Qqo, Qoj, Qqp, Qqq, fun _ _ _ => rfl, fun _ _ _ => rfl, Qqr, Qok, Qms, Qol, Qom, Qkj, Qkk, Qqs, fun _ _ _ => rfl, fun _ _ _ _ => rfl, fun _ => rfl, fun _ _ => rfl, fun _ _ => rfl, fun _ => rfl, fun _ _ => rfl, fun _ => rfl⟩
theorem Qw6 {p : Nat -> Prop} (h : ∃ m, p m) : ∃ m, p m /\ ∀ k, p k -> m <= k := by
 obtain ⟨m, hm⟩ := h;induction m using Nat.strongRecOn with
 | ind m ih =>
  by_cases hk : ∃ k, k < m /\ p k
  ·obtain ⟨k, h1, h2⟩ := hk; exact ih k h1 h2
  ·exact ⟨m, hm, fun k hk' => Nat.le_of_not_lt fun hlt => hk ⟨k, hlt, hk'⟩⟩
def Qhu (I : Nat -> Qa) (n : Nat) : Qa := fun fr' hp' => ∃ fr0 hp0, Wk fr' hp' fr0 hp0 /\ ∃ m, m < n /\ I m fr0 hp0
theorem Qkl {I : Nat -> Qa} {n m : Nat} {fr' : Fr} {hp' : HP} (hl : m < n) (hw : Wk fr hp fr' hp') (h : I m fr' hp') : Qhu I n fr hp := ⟨fr', hp', hw, m, hl, h⟩
theorem Qi1 {sk : List It} {x : SC} (I : Nat -> Qa) (m0 : Nat) {fr0 : Fr} {hp0 : HP} (hw : Wk fr hp fr0 hp0) (h0 : I m0 fr0 hp0) (h : ∀ m fr hp, I m fr hp -> vc C R (.c x :: .el (Qhu I m) :: sk) fr hp) : vc C R (.c (.loop x) :: sk) fr hp := by
 refine Qqf (fun fr hp => ∃ m, I m fr hp) (fun fr hp => Classical.epsilon fun m => I m fr hp /\ ∀ k, I k fr hp -> m <= k) hw ⟨m0, h0⟩ ?_;intro fr hp hI;have key : ∀ fr hp, (∃ m, I m fr hp) -> I (Classical.epsilon fun m => I m fr hp /\ ∀ k, I k fr hp -> m <= k) fr hp /\ ∀ k, I k fr hp -> (Classical.epsilon fun m => I m fr hp /\ ∀ k, I k fr hp -> m <= k) <= k := fun fr hp hI => Classical.epsilon_spec (Qw6 hI);have e : Qgo (fun fr hp => ∃ m, I m fr hp) (fun fr hp => Classical.epsilon fun m => I m fr hp /\ ∀ k, I k fr hp -> m <= k) (Classical.epsilon fun m => I m fr hp /\ ∀ k, I k fr hp -> m <= k) = Qhu I (Classical.epsilon fun m => I m fr hp /\ ∀ k, I k fr hp -> m <= k) := by
  funext fr' hp';apply propext;constructor
  ·rintro ⟨fr0, hp0, h1, h2, h3⟩; exact ⟨fr0, hp0, h1, _, h3, (key fr0 hp0 h2).1⟩
  ·rintro ⟨fr0, hp0, h1, m, h2, h3⟩; exact ⟨fr0, hp0, h1, ⟨m, h3⟩, Nat.lt_of_le_of_lt ((key fr0 hp0 ⟨m, h3⟩).2 m h3) h2⟩
 rw [e];exact h _ fr hp (key fr hp hI).1
theorem Qp {P : Program} (hP : C.P = P) {g : FuncId} {first cap args pargs : List PV} {pr : Bool} {d : Option Nat} {r : PV} (h : Qo P g pargs (· = r)) (hargs : (first ++ args ++ cap).map (Qh hp) = pargs) (hdat : pargs.all PV.isData = true) (hr : (first ++ args ++ cap).flatMap PV.refs = [])
  (hK : K (Qgd fr d r) hp) : Qdu C pr (.fn g first cap) args d fr hp K := by
 refine Qch hP h hargs hdat ?_;rw [hr]; exact hK
theorem Qfu {P : Program} (hP : C.P = P) {g : FuncId} {first cap args pargs : List PV} {pr : Bool} {d : Option Nat} {Rr : PV -> Prop} (h : Qo P g pargs Rr) (hargs : (first ++ args ++ cap).map (Qh hp) = pargs) (hdat : pargs.all PV.isData = true) (hr : (first ++ args ++ cap).flatMap PV.refs = [])
  (hK : ∀ r, Rr r -> K (Qgd fr d r) hp) : Qdu C pr (.fn g first cap) args d fr hp K := by
 refine Qge hP h hargs hdat fun r h =>?_;rw [hr]; exact hK r h
theorem Qon {by_ ty d : Nat} {kz k k' : IntKind} {nz : Int} {L Cc : Int} (h1 : 0 <= L) (h2 : L <= Cc) (h3 : by_ * Cc <= 281474976710656) (h4 : Cc <= 9223372036854775807) :
  mkK 1 by_ ty (.int kz nz) (.int k L) (.int k' Cc) d fr hp K = K (upd (Qy d fr) d (.ms d L.toNat)) (Qe hp d ⟨1, ty, List.replicate L.toNat (.int kz nz), false⟩) := by
 exact Qjj (e := 1) (by omega) rfl h1 h2 h3 h4
theorem Qoo {ty β i : Nat} {xs : List PV} {k : IntKind} {n : Int} (h : i < xs.length) : stM (some ⟨1, ty, xs, false⟩) β 1 i 0 (.int k n) fr hp K = K fr (Qe hp β ⟨1, ty, xs.set i (.int k n), false⟩) :=
 Qof h rfl rfl
theorem Qop (h : HP) (a : Nat) (v w : HB) : Qe (Qe h a v) a w = Qe h a w := by funext i; unfold Qe; split <;> rfl
theorem Qut {ty d : Nat} {k : IntKind} {n : Int} : bsK 1 ty [.int k n] d fr hp K = K (upd (Qy d fr) d (.ms d 1)) (Qe hp d ⟨1, ty, [.int k n], false⟩) := by simp [bsK, Qd9, Qbm, bsO, Qh8, Qh, Qw, PV.refs, PV.isData, PV.cells];rfl
theorem Qg6 {e by_ ty ty' d β γ n : Nat} {xs : List PV} {y : PV} {fz : Bool} (hb : hp β = some ⟨e, ty, xs, false⟩) (hy : hp γ = some ⟨e, ty', [y], fz⟩) (h0 : 0 < e) (hn : n = xs.length) (h1 : (n + 1) * by_ <= 140737488355328) (h2 : n + 1 <= 9223372036854775807) (hB : isB β = false := by decide) :
  Qcl e by_ ty (.ms β n) (.ms γ 1) d fr hp K = K (upd (Qy β fr) d (.ms β (n + 1))) (Qe hp β ⟨e, ty, xs ++ [y], false⟩) := by
 subst hn;rw [Qef (ys := [y]) (xs := xs) (by simp [Qb3, hy]) hb h0 (Nat.le_refl _) (by simpa using h1) (by simpa using h2) hB];simp
theorem Qkm (n : Nat) : IntKind.u16.wrap (n : Int) = ((n % 65536 : Nat) : Int) := by simp only [IntKind.wrap, IntKind.bits, IntKind.signed]; simp
theorem Qoq {bt : Bool} {k k' : IntKind} {x y : Int} {d : Nat} (h : 0 <= y) : Qaw .shr bt (.int k x) (.int k' y) d fr hp K = K (upd fr d (.int k (x.fdiv (2 ^ (min y.toNat k.bits))))) hp := by simp [Qaw, h]
theorem Qor {bt : Bool} {k' : IntKind} {n d : Nat} : Qaw .shr bt (.int .u64 (n : Int)) (.int k' 16) d fr hp K = K (upd fr d (.int .u64 ((n / 65536 : Nat) : Int))) hp := by
 rw [Qoq (by omega)];have : min (16 : Int).toNat IntKind.u64.bits = 16 := by decide
 rw [this, Int.fdiv_eq_ediv_of_nonneg _ (by omega)];simp
theorem Qos {bt : Bool} {k' : IntKind} {n d : Nat} : Qaw .shr bt (.int .u32 (n : Int)) (.int k' 16) d fr hp K = K (upd fr d (.int .u32 ((n / 65536 : Nat) : Int))) hp := by
 rw [Qoq (by omega)];have : min (16 : Int).toNat IntKind.u32.bits = 16 := by decide
 rw [this, Int.fdiv_eq_ediv_of_nonneg _ (by omega)];simp
end Go.FW
namespace Go.FW
def val : List Nat -> Nat
 | [] => 0
 | x :: xs => x + 65536 * val xs
def dig (n : Nat) : List Nat := if h : n = 0 then [] else n % 65536 :: dig (n / 65536)
termination_by n
decreasing_by omega
def nl (n : Nat) : Nat := (dig n).length
open Go
variable {C : Ctx} {ρ : Nat -> Option Nat} {fr : Fr} {hp : HP} {w : World} {K R : Qa}
abbrev Qg7 (l : List Nat) : List PV := l.map fun (x : Nat) =>.int .u16 x
abbrev Qcq (l : List Int) : List PV := l.map fun (x : Int) =>.int .i64 x
theorem Quu (a b : Nat) : (a : Int) + (b : Int) = ((a + b : Nat) : Int) := rfl
theorem Qsx (a : Nat) : (a : Int) + 1 = ((a + 1 : Nat) : Int) := rfl
theorem Qsy (a : Nat) : (a : Int) + 2 = ((a + 2 : Nat) : Int) := rfl
theorem Qsz (a : Nat) : (a : Int) + 3 = ((a + 3 : Nat) : Int) := rfl
theorem Quv (a b : Nat) : (a : Int) * (b : Int) = ((a * b : Nat) : Int) := rfl
theorem Qs0 {α : Type} {f : α -> PV} {e d : Nat} {k : IntKind} {i : Nat} {xs : List α} (h : i < xs.length) :
  Qbg e (.sl e (xs.map f)) (.int k (i : Int)) d fr hp K = K (upd fr d (.pt (f (xs[i]'h)).cells)) hp := by
 rw [Qgp (by omega) (by omega)]; rfl
theorem Qs1 {e d β o n i : Nat} {k : IntKind} (h : i < n) (he : (hp β).map (·.e) = some e) : Qbg e (.mso β o n) (.int k (i : Int)) d fr hp K = K (upd fr d (.mp β (o + i) 0)) hp := by rw [Quq (by omega) (by omega) he]; rfl
theorem Quw {α : Type} {f : α -> PV} {e d : Nat} {xs : List α} {k : IntKind} {n : Nat} (h5 : n <= xs.length) :
  slK e (.sl e (xs.map f)) none (some (.int k (n : Int))) none d fr hp K = K (upd fr d (.sl e ((xs.take n).map f))) hp := by
 rw [Qog (by omega) (by omega)]; rfl
theorem Qux {α : Type} {f : α -> PV} {e d : Nat} {xs : List α} {k : IntKind} {n : Nat} (h5 : n <= xs.length) :
  slK e (.sl e (xs.map f)) (some (.int k (n : Int))) none none d fr hp K = K (upd fr d (.sl e ((xs.drop n).map f))) hp := by
 rw [Qoh (by omega) (by omega)]; rfl
theorem Qqt {α : Type} {f : α -> PV} {e d : Nat} {xs : List α} {k k' : IntKind} {m n : Nat} (h4 : m <= n) (h5 : n <= xs.length) :
  slK e (.sl e (xs.map f)) (some (.int k (m : Int))) (some (.int k' (n : Int))) none d fr hp K = K (upd fr d (.sl e (((xs.take n).drop m).map f))) hp := by
 rw [Qla (by omega) (by omega) (by omega)]; rfl
theorem Quy {by_ ty d : Nat} {k k' : IntKind} {n c : Nat} (h2 : n <= c) (h3 : by_ * c <= 281474976710656) (h4 : c <= 9223372036854775807) :
  mkK 1 by_ ty (.int .u16 0) (.int k (n : Int)) (.int k' (c : Int)) d fr hp K = K (upd (Qy d fr) d (.ms d n)) (Qe hp d ⟨1, ty, Qg7 (List.replicate n 0), false⟩) := by
 rw [Qon (by omega) (by omega) (by omega) (by omega)];simp [Qg7]
theorem Quz {ty i d : Nat} {fz : Bool} {l : List Nat} (h : i < l.length) : ldM (some ⟨1, ty, Qg7 l, fz⟩) 1 false i 0 d fr hp K = K (upd fr d (.int .u16 (l[i]'h : Nat))) hp := by rw [Qfh (by simpa using h) (by omega) (by simp)]; simp [ldV, PV.cells]
theorem Qu0 {ty i d : Nat} {fz : Bool} {l : List Int} (h : i < l.length) : ldM (some ⟨1, ty, Qcq l, fz⟩) 1 false i 0 d fr hp K = K (upd fr d (.int .i64 (l[i]'h))) hp := by rw [Qfh (by simpa using h) (by omega) (by simp)]; simp [ldV, PV.cells]
theorem Qu1 {ty β i v : Nat} {l : List Nat} (h : i < l.length) : stM (some ⟨1, ty, Qg7 l, false⟩) β 1 i 0 (.int .u16 (v : Int)) fr hp K = K fr (Qe hp β ⟨1, ty, Qg7 (l.set i v), false⟩) := by rw [Qoo (by simpa using h)]; simp [Qg7, List.map_set]
theorem Qu2 {ty β i : Nat} {v : Int} {l : List Int} (h : i < l.length) : stM (some ⟨1, ty, Qcq l, false⟩) β 1 i 0 (.int .i64 v) fr hp K = K fr (Qe hp β ⟨1, ty, Qcq (l.set i v), false⟩) := by rw [Qoo (by simpa using h)]; simp [Qcq, List.map_set]
end Go.FW
namespace Go.FW
open Go
variable {C : Ctx} {ρ : Nat -> Option Nat} {fr : Fr} {hp : HP} {w : World} {K K' R : Qa}
theorem Qqu (h : ∀ fr hp, K fr hp -> K' fr hp) (o : SOp) : opV C o fr hp K -> opV C o fr hp K' := by
 cases o with
 | call d pr f args =>
  simp only [opV, Qdu];split
  ·rintro ⟨h1, h2⟩;refine ⟨h1, fun ρ tmps w fv cv av a1 a2 a3 a4 a5 a6 a7 a8 => (h2 ρ tmps w fv cv av a1 a2 a3 a4 a5 a6 a7 a8).mono ?_⟩;rintro e w' ⟨v, fr', hp', e1, e2, e3, e4⟩;exact ⟨v, fr', hp', e1, e2, e3, h _ _ e4⟩
  ·exact id
 | bs d e ty ps =>
  simp only [opV, bsK];split
  ·exact fun H => ⟨H.1, h _ _ H.2⟩
  ·exact fun H => ⟨H.1, H.2.1, h _ _ H.2.2⟩
 | app d e by_ ty s x =>
  simp only [opV, Qcl];intro H; revert H;split
  ·unfold Qh9;split
   ·split
    ·rintro ⟨a1, a2, a3, H⟩;refine ⟨a1, a2, a3, ?_⟩;revert H;split
     ·exact fun H => ⟨H.1, h _ _ H.2⟩
     ·split
      ·exact fun H => ⟨H.1, H.2.1, h _ _ H.2.2⟩
      ·exact id
     ·exact id
    ·exact id
   ·exact id
  ·rintro ⟨h0, h1, H⟩;refine ⟨h0, h1, ?_⟩;revert H;split
   ·rintro ⟨a, b, c⟩; exact ⟨a, b, h _ _ c⟩
   ·split
    ·rintro (⟨a1, a2, a3, a4, a5, a6, a7, c⟩ | ⟨a1, a2, a3, c⟩)
     ·exact .inl ⟨a1, a2, a3, a4, a5, a6, a7, h _ _ c⟩
     ·exact .inr ⟨a1, a2, a3, h _ _ c⟩
    ·exact id
   ·exact id
 | bin d op bt x y =>
  simp only [opV, Qaw];intro H; revert H;split
  ·split <;> first | exact fun H => ⟨H.1, H.2.1, h _ _ H.2.2⟩ | exact fun H => ⟨H.1, h _ _ H.2⟩ | exact id
  ·split <;> first | exact fun H => ⟨H.1, h _ _ H.2⟩ | exact id
  ·exact id
 | _ =>
  simp only [opV, Qe5, Qe6, Qg0, Qf5, Qec, unK, Qfo, Qd8, mxK, mnK, Qbg, Qds, Qh7, Qe7, Qdt, ldK, stK, Qbb, Qf6, mkK, bsK, Qcl, Qia, slK, Qc3, Qcp, Qhf, Qhg]
  try (intro H; revert H)
  try (repeat' split)
  all_goals first
   | exact id
   | exact h _ _
   | grind
theorem Qu3 {sk : List It} {g : Option (Nat × Bool)} {o : SOp} {r : RT} : vc C R (.o (.o g o r) :: sk) fr hp = Qfp C g o fr hp (fun fr hp => vc C R (.o r :: sk) fr hp) := by rw [vc]
theorem Qu4 {sk : List It} {x y : RT} : vc C R (.o (.br x y) :: sk) fr hp = (vc C R (.o x :: sk) fr hp /\ vc C R (.o y :: sk) fr hp) := by rw [vc]
end Go.FW
namespace Go.FW
open Go
variable {C : Ctx} {ρ : Nat -> Option Nat} {fr : Fr} {hp : HP} {w : World} {K K' R : Qa}
def Qmt (R : PV -> Prop) (p q : PV) : Prop := (p.isData = true /\ q.isData = true) /\ ∃ r, PV.leR (.tup [p, q]) r /\ R r
def Qsf (R : PV -> Prop) (p q s : PV) : Prop := (p.isData = true /\ q.isData = true /\ s.isData = true) /\ ∃ r, PV.leR (.tup [p, q, s]) r /\ R r
def Qsg (R : PV -> Prop) : Prop := ∃ r, PV.leR (.tup []) r /\ R r
theorem Qu5 {a b : Nat} {Rr : PV -> Prop} : Qce [.t a, .t b] Rr fr hp = Qmt Rr (Qh hp (fr a)) (Qh hp (fr b)) := by simp [Qce, Qmt, okR, rvP]
theorem Qu6 {a b c : Nat} {Rr : PV -> Prop} : Qce [.t a, .t b, .t c] Rr fr hp = Qsf Rr (Qh hp (fr a)) (Qh hp (fr b)) (Qh hp (fr c)) := by simp [Qce, Qsf, okR, rvP]
theorem Qu7 {Rr : PV -> Prop} : Qce [] Rr fr hp = Qsg Rr := by simp [Qce, Qsg]
theorem Qfv {p q p' q' r : PV} (h : r = .tup [p', q']) (d1 : p.isData = true) (d2 : q.isData = true) (h1 : PV.le p p') (h2 : PV.le q q') : Qmt (· = r) p q := ⟨⟨d1, d2⟩, r, by subst h; exact ⟨h1, h2, trivial⟩, rfl⟩
abbrev PV.nat (l : List Nat) : PV :=.sl 1 (Qg7 l)
abbrev PV.num (n : Nat) : PV := PV.nat (dig n)
end Go.FW
namespace Go.FW
open Go
variable {C : Ctx} {ρ : Nat -> Option Nat} {fr : Fr} {hp : HP} {w : World} {K K' R : Qa}
def B0 : Nat := 1000000
def Qu8 (xs : List PV) : Prop := ∀ x ∈ xs, ∃ k n, x = .int k n
def Qmu (rs : List RV) (ty : TypeId) (len : Nat) (Post : PV -> List PV -> Prop) : Qa := fun fr hp =>
 ∃ xs', hp B0 = some ⟨1, ty, xs', false⟩ /\ Qu8 xs' /\ xs'.length = len /\
  (Qce rs (fun r => (∀ β o n, r ≠ .mso β o n) /\ Post r xs') fr hp ∨ ∃ s o n, rs = [.t s] /\ fr s = .mso B0 o n /\ Post (.mso B0 o n) xs')
end Go.FW
namespace Go.FW
open Go
variable {C : Ctx} {ρ : Nat -> Option Nat} {fr : Fr} {hp : HP} {w : World} {K K' R : Qa}
def Qmv (rs : List RV) (ty : TypeId) (Post : List PV -> Prop) : Qa := fun fr hp =>
 ∃ s β n xs, rs = [.t s] /\ fr s = .mso β 0 n /\ isB β = false /\ hp β = some ⟨1, ty, xs, false⟩ /\ Qu8 xs /\ 0 < n /\ Post (xs.take n)
end Go.FW
namespace Go.FW
open Go
variable {C : Ctx} {ρ : Nat -> Option Nat} {fr : Fr} {hp : HP} {w : World} {K K' R : Qa}
end Go.FW
namespace Go.FW
open Go
variable {fr : Fr} {hp : HP}
end Go.FW
namespace Go.FW
open Go
variable {C : Ctx} {fr : Fr} {hp : HP} {K : Qa}
theorem Qlo {bt : Bool} {k : IntKind} {x y d : Nat} (hy : 0 < y) (hw : k.wrap ((x / y : Nat) : Int) = ((x / y : Nat) : Int)) : Qaw .quo bt (.int k (x : Int)) (.int k (y : Int)) d fr hp K = K (upd fr d (.int k ((x / y : Nat) : Int))) hp := by
 have : (y : Int) ≠ 0 := by omega
 simp only [Qaw, ne_eq, this, not_false_eq_true, true_and];rw [Qsr (by omega), <- hw]; rfl
theorem Qlp {bt : Bool} {k : IntKind} {x y d : Nat} (hy : 0 < y) : Qaw .rem bt (.int k (x : Int)) (.int k (y : Int)) d fr hp K = K (upd fr d (.int k ((x % y : Nat) : Int))) hp := by
 have : (y : Int) ≠ 0 := by omega
 simp only [Qaw, ne_eq, this, not_false_eq_true, true_and];rw [Qss (by omega)]; rfl
theorem Qot {n : Nat} (h : n < 18446744073709551616) : IntKind.u64.wrap (n : Int) = n := Qki (by omega) (by omega)
theorem Qou {n : Nat} (h : n < 9223372036854775808) : IntKind.i64.wrap (n : Int) = n := Qkh (by omega) (by omega)
theorem Qs2 {bt : Bool} {x y d : Nat} (hy : 0 < y) (hx : x < 18446744073709551616) : Qaw .quo bt (.int .u64 (x : Int)) (.int .u64 (y : Int)) d fr hp K = K (upd fr d (.int .u64 ((x / y : Nat) : Int))) hp :=
 Qlo hy (Qot (Nat.lt_of_le_of_lt (Nat.div_le_self x y) hx))
theorem Qs3 {bt : Bool} {x y d : Nat} (hy : 0 < y) (hx : x < 9223372036854775808) : Qaw .quo bt (.int .i64 (x : Int)) (.int .i64 (y : Int)) d fr hp K = K (upd fr d (.int .i64 ((x / y : Nat) : Int))) hp :=
 Qlo hy (Qou (Nat.lt_of_le_of_lt (Nat.div_le_self x y) hx))
theorem Qs4 {e d β o n H : Nat} {k : IntKind} (h : H <= n) (he : (hp β).map (·.e) = some e) : slK e (.mso β o n) none (some (.int k (H : Int))) none d fr hp K = K (upd fr d (.mso β o H)) hp := by
 have h1 : (H : Int) <= (n : Int) := by omega
 simp [slK, Qal, he, h1]
theorem Qs5 {e d β o n L H : Nat} {k k' : IntKind} (h1 : L <= H) (h : H <= n) (h0 : L < n) (he : (hp β).map (·.e) = some e) : slK e (.mso β o n) (some (.int k (L : Int))) (some (.int k' (H : Int))) none d fr hp K = K (upd fr d (.mso β (o + L) (H - L))) hp := by
 have q1 : (H : Int) <= (n : Int) := by omega
 have q2 : (L : Int) <= (H : Int) := by omega
 have q3 : (L : Int) < (n : Int) := by omega
 simp [slK, Qal, he, q1, q2, q3]
end Go.FW
namespace Go.FW
open Go
variable {C : Ctx} {ρ : Nat -> Option Nat} {fr fr' : Fr} {hp : HP} {w : World} {K K' R R' : Qa}
def Fle (fr fr' : Fr) : Prop := ∀ s, fr' s = fr s ∨ fr' s = .undef
theorem Fle.refl (fr : Fr) : Fle fr fr := fun _ =>.inl rfl
theorem Fle.trans {a b c : Fr} (h : Fle a b) (k : Fle b c) : Fle a c := fun s => by
 rcases k s with e | e
 ·rw [e]; exact h s
 ·exact .inr e
theorem Fle.upd (h : Fle fr fr') (d : Nat) {v v' : PV} (hv : v' = v ∨ v' = .undef) : Fle (upd fr d v) (upd fr' d v') := fun s => by
 unfold FW.upd; split
 ·exact hv
 ·exact h s
theorem Fle.upd' (h : Fle fr fr') (d : Nat) (v : PV) : Fle (FW.upd fr d v) (FW.upd fr' d v) := h.upd d (.inl rfl)
theorem Fle.kill (h : Fle fr fr') (β : Nat) : Fle (Qy β fr) (Qy β fr') := fun s => by
 unfold Qy;rcases h s with e | e
 ·exact .inl (by rw [e])
 ·right; rw [e]; simp [Qn, PV.refs]
theorem Fle.ev (h : Fle fr fr') (x : Opd) : ev fr' x = ev fr x ∨ ev fr' x = .undef := by
 cases x with
 | t n => exact h n
 | c p => exact .inl rfl
theorem Fle.mem (h : Fle fr fr') {q : PV -> Prop} (hq : ¬ q .undef) {l : List Opd} (hl : ∀ p ∈ l.map (FW.ev fr'), q p) : l.map (FW.ev fr') = l.map (FW.ev fr) := by
 refine List.map_congr_left fun x hx =>?_;rcases h.ev x with e | e
 ·exact e
 ·exact absurd (e ▸ hl _ (List.mem_map_of_mem hx)) hq
theorem Fle.nst (h : Fle fr fr') {γ γ' e ty : Nat} {xs : List PV} (e1 : fr' γ = .nst γ' e ty xs) : fr γ = .nst γ' e ty xs := by
 rcases h γ with e2 | e2
 ·rw [<- e2]; exact e1
 ·rw [e1] at e2; cases e2
theorem Fle.drop (h : Fle fr fr') (γ : Nat) : Fle (Qbe γ fr) (Qbe γ fr') := fun s => by
 unfold Qbe;rcases h s with e | e
 ·exact .inl (by rw [e])
 ·right; rw [e]; rfl
theorem Fle.take (h : Fle fr fr') (β : Nat) : Fle (Qay β fr) (Qay β fr') := fun s => by
 unfold Qay;rcases h s with e | e
 ·exact .inl (by rw [e])
 ·right; rw [e]; simp [Q1, Qn, PV.refs]
theorem Fle.wk (h : Fle fr fr') : Wk fr hp fr' hp := by
 rintro C tmps w ⟨ρ, hs⟩;refine ⟨ρ, hs.sz, hs.ext, hs.keep, hs.own, hs.inj, fun s =>?_⟩;rcases h s with h | h <;> rw [h]
 ·exact hs.slots s
 ·trivial
theorem Fle.sim {tmps : Array Value} (h : Fle fr fr') (hs : Qg C ρ fr hp tmps w) : Qg C ρ fr' hp tmps w := by
 refine ⟨hs.sz, hs.ext, hs.keep, hs.own, hs.inj, fun s =>?_⟩;rcases h s with h | h <;> rw [h]
 ·exact hs.slots s
 ·trivial
theorem Qmw (h : Fle fr fr') (x : Option Opd) : x.map (ev fr') = x.map (ev fr) ∨ x.map (ev fr') = some .undef := by
 cases x with
 | none => exact .inl rfl
 | some x => rcases h.ev x with e | e <;> simp [e]
theorem Qjg (d : Int) : Qal d (some .undef) = none := rfl
theorem Qlq (h : Fle fr fr') (hK : ∀ f f' hp, Fle f f' -> K' f' hp -> K f hp) (o : SOp) : opV C o fr' hp K' -> opV C o fr hp K := by
 have hu : ∀ (d : Nat) (v : PV) (hp : HP), K' (upd fr' d v) hp -> K (upd fr d v) hp := fun d v hp H => hK _ _ _ (h.upd' d v) H;have hk : ∀ (β d : Nat) (v : PV) (hp : HP), K' (upd (Qy β fr') d v) hp -> K (upd (Qy β fr) d v) hp := fun β d v hp H => hK _ _ _ ((h.kill β).upd' d v) H;have hz : ∀ hp, K' fr' hp -> K fr hp := fun hp H => hK _ _ _ h H;have mono : ∀ {o : SOp}, opV C o fr hp K' -> opV C o fr hp K := fun H => Qqu (fun f hp H => hK _ _ _ (Fle.refl f) H) _ H;cases o with
 | mv d x => exact fun H => hK _ _ _ (h.upd d (h.ev x)) H
 | pick d c a b =>
  simp only [opV, Qec];rcases h.ev c with e | e
  ·rw [e];split
   ·exact fun H => ⟨fun t => hK _ _ _ (h.upd d (h.ev a)) (H.1 t), fun t => hK _ _ _ (h.upd d (h.ev b)) (H.2 t)⟩
   ·exact id
  ·rw [e]; exact False.elim
 | call d pr f args =>
  simp only [opV, Qdu];rcases h.ev f with e | e
  ·rw [e];split
   ·rintro ⟨h1, h2⟩;refine ⟨h1, fun ρ tmps w fv cv av a1 a2 a3 a4 a5 a6 a7 a8 =>?_⟩;refine (h2 ρ tmps w fv cv av a1 (h.sim a2) a3 a4 (by simpa using a5) a6 a7 (fun i x hx =>?_)).mono ?_
    ·simp only [List.getElem?_map, Option.map_eq_some_iff] at hx;obtain ⟨y, hy, rfl⟩ := hx;rcases h.ev y with e | e
     ·rw [e]; exact a8 i _ (by simp [hy])
     ·rw [e]; trivial
    ·rintro e w' ⟨v, f1, hp', e1, e2, e3, e4⟩;exact ⟨v, f1, hp', e1, e2, e3, hK _ _ _ (Fle.refl _) e4⟩
   ·exact id
  ·rw [e]; exact False.elim
 | bs d e ty ps =>
  simp only [opV, bsK];by_cases hb : Qd9 (ps.map (ev fr')) = true
  ·rw [if_pos hb];rintro ⟨h1, h2⟩;have e : ps.map (ev fr') = ps.map (ev fr) := by
    match ps, hb with
    | [], hb => simp [Qd9] at hb
    | [p], hb =>
     rcases h.ev p with e | e
     ·simp [e]
     ·rw [List.map_cons, List.map_nil, e] at hb; simp [Qd9, Qbm] at hb
    | p :: q :: ps, hb => simp [Qd9] at hb
   rw [e] at h2 hb;rw [if_pos hb];exact ⟨h1, hK _ _ _ (((h.take _).upd' _ _).upd' _ _) h2⟩
  ·rw [if_neg hb];rintro ⟨h1, h2, h3⟩;have e := h.mem (q := fun p => (Qh hp p).isData = true) (by simp [Qh, Qw, PV.isData]) (l := ps) (fun p hp => (h2 p hp).1);rw [e] at h2 h3 hb;rw [if_neg hb];exact ⟨h1, h2, hk _ _ _ _ h3⟩
 | bld d z ps =>
  have key : ((∀ x ∈ ps, ev fr' x.2.2 ≠ .undef) -> (ps.map fun p => (p.1, p.2.1, ev fr' p.2.2)) = ps.map fun p => (p.1, p.2.1, ev fr p.2.2)) := fun hu => by
   refine List.map_congr_left fun x hx =>?_;rcases h.ev x.2.2 with e | e
   ·rw [e]
   ·exact absurd e (hu x hx)
  intro H;simp only [opV, Qcp] at H;split at H
  ·rename_i hn;obtain ⟨h2, h3⟩ := H;have e := key fun x hx e => by obtain ⟨cs, h4, _⟩ := h2 _ (List.mem_map_of_mem hx);rw [e] at h4; simp [stN] at h4
   rw [e] at h2 h3 hn;simp only [opV, Qcp];rw [if_pos hn];exact ⟨h2, hK _ _ _ (h.upd' _ _) h3⟩
  ·rename_i hn;obtain ⟨h2, h3⟩ := H;have e := key fun x hx e => by have := (h2 _ (List.mem_map_of_mem hx)).1;rw [e] at this; simp [Qh, Qw, PV.isData] at this
   rw [e] at h2 h3 hn;simp only [opV, Qcp];rw [if_neg hn];exact ⟨h2, hK _ _ _ (h.upd' _ _) h3⟩
 | fn d f first cap =>simp only [opV];rintro ⟨h2, h3⟩;have h2' := h2;rw [List.all_append, Bool.and_eq_true, List.all_eq_true, List.all_eq_true] at h2';have e1 := h.mem (q := fun p => p.isCap = true) (by simp [PV.isCap]) h2'.1;have e2 := h.mem (q := fun p => p.isCap = true) (by simp [PV.isCap]) h2'.2;rw [e1, e2] at h2 h3;exact ⟨h2, hK _ _ _ (h.upd' _ _) h3⟩
 | nilc d x =>
  simp only [opV, Qhg];rcases h.ev x with e | e
  ·rw [e];intro H; revert H
   repeat' split
   all_goals first | exact id | exact hz _ | exact hu _ _ _ | grind
  ·rw [e]; intro H; revert H; repeat' split
   all_goals first | exact id | exact False.elim | grind
 | bin d op bt x y =>
  simp only [opV];rcases h.ev x with e | e <;> rcases h.ev y with e' | e' <;> rw [e, e']
  ·unfold Qaw;intro H; revert H;split
   ·split <;> first | exact fun H => ⟨H.1, hu _ _ _ H.2⟩ | exact fun H => ⟨H.1, H.2.1, hu _ _ _ H.2.2⟩ | exact id
   ·split <;> first | exact fun H => ⟨H.1, hu _ _ _ H.2⟩ | exact id
   ·exact id
  all_goals
   unfold Qaw;intro H; revert H
   repeat' split
   all_goals first | exact False.elim | (intros; simp_all; done) | (rename_i h1 _; cases h1; done) | (rename_i h1; cases h1; done)
 | sl d e x lo hi mx =>
  simp only [opV, slK];rcases h.ev x with e0 | e0 <;> rcases Qmw h lo with e1 | e1 <;> rcases Qmw h hi with e2 | e2 <;> rcases Qmw h mx with e3 | e3 <;> rw [e0, e1, e2, e3]
  all_goals
   intro H; revert H
   try simp only [Qjg]
   repeat' split
   all_goals first | exact id | exact False.elim | (intros; simp_all; done) | grind
 | ld d n ag x =>
  simp only [opV, ldK];rcases h.ev x with e | e
  ·rw [e];intro H; revert H;split
   ·split
    ·exact fun ⟨a, b, c, k⟩ => ⟨a, b, c, hu _ _ _ k⟩
    ·exact id
   ·exact fun ⟨a, b, k⟩ => ⟨a, b, hu _ _ _ k⟩
   ·exact fun ⟨a, b, k⟩ => ⟨a, b, hu _ _ _ k⟩
   ·intro H;split at H
    ·rename_i hγ;rw [h.nst hγ];obtain ⟨a, b, c, d, k⟩ := H;exact ⟨a, b, c, d, hu _ _ _ k⟩
    ·exact H.elim
   ·exact id
  ·rw [e]; exact fun H => H.elim
 | st n x y =>
  simp only [opV, stK];rcases h.ev x with e | e <;> rcases h.ev y with e' | e' <;> rw [e, e']
  ·intro H; revert H;split
   ·split
    ·exact fun ⟨a, b, c, d, f, k⟩ => ⟨a, b, c, d, f, hz _ k⟩
    ·exact id
   ·intro H;split at H
    ·rename_i hγ;rw [h.nst hγ];obtain ⟨a, b, c, d, H⟩ := H;refine ⟨a, b, c, d, ?_⟩;revert H;split
     ·exact fun ⟨f, k⟩ => ⟨f, hK _ _ _ ((h.drop _).upd' _ _) k⟩
     ·exact id
    ·exact H.elim
   ·exact id
  ·intro H;exfalso;revert H;split
   ·split
    ·rintro ⟨_, b, _⟩; simp [Qh, Qw, PV.isData] at b
    ·exact id
   ·split
    ·rintro ⟨_, _, _, _, H⟩; exact H
    ·exact id
   ·exact id
  ·exact fun H => H.elim
  ·exact fun H => H.elim
 | app d e by_ ty x y =>
  simp only [opV, Qcl];rcases h.ev y with e' | e'
  ·rw [e'];intro H; revert H;split
   ·unfold Qh9;split
    ·rename_i δ _;rcases h δ with e2 | e2
     ·rw [e2];split
      ·rintro ⟨a1, a2, a3, H⟩;refine ⟨a1, a2, a3, ?_⟩;rcases h.ev x with e | e
       ·rw [e] at H;revert H;split
        ·exact fun H => ⟨H.1, hK _ _ _ (((h.take _).upd' _ _).upd' _ _) H.2⟩
        ·rename_i γ k _;rcases h γ with e3 | e3
         ·rw [e3];split
          ·exact fun H => ⟨H.1, H.2.1, hK _ _ _ (((h.take _).upd' _ _).upd' _ _) H.2.2⟩
          ·exact id
         ·rw [e3]; exact fun H => H.elim
        ·exact id
       ·rw [e] at H; exact H.elim
      ·exact id
     ·rw [e2]; exact fun H => H.elim
    ·exact id
   ·rintro ⟨h0, h1, H⟩;refine ⟨h0, h1, ?_⟩;rcases h.ev x with e | e
    ·rw [e] at H;revert H;split
     ·rintro ⟨a, b, c⟩; exact ⟨a, b, hk _ _ _ _ c⟩
     ·split
      ·rintro (⟨a1, a2, a3, a4, a5, a6, a7, c⟩ | ⟨a1, a2, a3, c⟩)
       ·exact .inl ⟨a1, a2, a3, a4, a5, a6, a7, hk _ _ _ _ c⟩
       ·exact .inr ⟨a1, a2, a3, hK _ _ _ ((h.take _).upd' _ _) c⟩
      ·exact id
     ·exact id
    ·rw [e] at H; exact H.elim
  ·rw [e']; exact fun H => H.elim
 | un d op x | conv d k x | len d x | sln d x | fld d o x | fldv d o n ag x | ext d x i =>
  all_goals
   simp only [opV, unK, Qfo, Qd8, Qg0, Qe7, Qdt, ldK, Qc3]
   try (rcases h.ev x with e | e <;> rw [e])
  all_goals
   intro H; revert H
   repeat' split
   all_goals first | exact id | exact False.elim | exact hu _ _ _ | grind [Qh, Qw, PV.isData]
 | box d n ty x =>
  simp only [opV];rcases h.ev x with e | e
  ·rw [e];unfold Qbb;split
   ·unfold Qf6; exact fun H => ⟨H.1, hK _ _ _ (((h.take _).upd' _ _).upd' _ _) H.2⟩
   ·split
    ·exact hu _ _ _
    ·exact fun H => ⟨H.1, H.2.1, H.2.2.1, hk _ _ _ _ H.2.2.2⟩
  ·rw [e]; intro H; simp [Qbb, Qh, Qw, PV.isData] at H
 | alloc d n ty z =>
  simp only [opV];unfold Qbb;split
  ·unfold Qf6; exact fun H => ⟨H.1, hK _ _ _ (((h.take _).upd' _ _).upd' _ _) H.2⟩
  ·split
   ·exact hu _ _ _
   ·exact fun H => ⟨H.1, H.2.1, H.2.2.1, hk _ _ _ _ H.2.2.2⟩
 | eqs d ng x y | sqs d ng x y | six d x y | mx d x y | mn d x y | idx d e x y | idxA d n e x y | ixv d n e ag x y | mk d e by_ ty z x y | cpy d e x y =>
  all_goals
   simp only [opV, Qe5, Qe6, Qf5, mxK, mnK, Qbg, Qds, Qh7, stK, mkK, Qcl, Qia];rcases h.ev x with e | e <;> rcases h.ev y with e' | e' <;> rw [e, e']
  all_goals
   intro H; revert H
   repeat' split
   all_goals first | exact id | exact False.elim | exact hu _ _ _ | grind [Qh, Qw, PV.isData, Qb3]
 | bad d => exact id
end Go.FW
namespace Go.FW
open Go
variable {C : Ctx} {ρ : Nat -> Option Nat} {fr fr' : Fr} {hp : HP} {w : World} {K K' R R' : Qa}
def KM (K' K : Qa) : Prop := ∀ f f' hp, Fle f f' -> K' f' hp -> K f hp
inductive Qdi : List It -> List It -> Prop
 | nil : Qdi [] []
 | c (s : SC) {a b : List It} : Qdi a b -> Qdi (.c s :: a) (.c s :: b)
 | o (r : RT) {a b : List It} : Qdi a b -> Qdi (.o r :: a) (.o r :: b)
 | eb (i : Nat) {a b : List It} : Qdi a b -> Qdi (.eb i :: a) (.eb i :: b)
 | el {J' J : Qa} {a b : List It} : KM J' J -> Qdi a b -> Qdi (.el J' :: a) (.el J :: b)
theorem Qdi.exit {id : Nat} : ∀ {a b : List It}, Qdi a b -> (∃ a' b', FW.Qs id a = some a' /\ FW.Qs id b = some b' /\ Qdi a' b' /\ Qau a' <= Qau a) ∨ (FW.Qs id a = none /\ FW.Qs id b = none) := by
 intro a b h;induction h with
 | nil => exact .inr ⟨rfl, rfl⟩
 | c s h ih | o s h ih =>
  rcases ih with ⟨a', b', h1, h2, h3, h4⟩ | ⟨h1, h2⟩
  ·exact .inl ⟨a', b', by simpa [FW.Qs] using h1, by simpa [FW.Qs] using h2, h3, by simp only [Qau]; omega⟩
  ·exact .inr ⟨by simpa [FW.Qs] using h1, by simpa [FW.Qs] using h2⟩
 | el _ h ih =>
  rcases ih with ⟨a', b', h1, h2, h3, h4⟩ | ⟨h1, h2⟩
  ·exact .inl ⟨a', b', by simpa [FW.Qs] using h1, by simpa [FW.Qs] using h2, h3, by simp only [Qau]; omega⟩
  ·exact .inr ⟨by simpa [FW.Qs] using h1, by simpa [FW.Qs] using h2⟩
 | eb i h ih =>
  by_cases hi : i = id
  ·exact .inl ⟨_, _, by simp [FW.Qs, hi], by simp [FW.Qs, hi], h, by simp only [Qau]; omega⟩
  ·rcases ih with ⟨a', b', h1, h2, h3, h4⟩ | ⟨h1, h2⟩
   ·exact .inl ⟨a', b', by simpa [FW.Qs, hi] using h1, by simpa [FW.Qs, hi] using h2, h3, by simp only [Qau]; omega⟩
   ·exact .inr ⟨by simpa [FW.Qs, hi] using h1, by simpa [FW.Qs, hi] using h2⟩
theorem Qi2 (h : Fle fr fr') (hK : KM K' K) (o : SOp) : Qb4 o fr' hp K' -> Qb4 o fr hp K := by
 unfold Qb4; split
 ·exact hK _ _ _ (h.upd' _ _)
 ·exact hK _ _ _ h
theorem Qqv (h : Fle fr fr') (hK : KM K' K) (g : Option (Nat × Bool)) (o : SOp) : Qfp C g o fr' hp K' -> Qfp C g o fr hp K := by
 unfold Qfp;split
 ·exact Qlq h hK o
 ·rename_i s want;rcases h s with e | e
  ·rw [e];split
   ·exact fun H => ⟨fun t => Qlq (h.upd' _ _) hK o (H.1 t), fun t => Qi2 (h.upd' _ _) hK o (H.2 t)⟩
   ·exact Qi2 h hK o
   ·exact id
  ·rw [e]; exact False.elim
theorem Qov (hR : KM R' R) : ∀ (n : Nat) (sk' sk : List It) (fr' fr : Fr) (hp : HP), Qau sk' <= n -> Qdi sk' sk -> Fle fr fr' -> vc C R' sk' fr' hp -> vc C R sk fr hp := by
 intro n;induction n with
 | zero =>
  intro sk' sk fr' fr hp hn hs hf h;cases hs with
  | nil => rw [Qht] at h ⊢; exact hR _ _ _ hf h
  | el hJ _ => rw [Qji] at h ⊢; exact hJ _ _ _ hf h
  | c s _ => exfalso; have := SC.sz_pos s; simp only [Qau, It.sz] at hn; omega
  | o s _ => exfalso; have := RT.sz_pos s; simp only [Qau, It.sz] at hn; omega
  | eb _ _ => exfalso; simp only [Qau, It.sz] at hn; omega
 | succ n ih =>
  intro sk' sk fr' fr hp hn hs hf h;cases hs with
  | nil => rw [Qht] at h ⊢; exact hR _ _ _ hf h
  | el hJ _ => rw [Qji] at h ⊢; exact hJ _ _ _ hf h
  | eb i hs =>rw [Qmg] at h ⊢;exact ih _ _ _ _ _ (by simp only [Qau, It.sz] at hn; omega) hs hf h
  | o r hs =>
   cases r with
   | nil => rw [Qhq] at h ⊢; exact ih _ _ _ _ _ (by simp only [Qau, It.sz, RT.sz] at hn; omega) hs hf h
   | o g o r =>rw [Qu3] at h ⊢;exact Qqv (K' := fun fr hp => vc C R' (.o r :: _) fr hp) (K := fun fr hp => vc C R (.o r :: _) fr hp) hf (fun f f' hp hf' H => ih (.o r :: _) (.o r :: _) _ _ hp (by simp only [Qau, It.sz, RT.sz] at hn ⊢; omega) (.o r hs) hf' H) g o h
   | wk r =>rw [Qn8] at h ⊢;obtain ⟨fr0, hp0, hw, h⟩ := h;exact ⟨fr0, hp0, hf.wk.trans hw, ih (.o r :: _) (.o r :: _) _ _ _ (by simp only [Qau, It.sz, RT.sz] at hn ⊢; omega) (.o r hs) (Fle.refl _) h⟩
   | br x y =>rw [Qu4] at h ⊢;exact ⟨ih (.o x :: _) (.o x :: _) _ _ _ (by simp only [Qau, It.sz, RT.sz] at hn ⊢; omega) (.o x hs) hf h.1, ih (.o y :: _) (.o y :: _) _ _ _ (by simp only [Qau, It.sz, RT.sz] at hn ⊢; omega) (.o y hs) hf h.2⟩
  | @c s a b hs =>
   cases s with
   | skip => rw [Qii] at h ⊢; exact ih _ _ _ _ _ (by simp only [Qau, It.sz, SC.sz] at hn; omega) hs hf h
   | rg r => rw [Qse] at h ⊢; exact ih (.o r :: _) (.o r :: _) _ _ _ (by simp only [Qau, It.sz, SC.sz] at hn ⊢; omega) (.o r hs) hf h
   | raw id ops =>
    rw [vc] at h ⊢;intro tmps w Q hsim hQ;refine h tmps w Q ?_ fun fr2 hp2 tmps2 w2 hs2 hv => hQ fr2 hp2 tmps2 w2 hs2 ?_
    ·obtain ⟨ρ, hsim⟩ := hsim;exact ⟨ρ, hf.sim hsim⟩
    ·exact ih _ _ _ _ _ (by simp only [Qau, It.sz, SC.sz] at hn; omega) hs (Fle.refl _) hv
   | seq x y => rw [Qka] at h ⊢; exact ih (.c x :: .c y :: _) (.c x :: .c y :: _) _ _ _ (by simp only [Qau, It.sz, SC.sz] at hn ⊢; omega) (.c x (.c y hs)) hf h
   | block id x => rw [Qg5] at h ⊢; exact ih (.c x :: .eb id :: _) (.c x :: .eb id :: _) _ _ _ (by simp only [Qau, It.sz, SC.sz] at hn ⊢; omega) (.c x (.eb id hs)) hf h
   | ret => rw [Qkb] at h ⊢; exact hR _ _ _ hf h
   | cond c x y =>
    rw [Qij] at h ⊢;rcases hf.ev c with e | e
    ·rw [e] at h;unfold Qgm at h ⊢;split at h
     ·exact ⟨fun e => ih (.c x :: _) (.c x :: _) _ _ _ (by simp only [Qau, It.sz, SC.sz] at hn ⊢; omega) (.c x hs) hf (h.1 e), fun e => ih (.c y :: _) (.c y :: _) _ _ _ (by simp only [Qau, It.sz, SC.sz] at hn ⊢; omega) (.c y hs) hf (h.2 e)⟩
     ·exact h
    ·rw [e] at h; exact h.elim
   | exit id =>
    rw [Qik] at h ⊢;rcases hs.exit (id := id) with ⟨a', b', h1, h2, h3, h4⟩ | ⟨h1, h2⟩
    ·rw [h1] at h; rw [h2];simp only [Qgn] at h ⊢;exact ih _ _ _ _ _ (by simp only [Qau, It.sz, SC.sz] at hn; omega) h3 hf h
    ·rw [h1] at h; exact h.elim
   | loop x =>rw [Qdh] at h ⊢;obtain ⟨I, μ, ⟨fr0, hp0, h1, h1'⟩, h2⟩ := h;refine ⟨I, μ, ⟨fr0, hp0, hf.wk.trans h1, h1'⟩, fun fr hp hI =>?_⟩;refine ih (.c x :: .el _ :: _) (.c x :: .el _ :: _) _ _ _ (by simp only [Qau, It.sz, SC.sz] at hn ⊢; omega) (.c x (.el ?_ hs)) (Fle.refl _) (h2 fr hp hI);rintro f f' hp' hf ⟨fr0, hp0, g1, g2, g3⟩;exact ⟨fr0, hp0, hf.wk.trans g1, g2, g3⟩
def inW : List (Nat × Nat) -> Nat -> Bool
 | [], _ => false
 | (a, b) :: W, s => (decide (a <= s) && decide (s <= b)) || inW W s
theorem Qs6 (s : Nat) : inW [] s = false := rfl
theorem Qfw (a b s : Nat) (W : List (Nat × Nat)) : inW ((a, b) :: W) s = ((decide (a <= s) && decide (s <= b)) || inW W s) := rfl
def ovr (W : List (Nat × Nat)) (J F : Fr) : Fr := fun s => if inW W s then J s else F s
theorem Qow (W : List (Nat × Nat)) (J F : Fr) (s : Nat) : ovr W J F s = if inW W s then J s else F s := rfl
theorem Qlr {W : List (Nat × Nat)} {a : Nat} {v : PV} {J F : Fr} (h : inW W a = true) : upd (ovr W J F) a v = ovr W (upd J a v) F := by
 funext s; unfold upd ovr;by_cases hs : s = a
 ·subst hs; rw [if_pos rfl, if_pos h]; simp
 ·rw [if_neg hs]; split
  ·simp [hs]
  ·rfl
theorem Qqw {W : List (Nat × Nat)} {a : Nat} {v : PV} {J F : Fr} : upd (ovr W J F) a v = if inW W a = true then ovr W (upd J a v) F else ovr ((a, a) :: W) (upd J a v) F := by
 split
 ·exact Qlr ‹_›
 ·funext s; unfold upd ovr;by_cases hs : s = a
  ·subst hs; simp [inW]
  ·have : (decide (a <= s) && decide (s <= a)) = false := by rw [Bool.and_eq_false_iff]; simp only [decide_eq_false_iff_not]; omega
   simp only [Qfw, this, Bool.false_or, if_neg hs]
theorem Qox {W : List (Nat × Nat)} {β : Nat} {J F : Fr} : Qy β (ovr W J F) = ovr W (Qy β J) (Qy β F) := by funext s; unfold Qy ovr; split <;> rfl
def Qv (B : List Nat) (F : Fr) : Fr := fun s => if (F s).refs.any B.contains then .undef else F s
theorem Qbw (F : Fr) : Qv [] F = F := by funext s; simp [Qv]
theorem Qkn {β : Nat} {B : List Nat} {F : Fr} (h : B.contains β = true) : Qy β (Qv B F) = Qv B F := by
 funext s;show Qn β (Qv B F s) = Qv B F s;by_cases h1 : (F s).refs.any B.contains = true
 ·have : Qv B F s = .undef := if_pos h1;rw [this]; rfl
 ·have : Qv B F s = F s := if_neg h1;rw [this, Qn, if_neg];intro h2;exact h1 (List.any_eq_true.2 ⟨β, by simpa using h2, h⟩)
theorem Qjh {β : Nat} {B : List Nat} {F : Fr} : Qy β (Qv B F) = if B.contains β = true then Qv B F else Qv (β :: B) F := by
 split
 ·exact Qkn ‹_›
 ·funext s;show Qn β (Qv B F s) = Qv (β :: B) F s;unfold Qv Qn;by_cases h1 : (F s).refs.any B.contains = true
  ·have h2 : (F s).refs.any (β :: B).contains = true := by obtain ⟨x, hx, hx2⟩ := List.any_eq_true.1 h1;exact List.any_eq_true.2 ⟨x, hx, by rw [List.contains_cons, hx2, Bool.or_true]⟩
   simp only [if_pos h1, if_pos h2];rfl
  ·simp only [if_neg h1];by_cases h2 : (F s).refs.contains β = true
   ·have h3 : (F s).refs.any (β :: B).contains = true := List.any_eq_true.2 ⟨β, by simpa using h2, by simp⟩;rw [if_pos h2, if_pos h3]
   ·rw [if_neg h2, if_neg];intro h3;obtain ⟨x, hx, hx2⟩ := List.any_eq_true.1 h3;rw [List.contains_cons, Bool.or_eq_true] at hx2;rcases hx2 with e | e
    ·have : x = β := by simpa using e
     subst this; exact h2 (by simpa using hx)
    ·exact h1 (List.any_eq_true.2 ⟨x, hx, e⟩)
theorem Qgg (B : List Nat) (F : Fr) (s : Nat) : Qv B F s = if (F s).refs.any B.contains then .undef else F s := rfl
theorem Qko (W : List (Nat × Nat)) (B : List Nat) : Fle fr (ovr W fr (Qv B fr)) := fun s => by
 unfold ovr Qv;split
 ·exact .inl rfl
 ·split
  ·exact .inr rfl
  ·exact .inl rfl
def Qgq (W : List (Nat × Nat)) (F : Fr) (I : Nat -> Fr -> HP -> Prop) (n : Nat) : Qa := fun fr' hp' => ∃ J m, Fle fr' (ovr W J F) /\ m < n /\ I m J hp'
theorem Qao {W : List (Nat × Nat)} {F J : Fr} {I : Nat -> Fr -> HP -> Prop} {n : Nat} (m : Nat) (hl : m < n) (h : I m J hp) : Qgq W F I n (ovr W J F) hp := ⟨J, m, Fle.refl _, hl, h⟩
theorem Qqx {W : List (Nat × Nat)} {F : Fr} {I : Nat -> Fr -> HP -> Prop} {n : Nat} : KM (Qgq W F I n) (Qgq W F I n) := by rintro f f' hp hf ⟨J, m, h1, h2, h3⟩;exact ⟨J, m, hf.trans h1, h2, h3⟩
def Qb2 (R : Qa) (sk : List It) : Prop := KM R R /\ Qdi sk sk
theorem Qaj {sk : List It} {x : SC} (hok : Qb2 R sk) (W : List (Nat × Nat)) (B : List Nat) (I : Nat -> Fr -> HP -> Prop) (m0 : Nat) (h0 : I m0 fr hp)
  (h : ∀ m J hp, I m J hp -> vc C R (.c x :: .el (Qgq W (Qv B fr) I m) :: sk) (ovr W J (Qv B fr)) hp) : vc C R (.c (.loop x) :: sk) fr hp := by
 refine Qi1 (fun m fr' hp' => ∃ J, fr' = ovr W J (Qv B fr) /\ I m J hp') m0 (Qko W B).wk ⟨fr, rfl, h0⟩ ?_;rintro m _ hp' ⟨J, rfl, hI⟩;refine Qov hok.1 _ _ _ _ _ _ (Nat.le_refl _) (.c x (.el ?_ hok.2)) (Fle.refl _) (h m J hp' hI);rintro f f' hp2 hf ⟨J2, m2, e2, hl, h2⟩;exact Qkl hl (hf.trans e2).wk ⟨J2, rfl, h2⟩
def Qqy (W : List (Nat × Nat)) (F : Fr) (M : Fr -> HP -> Prop) : Qa := fun fr' hp' => ∃ J, Fle fr' (ovr W J F) /\ M J hp'
theorem Qs7 {W : List (Nat × Nat)} {F : Fr} {M : Fr -> HP -> Prop} : KM (Qqy W F M) (Qqy W F M) := by rintro f f' hp hf ⟨J, h1, h3⟩;exact ⟨J, hf.trans h1, h3⟩
theorem Q8 {sk : List It} {W : List (Nat × Nat)} {F : Fr} {I : Nat -> Fr -> HP -> Prop} {n : Nat} (h : Qb2 R sk) : Qb2 R (.el (Qgq W F I n) :: sk) := ⟨h.1, .el Qqx h.2⟩
theorem Qae {sk : List It} {W : List (Nat × Nat)} {F : Fr} {M : Fr -> HP -> Prop} (h : Qb2 R sk) : Qb2 R (.el (Qqy W F M) :: sk) := ⟨h.1, .el Qs7 h.2⟩
theorem Qaq {sk : List It} {i : Nat} (h : Qb2 R sk) : Qb2 R (.eb i :: sk) := ⟨h.1, .eb i h.2⟩
theorem Qa1 {sk : List It} {s : SC} (h : Qb2 R sk) : Qb2 R (.c s :: sk) := ⟨h.1, .c s h.2⟩
theorem Qa2 {sk : List It} {s : RT} (h : Qb2 R sk) : Qb2 R (.o s :: sk) := ⟨h.1, .o s h.2⟩
theorem Q2 {sk : List It} {I : Nat -> Qa} {n : Nat} (h : Qb2 R sk) : Qb2 R (.el (Qhu I n) :: sk) := ⟨h.1, .el (fun f f' hp hf ⟨a, b, h1, h2⟩ => ⟨a, b, hf.wk.trans h1, h2⟩) h.2⟩
theorem Qls {rs : List RV} {Rr : PV -> Prop} : KM (Qce rs Rr) (Qce rs Rr) := by
 have one : ∀ (f f' : Fr) (hp : HP) (r : RV), Fle f f' -> okR f' hp r -> okR f hp r /\ rvP f' hp r = rvP f hp r := by
  intro f f' hp r hf ho;cases r with
  | t s =>
   simp only [okR, rvP] at ho ⊢;rcases hf s with e | e
   ·rw [e] at ho ⊢; exact ⟨ho, rfl⟩
   ·rw [e] at ho; simp [Qh, Qw, PV.isData] at ho
  | cell s n ag =>
   simp only [okR, rvP] at ho ⊢;rcases hf s with e | e
   ·rw [e] at ho ⊢; exact ⟨ho, rfl⟩
   ·rw [e] at ho; exact ho.elim
 intro f f' hp hf h;unfold Qce at h ⊢;split at h
 ·rename_i r;obtain ⟨h1, h2⟩ := h;obtain ⟨g1, g2⟩ := one f f' hp r hf h1;rw [g2] at h2;exact ⟨g1, h2⟩
 ·obtain ⟨h1, h2⟩ := h;have e : rs.map (rvP f' hp) = rs.map (rvP f hp) := List.map_congr_left fun r hr => (one f f' hp r hf (h1 r hr)).2;rw [e] at h2;exact ⟨fun r hr => (one f f' hp r hf (h1 r hr)).1, h2⟩
theorem Qqz {rs : List RV} {ty : TypeId} {len : Nat} {Post : PV -> List PV -> Prop} : KM (Qmu rs ty len Post) (Qmu rs ty len Post) := by
 rintro f f' hp hf ⟨xs', h1, h2, h3, h4⟩;refine ⟨xs', h1, h2, h3, ?_⟩;rcases h4 with h4 | ⟨s, o, n, h4, h5, h6⟩
 ·exact .inl (Qls _ _ _ hf h4)
 ·refine .inr ⟨s, o, n, h4, ?_, h6⟩;rcases hf s with e | e
  ·rw [<- e]; exact h5
  ·rw [h5] at e; cases e
theorem Qq0 {rs : List RV} {ty : TypeId} {Post : List PV -> Prop} : KM (Qmv rs ty Post) (Qmv rs ty Post) := by
 rintro f f' hp hf ⟨s, β, n, xs, h1, h2, h3⟩;refine ⟨s, β, n, xs, h1, ?_, h3⟩;rcases hf s with e | e
 ·rw [<- e]; exact h2
 ·rw [h2] at e; cases e
theorem Qaf {rs : List RV} {Rr : PV -> Prop} : Qb2 (Qce rs Rr) [] := ⟨Qls, .nil⟩
theorem Q9 {rs : List RV} {ty : TypeId} {len : Nat} {Post : PV -> List PV -> Prop} : Qb2 (Qmu rs ty len Post) [] := ⟨Qqz, .nil⟩
theorem Qaa {rs : List RV} {ty : TypeId} {Post : List PV -> Prop} : Qb2 (Qmv rs ty Post) [] := ⟨Qq0, .nil⟩
theorem Qfi {sk : List It} {x : SC} (i β e ty : Nat) (he : 0 < e) (hi : fr i = .nilS) (h : vc C R (.c (.loop x) :: sk) (upd (Qy β fr) i (.ms β 0)) (Qe hp β ⟨e, ty, [], false⟩)) (hB : isB β = false := by decide) : vc C R (.c (.loop x) :: sk) fr hp := by rw [Qdh] at h ⊢;obtain ⟨I, μ, ⟨fr0, hp0, h1, h1'⟩, h2⟩ := h;exact ⟨I, μ, ⟨fr0, hp0, (Qus i β e ty he hi hB).trans h1, h1'⟩, h2⟩
end Go.FW
namespace Go.FW
open Go
variable {C : Ctx} {fr : Fr} {hp : HP} {w : World} {K R : Qa}
end Go.FW
