/- Part 2 of the proof of DiscoverCandidate: X1, X10, X11, X12, X13, EQ, FwRF. Own lemmas; no conditions. -/
import Derived.Test.YtnhofjeojfgfoaaGreatDiscoverCandidatePart1
import Derived.WalkKit
import Derived.Shelf.Abstract
import Derived.OwnWalk
import Derived.OwnWalkIn
import Derived.TacticsInMore
import Derived.LoopNIn
import Derived.LoopIn
import Derived.Test.YtnhofjeojfgfoaaGreatProg
import Derived.Laws.EntriesVeiled
import Derived.Laws.StructEq
import Derived.ChangeKeysEq
set_option maxHeartbeats 1000000
set_option linter.unusedSimpArgs false
set_option linter.unusedVariables false
set_option linter.unnecessarySimpa false
set_option maxRecDepth 100000
namespace Go.Proofs.YtnhofjeojfgfoaaGreat
open Go Go.FW Go.RowKit Go.Shelf
attribute [local go_sem] Oper.semAt_some
theorem Qd3 (m : Nat) (w : World) (a b c : Int) : CallsIn Fence.wide m Tryz.prog 9 #[.int .i64 a, .int .i64 b, .int .i64 c] w fun e w' =>
  e = .returned (.func (.func 26) #[] #[.pointer (some ⟨w.heap.size + 1 + 1, 0, none⟩), .pointer (some ⟨w.heap.size, 0, none⟩), .pointer (some ⟨w.heap.size + 1, 0, none⟩)]) /\
  w' = ((w.alloc (.cells #[.int .i64 a] 3)).alloc (.cells #[.int .i64 b] 3)).alloc (.cells #[.int .i64 c] 3) := by
 refine callsIn_of_wp Tryz.func9 rfl trivial ?_ rfl;simp only [Tryz.ntmps9, List.size_toArray, List.length_cons, List.length_nil, Nat.reduceAdd, Nat.reduceSub, Array.replicate_succ, Array.replicate_zero, List.push_toArray, List.append_toArray, List.nil_append, List.cons_append]
 gi_wp2
 go_ret
 exact ⟨rfl, rfl⟩
theorem hdd (k : Nat) : Fence.wide.depth.isSome = true -> 1 <= k := fun h => by cases h
def Qay (n : Nat) : Nat -> Nat -> List (List Int)
 | 0, _ => [[]]
 | k + 1, a => (List.range' a (n - a)).flatMap fun i => (Qay n k (i + 1)).map ((i : Int) :: ·)
theorem Qg0 (n : Nat) : ∀ (k a : Nat) (c : List Int), c ∈ Qay n k a -> c.length = k
 | 0, _, c, h => by simp [Qay] at h; subst h; rfl
 | k + 1, a, c, h => by simp only [Qay, List.mem_flatMap, List.mem_map] at h;obtain ⟨i, _, d, hd, rfl⟩ := h;simp [Qg0 n k _ d hd]
theorem Qjv : (Tryz.prog.info? 3).map (fun i => (i.zero, i.size, i.bytes)) = some (some (.int .i64 0), 1, 8) := by kernel_rfl
theorem Qif : Tryz.prog.follows .mixedOrders = true := by kernel_rfl
abbrev eI : TypeId := 3
theorem Qn0 (n a bn bf bp : Nat) (w : World) (hn : Boxed w bn eI (.int .i64 0)) : Qfl Fence.wide Tryz.prog 26 #[.pointer (some ⟨bn, 0, none⟩), .pointer (some ⟨bf, 0, none⟩), .pointer (some ⟨bp, 0, none⟩)] eI (fun b => b = bn ∨ b = bf ∨ b = bp) (Qay n 0 a) w := by
 intro m l J Y0 W hW hJ hY0 hY h0;have hbn : Boxed W bn eI (.int .i64 0) := (hW.block bn hn.lt (.inl rfl)).trans hn;have hlb := hbn.lt;refine callsIn_of_wp_marks Tryz.func26 rfl trivial ?_ rfl;simp only [Tryz.ntmps26, List.size_toArray, List.length_cons, List.length_nil, Nat.reduceAdd, Nat.reduceSub, Array.replicate_succ, Array.replicate_zero, List.push_toArray, List.append_toArray, List.nil_append, List.cons_append];have hb2 := hbn.alloc (.cells #[.func (.yield l) #[] #[]] 58);have hc := hb2.cell;have hk : Qu Y0 W (W.alloc (.cells #[.func (.yield l) #[] #[]] 58)) := Qu.alloc _ _ _;obtain ⟨fn, tmps, assign, body, hy, hR⟩ := hY (m - 1) [] [] [] (.slice none 0 0) Y0 _ rfl (hJ.kept _ _ _ _ h0 hk) ⟨rfl, .inl ⟨rfl, rfl⟩⟩ (fun b hb => by cases hb)
 gi_wp2_with (refine ⟨hdd _, ?_⟩; refine hR.mono ?_; rintro e W' ⟨rfl, Y', hJ', hO⟩)
 refine ⟨_, results_none rfl _ _ _, ⟨_, rfl⟩, Y', hJ', fun b hb =>?_, ?_⟩
 ·rcases hO.own b hb with h | h | h
  ·exact .inl h
  ·exact .inr (.inl (by simp at h; omega))
  ·cases h
 ·exact (Ext.alloc' Y0 W _).trans hO.ext
structure Qzi (n k a : Nat) (W : World) (J : List (List Int) -> (Nat -> Prop) -> World -> Prop) (Y0 : Nat -> Prop) (yv : Value) (ba : Nat) (ds : List Deferred) (Y : Nat -> Prop) (i : Nat) (W' : World) : Prop where
 j : J ((List.range' a (i - a)).flatMap fun i => (Qay n k (i + 1)).map ((i : Int) :: ·)) Y W'
 o : Qca Y0 none W Y W'
 bx : Boxed W' W.heap.size 58 yv
 nb : ¬ Y W.heap.size
 na : ¬ Y ba
 la : W.heap.size < ba
 ms : Mks W.heap.size ds W'.heap.size W'
 nm : ∀ b, Mks.blk ds b -> ¬ Y b
def Qu9 : Value -> Nat
 |.pointer (some a) => a.block
 | _ => 0
theorem Qn1 (n k a bn bf bp : Nat) (w : World) (hn : Boxed w bn eI (.int .i64 (k + 1 : Nat))) (hf : Boxed w bf eI (.int .i64 (a : Nat))) (hp : Boxed w bp eI (.int .i64 (n : Nat))) (hkn : k < 100) (hnn : n < 100) (han : a < 200)
  (ih : ∀ (a bn bf bp : Nat) (w : World), Boxed w bn eI (.int .i64 (k : Nat)) -> Boxed w bf eI (.int .i64 (a : Nat)) -> Boxed w bp eI (.int .i64 (n : Nat)) -> a < 200 -> Qfl Fence.wide Tryz.prog 26 #[.pointer (some ⟨bn, 0, none⟩), .pointer (some ⟨bf, 0, none⟩), .pointer (some ⟨bp, 0, none⟩)] eI (fun b => b = bn ∨ b = bf ∨ b = bp) (Qay n k a) w) :
  Qfl Fence.wide Tryz.prog 26 #[.pointer (some ⟨bn, 0, none⟩), .pointer (some ⟨bf, 0, none⟩), .pointer (some ⟨bp, 0, none⟩)] eI (fun b => b = bn ∨ b = bf ∨ b = bp) (Qay n (k + 1) a) w := by
 intro m l J Y0 W hW hJ hY0 hY h0;have hbn : Boxed W bn eI (.int .i64 (k + 1 : Nat)) := (hW.block bn hn.lt (.inl rfl)).trans hn;have hbf : Boxed W bf eI (.int .i64 (a : Nat)) := (hW.block bf hf.lt (.inr (.inl rfl))).trans hf;have hbp : Boxed W bp eI (.int .i64 (n : Nat)) := (hW.block bp hp.lt (.inr (.inr rfl))).trans hp;have l1 := hbn.lt;have l2 := hbf.lt;have l3 := hbp.lt;refine callsIn_of_wp_marks Tryz.func26 rfl trivial ?_ rfl;simp only [Tryz.ntmps26, List.size_toArray, List.length_cons, List.length_nil, Nat.reduceAdd, Nat.reduceSub, Array.replicate_succ, Array.replicate_zero, List.push_toArray, List.append_toArray, List.nil_append, List.cons_append];have c1 := (hbn.alloc (.cells #[.func (.yield l) #[] #[]] 58)).cell;have c2 := (hbf.alloc (.cells #[.func (.yield l) #[] #[]] 58)).cell;have hk1 : ¬ ((k + 1 : Nat) : Int) = 0 := by omega
 have hlt := hJ.lt _ _ _ h0;obtain ⟨yv, hyv⟩ : ∃ yv, yv = Value.func (.yield l) #[] #[] := ⟨_, rfl⟩
 gi_wp2
 refine wpIn_loop (fun a' W' => ∃ (i ba : Nat) (ds : List Deferred) (Y : Nat -> Prop) (u6 u7 u8 u9 u10 u11 u12 u13 u14 u15 u16 u17 u18 u19 u20 u21 u22 u23 u24 u25 u26 u27 u28 u29 u30 u31 : Value), (a <= i /\ i < 300 /\ (i <= n ∨ i = a) /\ Boxed W' ba eI (.int .i64 (i : Nat)) /\ Qzi n k a W J Y0 yv ba ds Y i W') /\ a' = ⟨#[.func (.yield l) #[] #[], .pointer (some ⟨bn, 0, none⟩), .pointer (some ⟨bf, 0, none⟩), .pointer (some ⟨bp, 0, none⟩), .pointer (some ⟨W.heap.size, 0, none⟩), .pointer (some ⟨ba, 0, none⟩), u6, u7, u8, u9, u10, u11, u12, u13, u14, u15, u16, u17, u18, u19, u20, u21, u22, u23, u24, u25, u26, u27, u28, u29, u30, u31], ds⟩)
  (fun a' W' => n - (intOf ((W'.cell? ⟨Qu9 (a'.tmps.getD 5 undef), 0, none⟩).getD undef)).toNat) ?_ ?_
 ·(repeat apply Exists.intro)
  refine ⟨⟨Nat.le_refl _, by omega, .inr rfl, ?_, ?_⟩, rfl⟩
  ·have := Boxed.new (W.alloc (.cells #[yv] 58)) eI (.int .i64 (a : Nat));simp only [World.size_alloc] at this;subst hyv;exact this
  ·subst hyv;refine ⟨?_, ⟨fun b hb =>.inl hb, (Ext.alloc' Y0 W _).trans (Ext.alloc' Y0 _ _)⟩, (Boxed.new W _ _).alloc _, fun h => by have := hlt _ h; omega, fun h => by have := hlt _ h; omega, by omega, trivial, fun _ h => h.elim⟩;rw [Nat.sub_self];exact hJ.kept _ _ _ _ h0 ((Qu.alloc Y0 W _).trans (Qu.alloc Y0 _ _))
 ·rintro a' W' ⟨i, ba, ds, Y, u6, u7, u8, u9, u10, u11, u12, u13, u14, u15, u16, u17, u18, u19, u20, u21, u22, u23, u24, u25, u26, u27, u28, u29, u30, u31, ⟨hi1, hi3, hi2, hba, hI⟩, rfl⟩
  try dsimp only
  have hbn2 : Boxed W' bn eI (.int .i64 (k + 1 : Nat)) := (hI.o.ext.block bn l1 (fun h => hY0 _ h (.inl rfl))).trans hbn;have hbp2 : Boxed W' bp eI (.int .i64 (n : Nat)) := (hI.o.ext.block bp l3 (fun h => hY0 _ h (.inr (.inr rfl)))).trans hbp;have q1 := hbn2.cell;have q2 := hbp2.cell;have q3 := hba.cell
  gi_wp2_with (refine ⟨trivial, hdd _, ?_⟩; refine (Qd3 _ _ _ _ _).mono ?_; rintro e w' ⟨rfl, rfl⟩)
  ·obtain ⟨W2, hW2⟩ : ∃ W2, W2 = ((W'.alloc (.cells #[.int .i64 ((i : Int) + 1)] 3)).alloc (.cells #[.int .i64 (n : Int)] 3)).alloc (.cells #[.int .i64 (k : Int)] 3) := ⟨_, rfl⟩
   have hb3 : Boxed W2 (W'.heap.size + 1 + 1) eI (.int .i64 (k : Nat)) := by have := Boxed.new ((W'.alloc (.cells #[.int .i64 ((i : Int) + 1)] 3)).alloc (.cells #[.int .i64 (n : Int)] 3)) 3 (.int .i64 (k : Int));simp only [World.size_alloc] at this;rw [hW2]; exact this
   have hb4 : Boxed W2 W'.heap.size eI (.int .i64 (i + 1 : Nat)) := by rw [hW2]; exact ((Boxed.new W' 3 _).alloc _).alloc _
   have hb5 : Boxed W2 (W'.heap.size + 1) eI (.int .i64 (n : Nat)) := by have := Boxed.new (W'.alloc (.cells #[.int .i64 ((i : Int) + 1)] 3)) 3 (.int .i64 (n : Int));simp only [World.size_alloc] at this;rw [hW2]; exact this.alloc _
   have hk2 : ∀ Z, Qu Z W' W2 := fun Z => by rw [hW2]; exact ((Qu.alloc Z _ _).trans (Qu.alloc Z _ _)).trans (Qu.alloc Z _ _)
   have he2 : ∀ Z, Ext Z W' W2 := fun Z => by rw [hW2]; exact ((Ext.alloc' Z _ _).trans (Ext.alloc' Z _ _)).trans (Ext.alloc' Z _ _)
   have hs2 : W2.heap.size = W'.heap.size + 3 := by rw [hW2]; simp
   rw [<- hW2];clear hW2;have hYlt := hJ.lt _ _ _ hI.j;obtain ⟨Ob, hOb⟩ : ∃ Ob : Nat -> Prop, ∀ b, Ob b ↔ b = ba ∨ b = W.heap.size ∨ Mks.blk ds b := ⟨_, fun _ => Iff.rfl⟩
   have hba2 : Boxed W2 ba eI (.int .i64 (i : Nat)) := ((hk2 (· = ba)).block _ hba.lt rfl).trans hba;have hby2 : Boxed W2 W.heap.size 58 yv := ((hk2 (· = W.heap.size)).block _ hI.bx.lt rfl).trans hI.bx;have hms2 : Mks W.heap.size ds W'.heap.size W2 := hI.ms.kept fun b hb => (hk2 (Mks.blk ds)).block _ (hI.ms.lt hb).2.1 hb;have hOlt : ∀ b, Ob b -> b < W'.heap.size := fun b hb => by
    rcases (hOb b).1 hb with rfl | rfl | h
    ·exact hba.lt
    ·exact hI.bx.lt
    ·exact (hI.ms.lt h).2.1
   have hOY : ∀ b, Ob b -> ¬ Y b := fun b hb => by
    rcases (hOb b).1 hb with rfl | rfl | h
    ·exact hI.na
    ·exact hI.nb
    ·exact hI.nm b h
   refine Qie rfl rfl (gf := 26) (lb := #[.pointer (some ⟨W'.heap.size + 1 + 1, 0, none⟩), .pointer (some ⟨W'.heap.size, 0, none⟩), .pointer (some ⟨W'.heap.size + 1, 0, none⟩)]) rfl trivial (enters_of Tryz.func26 (by kernel_rfl) rfl)
    (ih (i + 1) _ _ _ W2 hb3 hb4 hb5 (by omega)) (Qu.refl _ _) (fun b hb => by rcases hb with rfl | rfl | rfl <;> omega) rfl
    (fun pre Yi X => ∃ Y1, (∀ b, Yi b ↔ Y1 b ∨ Ob b) /\ (∀ b, Ob b -> ¬ Y1 b) /\ (∀ b, Ob b -> b < X.heap.size) /\ J (((List.range' a (i - a)).flatMap fun i => (Qay n k (i + 1)).map ((i : Int) :: ·)) ++ pre.map ((i : Int) :: ·)) Y1 X /\ Boxed X ba eI (.int .i64 (i : Nat)) /\ Boxed X W.heap.size 58 yv /\ Mks W.heap.size ds W'.heap.size X)
    ⟨?_, ?_⟩ (fun b => Y b ∨ Ob b) (fun b hb hB =>?_) ⟨Y, fun _ => Iff.rfl, hOY, fun b hb => (by have := hOlt b hb; omega), ?_, hba2, hby2, hms2⟩
    (fun v => { tmps := #[.func (.yield l) #[] #[], .pointer (some ⟨bn, 0, none⟩), .pointer (some ⟨bf, 0, none⟩), .pointer (some ⟨bp, 0, none⟩), .pointer (some ⟨W.heap.size, 0, none⟩), .pointer (some ⟨ba, 0, none⟩), v, u7, u8, u9, u10, u11, .int .i64 (i : Int), .int .i64 (n : Int), .bool true, u15, u16, .int .i64 (i : Int), .int .i64 ((i : Int) + 1), .int .i64 (n : Int), .int .i64 ((k : Int) + 1), .int .i64 (k : Int), .func (.func 26) #[] #[.pointer (some ⟨W'.heap.size + 1 + 1, 0, none⟩), .pointer (some ⟨W'.heap.size, 0, none⟩), .pointer (some ⟨W'.heap.size + 1, 0, none⟩)], v, u24, u25, u26, u27, u28, u29, u30, u31], defers := [] }) ?assign ?body ?done
   ·rintro s Yi X X' ⟨Y1, h1, h2, h3, h4, h5, h6, h7⟩ hk;have hkO : ∀ b, Ob b -> X'.heap[b]? = X.heap[b]? := fun b hb => hk.block b (h3 b hb) ((h1 b).2 (.inr hb));exact ⟨Y1, h1, h2, fun b hb => Nat.lt_of_lt_of_le (h3 b hb) hk.size, hJ.kept _ _ _ _ h4 (hk.mono fun b _ hb => (h1 b).2 (.inl hb)), (hkO _ ((hOb _).2 (.inl rfl))).trans h5, (hkO _ ((hOb _).2 (.inr (.inl rfl)))).trans h6, h7.kept fun b hb => hkO b ((hOb b).2 (.inr (.inr hb)))⟩
   ·rintro s Yi X ⟨Y1, h1, h2, h3, h4, h5, h6, h7⟩ b hb;rcases (h1 b).1 hb with h | h
    ·exact hJ.lt _ _ _ h4 b h
    ·exact h3 b h
   ·have : b < W'.heap.size := by
     rcases hb with h | h
     ·exact hYlt b h
     ·exact hOlt b h
    rcases hB with rfl | rfl | rfl <;> omega
   ·simp only [List.map_nil, List.append_nil];exact hJ.kept _ _ _ _ hI.j (hk2 _)
   case assign =>
    intro l2 v X K hK
    gi_wp2
    exact hK
   case body =>
    rintro l2 pre c suf v Yi X hxs hsX ⟨Y1, h1, h2, h3, h4, h5, h6, h7⟩ hv hvY;have hcl : c.length = k := Qg0 n k (i + 1) c (by rw [hxs]; simp)
    gi_wp2
    rename_i K0 hK0;have hin : i < n := by omega
    have hsplit : Qay n (k + 1) a = ((List.range' a (i - a)).flatMap (fun i => (Qay n k (i + 1)).map ((i : Int) :: ·)) ++ pre.map ((i : Int) :: ·)) ++ ((i : Int) :: c) :: (suf.map ((i : Int) :: ·) ++ (List.range' (i + 1) (n - i - 1)).flatMap (fun i => (Qay n k (i + 1)).map ((i : Int) :: ·))) := by
     have e1 : List.range' a (n - a) = List.range' a (i - a) ++ i :: List.range' (i + 1) (n - i - 1) := by rw [show n - a = (i - a) + (n - i) by omega, <- List.range'_append_1, show a + (i - a) = i by omega, show n - i = (n - i - 1) + 1 by omega, List.range'_succ];simp
     simp only [Qay];rw [e1, List.flatMap_append, List.flatMap_cons, hxs];simp [List.append_assoc]
    obtain ⟨i0, hi0, z0, z1, z2⟩ := info_parts Qjv;have hX3 : SlI eI (.slice (some ⟨X.heap.size, 0, none⟩) 1 1) [(i : Int)] (X.drew.alloc (.cells #[.int .i64 (i : Int)] eI)) := ⟨rfl, .inr ⟨X.heap.size, 1, _, rfl, Nat.zero_le _, World.alloc_heap_new _ _, Nat.le_refl _, by decide, rfl, rfl⟩⟩
    have hv3 : SlI eI v c (X.drew.alloc (.cells #[.int .i64 (i : Int)] eI)) := hv.kept fun b hb => by obtain ⟨cur, h⟩ := hv.lt hb;exact Below.heap_alloc X.drew _ b (Array.getElem?_eq_some_iff.1 h).1
    obtain ⟨v', W4, hr4, hs4, hg4, hb4⟩ := Qj0 (P := Tryz.prog) (t := 27) (ty := 27) Tryz.underlying27 hi0 z0 z1 z2 hX3 (by simp) hv3 (by simp; omega);have hgk : Qu Y1 X W4 := ⟨hg4.os, hg4.tape, hg4.output, by have := hg4.size; simp at this; omega, fun b hb hY => (hg4.block b (by simp; omega) (by simp [Value.ownBlock]; omega)).trans (Below.heap_alloc X.drew _ b hb)⟩
    have hge : Ext Qi X W4 := ⟨hg4.os, hg4.tape, hg4.output, by have := hg4.size; simp at this; omega, fun b hb hY => (hg4.block b (by simp; omega) (by simp [Value.ownBlock]; omega)).trans (Below.heap_alloc X.drew _ b hb)⟩
    have hJ4 := hJ.kept _ _ _ _ h4 hgk;have hYl := hJ.lt _ _ _ h4;have hvn : ∀ b, v'.ownBlock = some b -> X.heap.size <= b := fun b hb => by
     rcases hb4 with h | h
     ·rw [h] at hb; simp [Value.ownBlock] at hb; omega
     ·rw [h] at hb; simp at hb; omega
    have hvY4 : ∀ b, v'.ownBlock = some b -> ¬ Y1 b /\ W.heap.size <= b := fun b hb => ⟨fun hY => (by have := hYl b hY; have := hvn b hb; omega), (by have := hvn b hb; have := hI.o.ext.size; omega)⟩
    refine Qdm Qif 32 (fun j => match j with | 0 => yv | 1 =>.int .i64 (i : Int) | 2 =>.slice (some ⟨X.heap.size, 0, none⟩) 1 1 | 3 => v | 4 => v' | 5 =>.bool true | 6 =>.bool false | _ => undef) [(4, .pointer (some ⟨W.heap.size, 0, none⟩)), (5, .pointer (some ⟨ba, 0, none⟩)), (6, v)]
     (fun q w => (q 5 = true /\ ∃ Y', J (((List.range' a (i - a)).flatMap (fun i => (Qay n k (i + 1)).map ((i : Int) :: ·)) ++ pre.map ((i : Int) :: ·)) ++ [(i : Int) :: c]) Y' w /\ Qca Y1 v'.ownBlock W4 Y' w) ∨ (q 5 = false /\ ((q 4 = true /\ w = W4) ∨ (q 4 = false /\ q 2 = true /\ w = X.drew.alloc (.cells #[.int .i64 (i : Int)] eI)) ∨ (q 4 = false /\ q 2 = false /\ w = X.drew)))) (by decide) ?_ ?_ ?_
    ·exact ⟨rfl, rfl, by simp, fun _ _ _ h => (by cases h), fun _ h => (by cases h), .inr ⟨rfl, .inr (.inr ⟨rfl, rfl, rfl⟩)⟩⟩
    ·intro q j hj hq hpr a3 w3 hT;have c5 : q 5 = true -> q 0 = true /\ q 4 = true := fun h => ⟨hT.cl 5 h 0 (by decide), hT.cl 5 h 4 (by decide)⟩
     have c4 : q 4 = true -> q 2 = true /\ q 3 = true := fun h => ⟨hT.cl 4 h 2 (by decide), hT.cl 4 h 3 (by decide)⟩
     have c2 : q 2 = true -> q 1 = true := fun h => hT.cl 2 h 1 (by decide);have f4 := hT.fixed (4, .pointer (some ⟨W.heap.size, 0, none⟩)) (by simp);have f5 := hT.fixed (5, .pointer (some ⟨ba, 0, none⟩)) (by simp);have f6 := hT.fixed (6, v) (by simp);have g1 : q 1 = true -> a3.tmps[25]?.getD undef = .int .i64 (i : Int) := fun h => hT.slot 1 _ 25 h rfl rfl;have g2 : q 2 = true -> a3.tmps[26]?.getD undef = .slice (some ⟨X.heap.size, 0, none⟩) 1 1 := fun h => hT.slot 2 _ 26 h rfl rfl;have g3 : q 3 = true -> a3.tmps[27]?.getD undef = v := fun h => hT.slot 3 _ 27 h rfl rfl;have g0 : q 0 = true -> a3.tmps[24]?.getD undef = yv := fun h => hT.slot 0 _ 24 h rfl rfl;have g4 : q 4 = true -> a3.tmps[28]?.getD undef = v' := fun h => hT.slot 4 _ 28 h rfl rfl;have g5 : q 5 = true -> a3.tmps[29]?.getD undef = .bool true := fun h => hT.slot 5 _ 29 h rfl rfl;have hw5 : q 5 = false -> w3.cell? ⟨W.heap.size, 0, none⟩ = some yv /\ w3.cell? ⟨ba, 0, none⟩ = some (.int .i64 (i : Int)) := fun h => by
      rcases hT.wd with ⟨h', _⟩ | ⟨_, hw⟩
      ·rw [h] at h'; cases h'
      ·have b1 : Boxed X.drew W.heap.size 58 yv := h6;have b2 : Boxed X.drew ba eI (.int .i64 (i : Nat)) := h5;rcases hw with ⟨_, rfl⟩ | ⟨_, _, rfl⟩ | ⟨_, _, rfl⟩
       ·exact ⟨((b1.alloc _).kept hg4 (by simp [Value.ownBlock]; have := h6.lt; omega)).cell, ((b2.alloc _).kept hg4 (by simp [Value.ownBlock]; have := h5.lt; omega)).cell⟩
       ·exact ⟨(b1.alloc _).cell, (b2.alloc _).cell⟩
       ·exact ⟨b1.cell, b2.cell⟩
     match j, hj with
     | 0, _ =>
      have e5 : q 5 = false := by cases h : q 5 with | true => rw [(c5 h).1] at hq; cases hq | false => rfl
      have ce := (hw5 e5).1;refine hT.val (w' := w3) hpr (by rfl) rfl rfl rfl (fun c h => by cases h) ?_ ?_
      ·have : a3.tmps[4]?.getD undef = .pointer (some ⟨W.heap.size, 0, none⟩) := f4;simp [execOp, go_sem, this, ce]
      ·simpa using hT.wd
     | 1, _ =>
      have e2 : q 2 = false := by cases h : q 2 with | true => rw [c2 h] at hq; cases hq | false => rfl
      have e4 : q 4 = false := by cases h : q 4 with | true => rw [(c4 h).1] at e2; cases e2 | false => rfl
      have e5 : q 5 = false := by cases h : q 5 with | true => rw [(c5 h).2] at e4; cases e4 | false => rfl
      have ce := (hw5 e5).2;refine hT.val (w' := w3) hpr (by rfl) rfl rfl rfl (fun c h => by cases h) ?_ ?_
      ·have : a3.tmps[5]?.getD undef = .pointer (some ⟨ba, 0, none⟩) := f5;simp [execOp, go_sem, this, ce]
      ·simpa using hT.wd
     | 2, _ =>
      have e4 : q 4 = false := by cases h : q 4 with | true => rw [(c4 h).1] at hq; cases hq | false => rfl
      have e5 : q 5 = false := by cases h : q 5 with | true => rw [(c5 h).2] at e4; cases e4 | false => rfl
      have hw : w3 = X.drew := by
       rcases hT.wd with ⟨h', _⟩ | ⟨_, ⟨h', _⟩ | ⟨_, h', _⟩ | ⟨_, _, h'⟩⟩
       ·rw [e5] at h'; cases h'
       ·rw [e4] at h'; cases h'
       ·rw [hq] at h'; cases h'
       ·exact h'
      subst hw;refine hT.val (w' := X.drew.alloc (.cells #[.int .i64 (i : Int)] eI)) hpr (by rfl) rfl rfl rfl (fun c h => by cases h) ?_ ?_
      ·have : a3.tmps[25]?.getD undef = .int .i64 (i : Int) := g1 (hpr 1 (by decide));simp [execOp, go_sem, this]
      ·exact .inr ⟨by simp [e5], .inr (.inl ⟨by simp [e4], by simp, rfl⟩)⟩
     | 3, _ =>
      refine hT.val (w' := w3) hpr (by rfl) rfl rfl rfl (fun c h => by cases h) ?_ ?_
      ·have : a3.tmps[6]?.getD undef = v := f6;simp [execOp, go_sem, this]
      ·simpa using hT.wd
     | 4, _ =>
      have e5 : q 5 = false := by cases h : q 5 with | true => rw [(c5 h).2] at hq; cases hq | false => rfl
      have q2 := hpr 2 (by decide);have hw : w3 = X.drew.alloc (.cells #[.int .i64 (i : Int)] eI) := by
       rcases hT.wd with ⟨h', _⟩ | ⟨_, ⟨h', _⟩ | ⟨_, _, h'⟩ | ⟨_, h', _⟩⟩
       ·rw [e5] at h'; cases h'
       ·rw [hq] at h'; cases h'
       ·exact h'
       ·rw [q2] at h'; cases h'
      subst hw;have x1 : a3.eval (.tmp 26) = .slice (some ⟨X.heap.size, 0, none⟩) 1 1 := by rw [<- g2 q2]; simp [Act.eval]
      have x2 : a3.eval (.tmp 27) = v := by rw [<- g3 (hpr 3 (by decide))]; simp [Act.eval]
      exact hT.app hpr (by rfl) rfl rfl rfl x1 x2 hr4 (.inr ⟨by simp [e5], .inl ⟨by simp, rfl⟩⟩)
     | 5, _ =>
      have q4 := hpr 4 (by decide);have hw : w3 = W4 := by
       rcases hT.wd with ⟨h', _⟩ | ⟨_, ⟨_, h'⟩ | ⟨h', _⟩ | ⟨h', _⟩⟩
       ·rw [hq] at h'; cases h'
       ·exact h'
       ·rw [q4] at h'; cases h'
       ·rw [q4] at h'; cases h'
      subst hw;have x1 : a3.eval (.tmp 24) = .func (.yield l) #[] #[] := by rw [<- hyv, <- g0 (hpr 0 (by decide))]; simp [Act.eval]
      have x2 : a3.eval (.tmp 28) = v' := by rw [<- g4 q4]; simp [Act.eval]
      refine hT.yld hpr rfl (by rfl) rfl rfl rfl rfl x1 x2 (hY 0 _ _ _ v' Y1 w3 hsplit hJ4 hs4 hvY4) fun e w' he =>?_;exact ⟨he.1, .inl ⟨by simp, he.2⟩⟩
     | 6, _ =>
      refine hT.val (w' := w3) hpr (by rfl) rfl rfl rfl (fun c h => by cases h) ?_ ?_
      ·have : a3.tmps[29]?.getD undef = .bool true := g5 (hpr 5 (by decide));simp [execOp, go_sem, this]
      ·simpa using hT.wd
     | j + 7, hj => exact absurd hj (by simp)
    ·intro q a3 w3 hq hT;obtain ⟨Y', hj', ho'⟩ := hT.wd.elim (fun h => h.2) (fun h => by rw [hq 5 (by decide)] at h; cases h.1);have g6 : a3.tmps[30]?.getD undef = .bool false := hT.slot 6 _ 30 (hq 6 (by decide)) rfl rfl;refine hK0 a3 w3 (wpIn_cond_false (show a3.eval (.tmp 30) = .bool false by simp [Act.eval, g6]) (wpIn_skip ?_));have hs4 : X.heap.size <= W4.heap.size := hge.size;have hall : ∀ b, Ob b -> w3.heap[b]? = X.heap[b]? := fun b hb => (ho'.ext.block b (Nat.lt_of_lt_of_le (h3 b hb) hs4) (h2 b hb)).trans (hge.block b (h3 b hb) id);have hY' : ∀ b, Y' b -> Y1 b ∨ X.heap.size <= b := fun b hb => by
      rcases ho'.own b hb with h | h | h
      ·exact .inl h
      ·exact .inr (by omega)
      ·exact .inr (hvn b h)
     refine ⟨fun b => Y' b ∨ Ob b, ⟨Y', fun _ => Iff.rfl, fun b hb h =>?_, fun b hb => (by have := h3 b hb; have := ho'.ext.size; omega), ?_, (hall _ ((hOb _).2 (.inl rfl))).trans h5, (hall _ ((hOb _).2 (.inr (.inl rfl)))).trans h6, h7.kept fun b hb => hall b ((hOb b).2 (.inr (.inr hb)))⟩, ⟨fun b hb =>?_, ?_⟩⟩
     ·rcases hY' b h with h | h
      ·exact h2 b hb h
      ·have := h3 b hb; omega
     ·rw [List.map_append, <- List.append_assoc];exact hj'
     ·rcases hb with h | h
      ·rcases hY' b h with h | h
       ·exact .inl ((h1 b).2 (.inl h))
       ·exact .inr (.inl h)
      ·exact .inl ((h1 b).2 (.inr h))
     ·exact (hge.mono fun _ _ h => h.elim).trans (ho'.ext.mono fun b _ h => (h1 b).2 (.inl h))
   case done =>
    rintro D Yi X hD hDY ⟨Y1, h1, h2, h3, h4, h5, h6, h7⟩ hown hDd;have q4 := h5.cell;have q5 := hown.ext.size
    gi_wp2
    have hYlt1 := hJ.lt _ _ _ h4;have hOX : ∀ b, Ob b -> b < X.heap.size := h3;have hin : i < n := by omega
    refine ⟨⟨i + 1, X.heap.size, { target :=.collected D, args := #[] } :: ds, Y1, ?_⟩, ?_⟩
    ·(repeat apply Exists.intro)
     refine ⟨⟨by omega, by omega, .inl (by omega), Boxed.new X _ _, ⟨?_, ⟨fun b hb =>?_, ?_⟩, h6.alloc _, h2 _ ((hOb _).2 (.inr (.inl rfl))), fun h => (by have := hYlt1 _ h; omega), (by have := hI.o.ext.size; omega), ⟨D, rfl, (by have := hI.o.ext.size; omega), (by simp; have := (Array.getElem?_eq_some_iff.1 hDd).1; omega), ?_, ?_⟩, ?_⟩⟩, rfl⟩
     ·have e1 : i + 1 - a = (i - a) + 1 := by omega
      rw [e1, List.range'_1_concat, List.flatMap_append, show a + (i - a) = i by omega];simp only [List.flatMap_cons, List.flatMap_nil, List.append_nil];exact hJ.kept _ _ _ _ h4 (Qu.alloc _ _ _)
     ·rcases hown.own b ((h1 b).2 (.inl hb)) with (h | h) | h | h
      ·exact hI.o.own b h
      ·exact absurd hb (h2 b h)
      ·have := hI.o.ext.size;exact .inr (.inl (by omega))
      ·cases h
     ·refine ((hI.o.ext.trans (he2 _)).trans' hown.ext fun b hb h =>?_).trans (Ext.alloc' _ _ _);rcases h with h | h
      ·rcases hI.o.own b h with h | h | h
       ·exact h
       ·omega
       ·cases h
      ·rcases (hOb b).1 h with rfl | rfl | h
       ·have := hI.la; omega
       ·omega
       ·have := (hI.ms.lt h).1; omega
     ·exact (Below.heap_alloc X _ D (Array.getElem?_eq_some_iff.1 hDd).1).trans hDd
     ·exact (h7.kept fun b hb => Below.heap_alloc X _ b (hOX b ((hOb b).2 (.inr (.inr hb))))).hi (by omega)
     ·rintro b (hb | hb)
      ·cases hb; exact fun h => hDY ((h1 D).2 (.inl h))
      ·exact h2 b ((hOb b).2 (.inr (.inr hb)))
    ·have c1 := (Boxed.new X 3 (.int .i64 ((i : Int) + 1))).cell;simp only [Array.getD_eq_getD_getElem?, List.getElem?_toArray, List.getElem?_cons_succ, List.getElem?_cons_zero, Option.getD_some, Qu9];rw [c1, q3];simp only [Option.getD_some, intOf];omega
  ·show LeavesInM _ _ _ _ _ _ _ _ _;refine Qd7 ds _ W' hI.ms fun w' hw => ⟨_, results_none rfl _ _ _, ⟨_, rfl⟩, Y, ?_, hI.o.own, ?_⟩
   ·have hni : i - a = n - a := by omega
    have h3 := hI.j;rw [hni] at h3;exact hJ.kept _ _ _ _ h3 (hw.kept fun b _ hb hm => hI.nm b hm hb)
   ·exact ⟨hw.os.trans hI.o.ext.os, hw.tape.trans hI.o.ext.tape, hw.output.trans hI.o.ext.output, Nat.le_trans hI.o.ext.size hw.size, fun b hb hn => (hw.block b (Nat.lt_of_lt_of_le hb hI.o.ext.size) (fun hm => by have := (hI.ms.lt hm).1; omega)).trans (hI.o.ext.block b hb hn)⟩
theorem Qg1 (n : Nat) (hnn : n < 100) : ∀ (k a bn bf bp : Nat) (w : World), k < 100 -> Boxed w bn eI (.int .i64 (k : Nat)) -> Boxed w bf eI (.int .i64 (a : Nat)) -> Boxed w bp eI (.int .i64 (n : Nat)) -> a < 200 ->
  Qfl Fence.wide Tryz.prog 26 #[.pointer (some ⟨bn, 0, none⟩), .pointer (some ⟨bf, 0, none⟩), .pointer (some ⟨bp, 0, none⟩)] eI (fun b => b = bn ∨ b = bf ∨ b = bp) (Qay n k a) w
 | 0, a, bn, bf, bp, w, _, hn, _, _, _ => Qn0 n a bn bf bp w hn
 | k + 1, a, bn, bf, bp, w, hk, hn, hf, hp, ha => Qn1 n k a bn bf bp w hn hf hp (by omega) hnn ha fun a bn bf bp w h1 h2 h3 h4 => Qg1 n hnn k a bn bf bp w (by omega) h1 h2 h3 h4
def Qc8 (s t : Int × Int) : Bool := decide (¬ s.1 = t.1) && decide (¬ s.1 = t.2) && decide (¬ s.2 = t.1) && decide (¬ s.2 = t.2)
def Qc9 (s t : Int × Int) : Bool := decide (¬ s.1 = t.1) || decide (¬ s.2 = t.2)
def Qau (t : Int × Int -> Int × Int -> Bool) : List (Int × Int) -> List (List Int)
 | [] => []
 | s :: S => (S.filter (t s)).map (fun x => [s.1, s.2, x.1, x.2]) ++ Qau t S
end Go.Proofs.YtnhofjeojfgfoaaGreat
namespace Go.Proofs.YtnhofjeojfgfoaaGreat
open Go Go.FW Go.RowKit Go.Shelf
attribute [local go_sem] Oper.semAt_some
def Qfm (S : List (Int × Int)) (b off : Nat) (W : World) : Prop := ∀ i (h : i < S.length), W.cell? ⟨b, off + i * 2, none⟩ = some (.int .i64 S[i].1) /\ W.cell? ⟨b, off + i * 2 + 1, none⟩ = some (.int .i64 S[i].2)
theorem Qfm.kept {S : List (Int × Int)} {b off : Nat} {W W' : World} (h : Qfm S b off W) (hk : W'.heap[b]? = W.heap[b]?) : Qfm S b off W' := fun i hi =>
 ⟨(World.cell?_of_block (w := W) (a := ⟨b, _, none⟩) hk).trans (h i hi).1, (World.cell?_of_block (w := W) (a := ⟨b, _, none⟩) hk).trans (h i hi).2⟩
set_option maxHeartbeats 4000000 in
theorem Qmg (tst : Int × Int -> Int × Int -> Bool) (S : List (Int × Int)) (hsl : S.length <= 400) (n : Nat)
  (hsg : ∀ (m : Nat) (w : World), CallsIn Fence.wide m Tryz.prog 28 #[.int .i64 (n : Nat)] w fun e w' => ∃ a cap, e = .returned (.slice a S.length cap) /\ Ext Qi w w' /\
   ∀ i (h : i < S.length), ∃ b off, a = some ⟨b, off, none⟩ /\ b < w'.heap.size /\ w.heap.size <= b /\ S.length <= cap /\ w'.cell? ⟨b, off + i * 2, none⟩ = some (.int .i64 S[i].1) /\ w'.cell? ⟨b, off + i * 2 + 1, none⟩ = some (.int .i64 S[i].2))
  (htc : ∀ (m : Nat) (s1 s2 t1 t2 : Int) (w : World), CallsIn Fence.wide m Tryz.prog 11 #[.agg #[.int .i64 s1, .int .i64 s2], .agg #[.int .i64 t1, .int .i64 t2]] w fun e w' => e = .returned (.bool (tst (s1, s2) (t1, t2))) /\ Ext Qi w w')
  (bp bt : Nat) (w : World) (hp : Boxed w bp eI (.int .i64 (n : Nat))) (ht : Boxed w bt 45 (.func (.func 11) #[] #[])) :
  Qfl Fence.wide Tryz.prog 27 #[.pointer (some ⟨bp, 0, none⟩), .pointer (some ⟨bt, 0, none⟩)] eI (fun b => b = bp ∨ b = bt) (Qau tst S) w := by
 intro m l J Y0 W hW hJ hY0 hY h0;have hbp : Boxed W bp eI (.int .i64 (n : Nat)) := (hW.block bp hp.lt (.inl rfl)).trans hp;have hbt : Boxed W bt 45 (.func (.func 11) #[] #[]) := (hW.block bt ht.lt (.inr rfl)).trans ht;have l1 := hbp.lt;have l2 := hbt.lt;have hlt := hJ.lt _ _ _ h0;have hdec : S.length = 0 ∨ 0 < S.length := by omega
 refine callsIn_of_wp Tryz.func27 rfl trivial ?_ rfl;simp only [Tryz.ntmps27, List.size_toArray, List.length_cons, List.length_nil, Nat.reduceAdd, Nat.reduceSub, Array.replicate_succ, Array.replicate_zero, List.push_toArray, List.append_toArray, List.nil_append, List.cons_append];have c1 := hbp.cell
 gi_wp2_with (refine ⟨trivial, hdd _, ?_⟩; refine (hsg _ _).mono ?_; rintro e W1 ⟨ad, cap, rfl, hE, hcl⟩)
 have hW1 := hE.size;have hJ1 : J [] Y0 W1 := hJ.kept _ _ _ _ h0 (hE.kept fun _ _ _ h => h);have hE0 : Ext Y0 W W1 := hE.mono fun _ _ h => h.elim;have hO1 : Qca Y0 none W Y0 W1 := ⟨fun b hb =>.inl hb, hE0⟩
 rcases hdec with hS | hS
 ·gi_loopw [13] (fun v wr => v = .int .i64 0 /\ wr = W1) (fun _ _ => 0)
  case atStart => exact ⟨rfl, rfl⟩
  case round =>
   obtain ⟨rfl, rfl⟩ := hrel
   gi_wp2
   go_end0
   have : S = [] := List.length_eq_zero_iff.1 hS;subst this;exact ⟨⟨_, rfl⟩, Y0, hJ1, hO1⟩
 obtain ⟨b, off, rfl, hb, hbW, hcap, _⟩ := hcl 0 hS;have hsa : Qfm S b off W1 := fun i hi => by obtain ⟨b', off', e, _, _, _, h1, h2⟩ := hcl i hi;cases e;exact ⟨h1, h2⟩
 clear hcl
 gi_loopw [13] (fun v wr => ∃ (i : Nat) (X : List (List Int)) (Y : Nat -> Prop), v = .int .i64 (i : Nat) /\ i <= S.length /\ X ++ Qau tst (S.drop i) = Qau tst S /\ J X Y wr /\ Qca Y0 none W Y wr /\ ∀ c, W.heap.size <= c -> c < W1.heap.size -> ¬ Y c /\ wr.heap[c]? = W1.heap[c]?) (fun v _ => S.length - (intOf v).toNat)
 case atStart => exact ⟨0, [], Y0, rfl, by omega, rfl, hJ1, hO1, fun c h1 h2 => ⟨fun h => by have := hlt c h; omega, rfl⟩⟩
 case round =>
  obtain ⟨i, X, Y, rfl, hi, hX, hj, ho, hk⟩ := hrel;obtain ⟨wo, hwo⟩ : ∃ wo, wo = wr := ⟨_, rfl⟩
  subst hwo;have hbk := hk b hbW hb;have hsr := hsa.kept hbk.2;have hwl := ho.ext.size;by_cases hiS : i < S.length
  ·obtain ⟨q1, q2⟩ := hsr i hiS;have hd := List.drop_eq_getElem_cons hiS;generalize hs : S[i] = s at *
   obtain ⟨s1, s2⟩ := s;have k1 : (i : Int) < (S.length : Int) := by omega
   have k2 : (0 : Int) <= (i : Int) := by omega
   have k3 : ((i : Int) + 1 <= (S.length : Int)) := by omega
   have k4 : ((S.length : Int) <= (cap : Int)) := by omega
   have hT : X ++ (((S.drop (i + 1 + 0)).filter (tst (s1, s2))).map (fun x => [s1, s2, x.1, x.2]) ++ Qau tst (S.drop (i + 1))) = Qau tst S := by rw [<- hX, hd]; rfl
   obtain ⟨wr2, hwr2⟩ : ∃ wr2, wr2 = wo.alloc (.cells #[.int .i64 s1, .int .i64 s2] 48) := ⟨_, rfl⟩
   have hb6 : wr2.heap[wo.heap.size]? = some (.cells #[.int .i64 s1, .int .i64 s2] 48 (0, 0)) := by rw [hwr2]; exact World.alloc_heap_new wo _
   have hj2 : J X Y wr2 := by rw [hwr2]; exact hJ.kept _ _ _ _ hj (Qu.alloc _ _ _)
   have ho2 : Qca Y0 none W Y wr2 := by rw [hwr2]; exact ⟨ho.own, ho.ext.trans (Ext.alloc' _ _ _)⟩
   have hYl := hJ.lt _ _ _ hj;have hs2 : wr2.heap.size = wo.heap.size + 1 := by rw [hwr2]; simp
   have hk2 : ∀ c, (W.heap.size <= c /\ c < W1.heap.size) ∨ c = wo.heap.size -> ¬ Y c := fun c hc => by
    rcases hc with ⟨h1, h2⟩ | rfl
    ·exact (hk c h1 h2).1
    ·exact fun h => Nat.lt_irrefl _ (hYl _ h)
   have hW1r : W1.heap.size <= wo.heap.size := by
    have h1 := (hk b hbW hb).2;rcases Nat.lt_or_ge (W1.heap.size - 1) wo.heap.size with h | h
    ·omega
    ·have h2 := (hk (W1.heap.size - 1) (by omega) (by omega)).2;rw [Array.getElem?_eq_none h] at h2;rw [Array.getElem?_eq_getElem (by omega)] at h2;cases h2
   have hsr2 : Qfm S b off wr2 := hsr.kept (by rw [hwr2]; exact Below.heap_alloc wo _ b (by omega));have hk1 : ∀ c, W.heap.size <= c -> c < W1.heap.size -> wr2.heap[c]? = W1.heap[c]? := fun c h1 h2 => by rw [hwr2]; exact (Below.heap_alloc wo _ c (by omega)).trans (hk c h1 h2).2
   gi_wp2
   ·rw [<- hwr2];clear hwr2;have hlen0 : S.length = i + 1 := by omega
    have hcap1 : cap = i + 1 := by omega
    subst hcap1
    gi_loopw [23] (fun v wq => v = .int .i64 0 /\ wq = wr2) (fun _ _ => 0)
    case atStart => exact ⟨rfl, rfl⟩
    case round =>
     obtain ⟨rfl, rfl⟩ := hrel;have e0 : S.length - (i + 1) = 0 := by omega
     have hd0 : S.drop (i + 1) = [] := List.drop_eq_nil_of_le (by omega)
     gi_wp2
     refine ⟨⟨i + 1, X, Y, rfl, by omega, ?_, hj2, ho2, fun c h1 h2 => ⟨hk2 c (.inl ⟨h1, h2⟩), hk1 c h1 h2⟩⟩, ?_⟩
     ·rw [<- hX, hd, Qau, hd0];simp [Qau]
     ·simp [intOf]; omega
   ·rw [<- hwr2];clear hwr2
    gi_loopw [23] (fun v wq => ∃ (j : Nat) (X' : List (List Int)) (Y' : Nat -> Prop), v = .int .i64 (j : Nat) /\ i + 1 + j <= S.length /\ X' ++ (((S.drop (i + 1 + j)).filter (tst (s1, s2))).map (fun x => [s1, s2, x.1, x.2]) ++ Qau tst (S.drop (i + 1))) = Qau tst S /\ J X' Y' wq /\ Qca Y0 none W Y' wq /\ (∀ c, (W.heap.size <= c /\ c < W1.heap.size) ∨ c = wo.heap.size -> ¬ Y' c /\ wq.heap[c]? = wr2.heap[c]?) /\ wr2.heap.size <= wq.heap.size) (fun v _ => S.length - (i + 1) - (intOf v).toNat)
    case atStart => exact ⟨0, X, Y, rfl, by omega, hT, hj2, ho2, fun c hc => ⟨hk2 c hc, rfl⟩, Nat.le_refl _⟩
    case round =>
     obtain ⟨j, X', Y', rfl, hjl, hX', hj', ho', hk', hsz'⟩ := hrel;obtain ⟨wq, hwq⟩ : ∃ wq, wq = wr := ⟨_, rfl⟩
     subst hwq;have hYl' := hJ.lt _ _ _ hj';have hwl' := ho'.ext.size;by_cases hjS : i + 1 + j < S.length
     ·have hd' := List.drop_eq_getElem_cons hjS;obtain ⟨x1, x2⟩ := (hsr2.kept (hk' b (.inl ⟨hbW, hb⟩)).2) (i + 1 + j) hjS;generalize ht' : S[i + 1 + j] = t at *
      obtain ⟨t1, t2⟩ := t;have w1 : wq.cell? ⟨b, off + (i + 1) * 2 + j * 2, none⟩ = some (.int .i64 t1) := by rw [show off + (i + 1) * 2 + j * 2 = off + (i + 1 + j) * 2 by omega]; exact x1
      have w2 : wq.cell? ⟨b, off + (i + 1) * 2 + j * 2 + 1, none⟩ = some (.int .i64 t2) := by rw [show off + (i + 1) * 2 + j * 2 + 1 = off + (i + 1 + j) * 2 + 1 by omega]; exact x2
      clear x1 x2;have hb6q : wq.heap[wo.heap.size]? = some (.cells #[.int .i64 s1, .int .i64 s2] 48 (0, 0)) := (hk' _ (.inr rfl)).2.trans hb6;have hbtq : Boxed wq bt 45 (.func (.func 11) #[] #[]) := (ho'.ext.block bt l2 (fun h => hY0 _ h (.inr rfl))).trans hbt;have p1 : (j : Int) < ((S.length - (i + 1) : Nat) : Int) := by omega
      have p2 : (0 : Int) <= (j : Int) := by omega
      obtain ⟨wa, hwa⟩ : ∃ wa, wa = wq.alloc (.cells #[.int .i64 t1, .int .i64 t2] 48) := ⟨_, rfl⟩
      have hs8 : wa.heap.size = wq.heap.size + 1 := by rw [hwa]; simp
      have hb8 : wa.heap[wq.heap.size]? = some (.cells #[.int .i64 t1, .int .i64 t2] 48 (0, 0)) := by rw [hwa]; exact World.alloc_heap_new wq _
      have ha6 : wa.heap[wo.heap.size]? = some (.cells #[.int .i64 s1, .int .i64 s2] 48 (0, 0)) := by rw [hwa]; exact (Below.heap_alloc wq _ _ (by omega)).trans hb6q
      have hat : Boxed wa bt 45 (.func (.func 11) #[] #[]) := by rw [hwa]; exact hbtq.alloc _
      have cc : ∀ {w : World} {b : Nat} {u v : Value} {t : TypeId}, w.heap[b]? = some (.cells #[u, v] t (0, 0)) -> w.cell? ⟨b, 0, none⟩ = some u /\ w.cell? ⟨b, 1, none⟩ = some v := fun h => ⟨by simp [World.cell?, h], by simp [World.cell?, h]⟩
      obtain ⟨z1, z2⟩ := cc hb8;obtain ⟨z3, z4⟩ := cc ha6;have z5 := hat.cell;have hba : ∀ Z, Ext Z wq wa := fun Z => by rw [hwa]; exact Ext.alloc' _ _ _
      have hbk' : ∀ Z, Qu Z wq wa := fun Z => by rw [hwa]; exact Qu.alloc _ _ _
      cases htst : tst (s1, s2) (t1, t2)
      ·have hX2 : X' ++ (((S.drop (i + 1 + (j + 1))).filter (tst (s1, s2))).map (fun x => [s1, s2, x.1, x.2]) ++ Qau tst (S.drop (i + 1))) = Qau tst S := by rw [<- hX', hd', List.filter_cons_of_neg (by rw [htst]; exact Bool.false_ne_true)]; rfl
       simp only [hwa] at z1 z2 z3 z4 z5
       gi_wp2_with (first | (refine ⟨trivial, hdd _, ?_⟩; rw [<- hwa]; refine (htc _ _ _ _ _ _).mono ?_; rw [htst]; rintro e w3 ⟨rfl, hE3⟩) | fail)
       refine ⟨fun _ h => (by cases h), ?_⟩
       gi_wp2
       go_roundw
       case rel => exact ⟨j + 1, X', Y', rfl, by omega, hX2, hJ.kept _ _ _ _ hj' ((hbk' _).trans (hE3.kept fun _ _ _ h => h)), ⟨ho'.own, (ho'.ext.trans (hba _)).trans (hE3.mono fun _ _ h => h.elim)⟩, fun c hc => ⟨(hk' c hc).1, (hE3.block c (by rcases hc with h | h <;> omega) id).trans (((hba Qi).block c (by rcases hc with h | h <;> omega) id).trans (hk' c hc).2)⟩, by have := hE3.size; omega⟩
       case measure => simp [intOf]; omega
      ·have hfc : (S.drop (i + 1 + j)).filter (tst (s1, s2)) = (t1, t2) :: (S.drop (i + 1 + (j + 1))).filter (tst (s1, s2)) := by rw [hd', List.filter_cons_of_pos htst]; rfl
       rw [hfc, List.map_cons, List.cons_append] at hX';simp only [hwa] at z1 z2 z3 z4 z5
       gi_wp2_with (first | (refine ⟨trivial, hdd _, ?_⟩; rw [<- hwa]; refine (htc _ _ _ _ _ _).mono ?_; rw [htst]; rintro e w3 ⟨rfl, hE3⟩; obtain ⟨y1, y2⟩ := cc ((hE3.block _ (by omega) id).trans hb8); obtain ⟨y3, y4⟩ := cc ((hE3.block _ (by omega) id).trans ha6)) | fail)
       obtain ⟨wb, hwb⟩ : ∃ wb, wb = w3.alloc (.cells #[.int .i64 s1, .int .i64 s2, .int .i64 t1, .int .i64 t2] 3) := ⟨_, rfl⟩
       have hs3 := hE3.size;have hsb : wb.heap.size = w3.heap.size + 1 := by rw [hwb]; simp
       have heb : ∀ Z, Ext Z w3 wb := fun Z => by rw [hwb]; exact Ext.alloc' _ _ _
       have hkb : ∀ Z, Qu Z w3 wb := fun Z => by rw [hwb]; exact Qu.alloc _ _ _
       have hSb : SlI eI (.slice (some ⟨w3.heap.size, 0, none⟩) 4 4) [s1, s2, t1, t2] wb := by rw [hwb]; exact ⟨rfl, .inr ⟨w3.heap.size, 4, _, rfl, Nat.zero_le _, World.alloc_heap_new _ _, Nat.le_refl _, by decide, rfl, rfl⟩⟩
       obtain ⟨fn, tmps, assign, body, hy, hR⟩ := hY (m - 1) X' [s1, s2, t1, t2] _ (.slice (some ⟨w3.heap.size, 0, none⟩) 4 4) Y' wb hX'.symm (hJ.kept _ _ _ _ hj' (((hbk' _).trans (hE3.kept fun _ _ _ h => h)).trans (hkb _))) hSb (fun c hc => ⟨fun h => (by simp [Value.ownBlock] at hc; have := hYl' c h; omega), (by simp [Value.ownBlock] at hc; omega)⟩);rw [<- hwb];clear hwb;rw [hy];refine ⟨hdd _, hR.mono ?_⟩;rintro e w5 ⟨rfl, Y5, hj5, ho5⟩;have hall : ∀ c, (W.heap.size <= c /\ c < W1.heap.size) ∨ c = wo.heap.size -> ¬ Y5 c /\ w5.heap[c]? = wr2.heap[c]? := fun c hc => by
        have hcl : c < wq.heap.size := by rcases hc with h | h <;> omega
        refine ⟨fun h =>?_, (ho5.ext.block c (by omega) (hk' c hc).1).trans (((heb Qi).block c (by omega) id).trans ((hE3.block c (by omega) id).trans (((hba Qi).block c hcl id).trans (hk' c hc).2)))⟩;rcases ho5.own c h with h | h | h
        ·exact (hk' c hc).1 h
        ·omega
        ·simp [Value.ownBlock] at h; omega
       have hO5 : Qca Y0 none W Y5 w5 := by
        refine ⟨fun c hc =>?_, ((((ho'.ext.trans (hba _)).trans (hE3.mono fun _ _ h => h.elim)).trans (heb _)).trans' ho5.ext fun c hc h =>?_)⟩
        ·rcases ho5.own c hc with h | h | h
         ·exact ho'.own c h
         ·exact .inr (.inl (by omega))
         ·simp [Value.ownBlock] at h; exact .inr (.inl (by omega))
        ·rcases ho'.own c h with h | h | h
         ·exact h
         ·omega
         ·cases h
       gi_wp2
       go_roundw
       case rel => exact ⟨j + 1, X' ++ [[s1, s2, t1, t2]], Y5, rfl, by omega, by rw [List.append_assoc]; exact hX', hj5, hO5, hall, by have := ho5.ext.size; omega⟩
       case measure => simp [intOf]; omega
     ·have hjS' : i + 1 + j = S.length := by omega
      rw [List.drop_eq_nil_of_le (by omega), List.filter_nil, List.map_nil, List.nil_append] at hX';have p1 : ((S.length - (i + 1) : Nat) : Int) <= (j : Int) := by omega
      gi_wp2
      go_roundw
      case rel => exact ⟨i + 1, X', Y', rfl, by omega, hX', hj', ho', fun c h1 h2 => ⟨(hk' c (.inl ⟨h1, h2⟩)).1, (hk' c (.inl ⟨h1, h2⟩)).2.trans (hk1 c h1 h2)⟩⟩
      case measure => simp [intOf]; omega
  ·have hiS' : i = S.length := by omega
   subst hiS'
   gi_wp2
   go_end0
   rw [List.drop_length, Qau, List.append_nil] at hX;subst hX;exact ⟨⟨_, rfl⟩, Y, hj, ho⟩
set_option maxHeartbeats 4000000 in
theorem Qmh (tst : Int × Int -> Int × Int -> Bool) (S : List (Int × Int)) (hsl : S.length <= 400) (n : Nat)
  (hsg : ∀ (m : Nat) (w : World), CallsIn Fence.wide m Tryz.prog 28 #[.int .i64 (n : Nat)] w fun e w' => ∃ a cap, e = .returned (.slice a S.length cap) /\ Ext Qi w w' /\
   ∀ i (h : i < S.length), ∃ b off, a = some ⟨b, off, none⟩ /\ b < w'.heap.size /\ w.heap.size <= b /\ S.length <= cap /\ w'.cell? ⟨b, off + i * 2, none⟩ = some (.int .i64 S[i].1) /\ w'.cell? ⟨b, off + i * 2 + 1, none⟩ = some (.int .i64 S[i].2))
  (htc : ∀ (m : Nat) (s1 s2 t1 t2 : Int) (w : World), CallsIn Fence.wide m Tryz.prog 12 #[.agg #[.int .i64 s1, .int .i64 s2], .agg #[.int .i64 t1, .int .i64 t2]] w fun e w' => e = .returned (.bool (tst (s1, s2) (t1, t2))) /\ Ext Qi w w')
  (bp bt : Nat) (w : World) (hp : Boxed w bp eI (.int .i64 (n : Nat))) (ht : Boxed w bt 45 (.func (.func 12) #[] #[])) :
  Qfl Fence.wide Tryz.prog 27 #[.pointer (some ⟨bp, 0, none⟩), .pointer (some ⟨bt, 0, none⟩)] eI (fun b => b = bp ∨ b = bt) (Qau tst S) w := by
 intro m l J Y0 W hW hJ hY0 hY h0;have hbp : Boxed W bp eI (.int .i64 (n : Nat)) := (hW.block bp hp.lt (.inl rfl)).trans hp;have hbt : Boxed W bt 45 (.func (.func 12) #[] #[]) := (hW.block bt ht.lt (.inr rfl)).trans ht;have l1 := hbp.lt;have l2 := hbt.lt;have hlt := hJ.lt _ _ _ h0;have hdec : S.length = 0 ∨ 0 < S.length := by omega
 refine callsIn_of_wp Tryz.func27 rfl trivial ?_ rfl;simp only [Tryz.ntmps27, List.size_toArray, List.length_cons, List.length_nil, Nat.reduceAdd, Nat.reduceSub, Array.replicate_succ, Array.replicate_zero, List.push_toArray, List.append_toArray, List.nil_append, List.cons_append];have c1 := hbp.cell
 gi_wp2_with (refine ⟨trivial, hdd _, ?_⟩; refine (hsg _ _).mono ?_; rintro e W1 ⟨ad, cap, rfl, hE, hcl⟩)
 have hW1 := hE.size;have hJ1 : J [] Y0 W1 := hJ.kept _ _ _ _ h0 (hE.kept fun _ _ _ h => h);have hE0 : Ext Y0 W W1 := hE.mono fun _ _ h => h.elim;have hO1 : Qca Y0 none W Y0 W1 := ⟨fun b hb =>.inl hb, hE0⟩
 rcases hdec with hS | hS
 ·gi_loopw [13] (fun v wr => v = .int .i64 0 /\ wr = W1) (fun _ _ => 0)
  case atStart => exact ⟨rfl, rfl⟩
  case round =>
   obtain ⟨rfl, rfl⟩ := hrel
   gi_wp2
   go_end0
   have : S = [] := List.length_eq_zero_iff.1 hS;subst this;exact ⟨⟨_, rfl⟩, Y0, hJ1, hO1⟩
 obtain ⟨b, off, rfl, hb, hbW, hcap, _⟩ := hcl 0 hS;have hsa : Qfm S b off W1 := fun i hi => by obtain ⟨b', off', e, _, _, _, h1, h2⟩ := hcl i hi;cases e;exact ⟨h1, h2⟩
 clear hcl
 gi_loopw [13] (fun v wr => ∃ (i : Nat) (X : List (List Int)) (Y : Nat -> Prop), v = .int .i64 (i : Nat) /\ i <= S.length /\ X ++ Qau tst (S.drop i) = Qau tst S /\ J X Y wr /\ Qca Y0 none W Y wr /\ ∀ c, W.heap.size <= c -> c < W1.heap.size -> ¬ Y c /\ wr.heap[c]? = W1.heap[c]?) (fun v _ => S.length - (intOf v).toNat)
 case atStart => exact ⟨0, [], Y0, rfl, by omega, rfl, hJ1, hO1, fun c h1 h2 => ⟨fun h => by have := hlt c h; omega, rfl⟩⟩
 case round =>
  obtain ⟨i, X, Y, rfl, hi, hX, hj, ho, hk⟩ := hrel;obtain ⟨wo, hwo⟩ : ∃ wo, wo = wr := ⟨_, rfl⟩
  subst hwo;have hbk := hk b hbW hb;have hsr := hsa.kept hbk.2;have hwl := ho.ext.size;by_cases hiS : i < S.length
  ·obtain ⟨q1, q2⟩ := hsr i hiS;have hd := List.drop_eq_getElem_cons hiS;generalize hs : S[i] = s at *
   obtain ⟨s1, s2⟩ := s;have k1 : (i : Int) < (S.length : Int) := by omega
   have k2 : (0 : Int) <= (i : Int) := by omega
   have k3 : ((i : Int) + 1 <= (S.length : Int)) := by omega
   have k4 : ((S.length : Int) <= (cap : Int)) := by omega
   have hT : X ++ (((S.drop (i + 1 + 0)).filter (tst (s1, s2))).map (fun x => [s1, s2, x.1, x.2]) ++ Qau tst (S.drop (i + 1))) = Qau tst S := by rw [<- hX, hd]; rfl
   obtain ⟨wr2, hwr2⟩ : ∃ wr2, wr2 = wo.alloc (.cells #[.int .i64 s1, .int .i64 s2] 48) := ⟨_, rfl⟩
   have hb6 : wr2.heap[wo.heap.size]? = some (.cells #[.int .i64 s1, .int .i64 s2] 48 (0, 0)) := by rw [hwr2]; exact World.alloc_heap_new wo _
   have hj2 : J X Y wr2 := by rw [hwr2]; exact hJ.kept _ _ _ _ hj (Qu.alloc _ _ _)
   have ho2 : Qca Y0 none W Y wr2 := by rw [hwr2]; exact ⟨ho.own, ho.ext.trans (Ext.alloc' _ _ _)⟩
   have hYl := hJ.lt _ _ _ hj;have hs2 : wr2.heap.size = wo.heap.size + 1 := by rw [hwr2]; simp
   have hk2 : ∀ c, (W.heap.size <= c /\ c < W1.heap.size) ∨ c = wo.heap.size -> ¬ Y c := fun c hc => by
    rcases hc with ⟨h1, h2⟩ | rfl
    ·exact (hk c h1 h2).1
    ·exact fun h => Nat.lt_irrefl _ (hYl _ h)
   have hW1r : W1.heap.size <= wo.heap.size := by
    have h1 := (hk b hbW hb).2;rcases Nat.lt_or_ge (W1.heap.size - 1) wo.heap.size with h | h
    ·omega
    ·have h2 := (hk (W1.heap.size - 1) (by omega) (by omega)).2;rw [Array.getElem?_eq_none h] at h2;rw [Array.getElem?_eq_getElem (by omega)] at h2;cases h2
   have hsr2 : Qfm S b off wr2 := hsr.kept (by rw [hwr2]; exact Below.heap_alloc wo _ b (by omega));have hk1 : ∀ c, W.heap.size <= c -> c < W1.heap.size -> wr2.heap[c]? = W1.heap[c]? := fun c h1 h2 => by rw [hwr2]; exact (Below.heap_alloc wo _ c (by omega)).trans (hk c h1 h2).2
   gi_wp2
   ·rw [<- hwr2];clear hwr2;have hlen0 : S.length = i + 1 := by omega
    have hcap1 : cap = i + 1 := by omega
    subst hcap1
    gi_loopw [23] (fun v wq => v = .int .i64 0 /\ wq = wr2) (fun _ _ => 0)
    case atStart => exact ⟨rfl, rfl⟩
    case round =>
     obtain ⟨rfl, rfl⟩ := hrel;have e0 : S.length - (i + 1) = 0 := by omega
     have hd0 : S.drop (i + 1) = [] := List.drop_eq_nil_of_le (by omega)
     gi_wp2
     refine ⟨⟨i + 1, X, Y, rfl, by omega, ?_, hj2, ho2, fun c h1 h2 => ⟨hk2 c (.inl ⟨h1, h2⟩), hk1 c h1 h2⟩⟩, ?_⟩
     ·rw [<- hX, hd, Qau, hd0];simp [Qau]
     ·simp [intOf]; omega
   ·rw [<- hwr2];clear hwr2
    gi_loopw [23] (fun v wq => ∃ (j : Nat) (X' : List (List Int)) (Y' : Nat -> Prop), v = .int .i64 (j : Nat) /\ i + 1 + j <= S.length /\ X' ++ (((S.drop (i + 1 + j)).filter (tst (s1, s2))).map (fun x => [s1, s2, x.1, x.2]) ++ Qau tst (S.drop (i + 1))) = Qau tst S /\ J X' Y' wq /\ Qca Y0 none W Y' wq /\ (∀ c, (W.heap.size <= c /\ c < W1.heap.size) ∨ c = wo.heap.size -> ¬ Y' c /\ wq.heap[c]? = wr2.heap[c]?) /\ wr2.heap.size <= wq.heap.size) (fun v _ => S.length - (i + 1) - (intOf v).toNat)
    case atStart => exact ⟨0, X, Y, rfl, by omega, hT, hj2, ho2, fun c hc => ⟨hk2 c hc, rfl⟩, Nat.le_refl _⟩
    case round =>
     obtain ⟨j, X', Y', rfl, hjl, hX', hj', ho', hk', hsz'⟩ := hrel;obtain ⟨wq, hwq⟩ : ∃ wq, wq = wr := ⟨_, rfl⟩
     subst hwq;have hYl' := hJ.lt _ _ _ hj';have hwl' := ho'.ext.size;by_cases hjS : i + 1 + j < S.length
     ·have hd' := List.drop_eq_getElem_cons hjS;obtain ⟨x1, x2⟩ := (hsr2.kept (hk' b (.inl ⟨hbW, hb⟩)).2) (i + 1 + j) hjS;generalize ht' : S[i + 1 + j] = t at *
      obtain ⟨t1, t2⟩ := t;have w1 : wq.cell? ⟨b, off + (i + 1) * 2 + j * 2, none⟩ = some (.int .i64 t1) := by rw [show off + (i + 1) * 2 + j * 2 = off + (i + 1 + j) * 2 by omega]; exact x1
      have w2 : wq.cell? ⟨b, off + (i + 1) * 2 + j * 2 + 1, none⟩ = some (.int .i64 t2) := by rw [show off + (i + 1) * 2 + j * 2 + 1 = off + (i + 1 + j) * 2 + 1 by omega]; exact x2
      clear x1 x2;have hb6q : wq.heap[wo.heap.size]? = some (.cells #[.int .i64 s1, .int .i64 s2] 48 (0, 0)) := (hk' _ (.inr rfl)).2.trans hb6;have hbtq : Boxed wq bt 45 (.func (.func 12) #[] #[]) := (ho'.ext.block bt l2 (fun h => hY0 _ h (.inr rfl))).trans hbt;have p1 : (j : Int) < ((S.length - (i + 1) : Nat) : Int) := by omega
      have p2 : (0 : Int) <= (j : Int) := by omega
      obtain ⟨wa, hwa⟩ : ∃ wa, wa = wq.alloc (.cells #[.int .i64 t1, .int .i64 t2] 48) := ⟨_, rfl⟩
      have hs8 : wa.heap.size = wq.heap.size + 1 := by rw [hwa]; simp
      have hb8 : wa.heap[wq.heap.size]? = some (.cells #[.int .i64 t1, .int .i64 t2] 48 (0, 0)) := by rw [hwa]; exact World.alloc_heap_new wq _
      have ha6 : wa.heap[wo.heap.size]? = some (.cells #[.int .i64 s1, .int .i64 s2] 48 (0, 0)) := by rw [hwa]; exact (Below.heap_alloc wq _ _ (by omega)).trans hb6q
      have hat : Boxed wa bt 45 (.func (.func 12) #[] #[]) := by rw [hwa]; exact hbtq.alloc _
      have cc : ∀ {w : World} {b : Nat} {u v : Value} {t : TypeId}, w.heap[b]? = some (.cells #[u, v] t (0, 0)) -> w.cell? ⟨b, 0, none⟩ = some u /\ w.cell? ⟨b, 1, none⟩ = some v := fun h => ⟨by simp [World.cell?, h], by simp [World.cell?, h]⟩
      obtain ⟨z1, z2⟩ := cc hb8;obtain ⟨z3, z4⟩ := cc ha6;have z5 := hat.cell;have hba : ∀ Z, Ext Z wq wa := fun Z => by rw [hwa]; exact Ext.alloc' _ _ _
      have hbk' : ∀ Z, Qu Z wq wa := fun Z => by rw [hwa]; exact Qu.alloc _ _ _
      cases htst : tst (s1, s2) (t1, t2)
      ·have hX2 : X' ++ (((S.drop (i + 1 + (j + 1))).filter (tst (s1, s2))).map (fun x => [s1, s2, x.1, x.2]) ++ Qau tst (S.drop (i + 1))) = Qau tst S := by rw [<- hX', hd', List.filter_cons_of_neg (by rw [htst]; exact Bool.false_ne_true)]; rfl
       simp only [hwa] at z1 z2 z3 z4 z5
       gi_wp2_with (first | (refine ⟨trivial, hdd _, ?_⟩; rw [<- hwa]; refine (htc _ _ _ _ _ _).mono ?_; rw [htst]; rintro e w3 ⟨rfl, hE3⟩) | fail)
       refine ⟨fun _ h => (by cases h), ?_⟩
       gi_wp2
       go_roundw
       case rel => exact ⟨j + 1, X', Y', rfl, by omega, hX2, hJ.kept _ _ _ _ hj' ((hbk' _).trans (hE3.kept fun _ _ _ h => h)), ⟨ho'.own, (ho'.ext.trans (hba _)).trans (hE3.mono fun _ _ h => h.elim)⟩, fun c hc => ⟨(hk' c hc).1, (hE3.block c (by rcases hc with h | h <;> omega) id).trans (((hba Qi).block c (by rcases hc with h | h <;> omega) id).trans (hk' c hc).2)⟩, by have := hE3.size; omega⟩
       case measure => simp [intOf]; omega
      ·have hfc : (S.drop (i + 1 + j)).filter (tst (s1, s2)) = (t1, t2) :: (S.drop (i + 1 + (j + 1))).filter (tst (s1, s2)) := by rw [hd', List.filter_cons_of_pos htst]; rfl
       rw [hfc, List.map_cons, List.cons_append] at hX';simp only [hwa] at z1 z2 z3 z4 z5
       gi_wp2_with (first | (refine ⟨trivial, hdd _, ?_⟩; rw [<- hwa]; refine (htc _ _ _ _ _ _).mono ?_; rw [htst]; rintro e w3 ⟨rfl, hE3⟩; obtain ⟨y1, y2⟩ := cc ((hE3.block _ (by omega) id).trans hb8); obtain ⟨y3, y4⟩ := cc ((hE3.block _ (by omega) id).trans ha6)) | fail)
       obtain ⟨wb, hwb⟩ : ∃ wb, wb = w3.alloc (.cells #[.int .i64 s1, .int .i64 s2, .int .i64 t1, .int .i64 t2] 3) := ⟨_, rfl⟩
       have hs3 := hE3.size;have hsb : wb.heap.size = w3.heap.size + 1 := by rw [hwb]; simp
       have heb : ∀ Z, Ext Z w3 wb := fun Z => by rw [hwb]; exact Ext.alloc' _ _ _
       have hkb : ∀ Z, Qu Z w3 wb := fun Z => by rw [hwb]; exact Qu.alloc _ _ _
       have hSb : SlI eI (.slice (some ⟨w3.heap.size, 0, none⟩) 4 4) [s1, s2, t1, t2] wb := by rw [hwb]; exact ⟨rfl, .inr ⟨w3.heap.size, 4, _, rfl, Nat.zero_le _, World.alloc_heap_new _ _, Nat.le_refl _, by decide, rfl, rfl⟩⟩
       obtain ⟨fn, tmps, assign, body, hy, hR⟩ := hY (m - 1) X' [s1, s2, t1, t2] _ (.slice (some ⟨w3.heap.size, 0, none⟩) 4 4) Y' wb hX'.symm (hJ.kept _ _ _ _ hj' (((hbk' _).trans (hE3.kept fun _ _ _ h => h)).trans (hkb _))) hSb (fun c hc => ⟨fun h => (by simp [Value.ownBlock] at hc; have := hYl' c h; omega), (by simp [Value.ownBlock] at hc; omega)⟩);rw [<- hwb];clear hwb;rw [hy];refine ⟨hdd _, hR.mono ?_⟩;rintro e w5 ⟨rfl, Y5, hj5, ho5⟩;have hall : ∀ c, (W.heap.size <= c /\ c < W1.heap.size) ∨ c = wo.heap.size -> ¬ Y5 c /\ w5.heap[c]? = wr2.heap[c]? := fun c hc => by
        have hcl : c < wq.heap.size := by rcases hc with h | h <;> omega
        refine ⟨fun h =>?_, (ho5.ext.block c (by omega) (hk' c hc).1).trans (((heb Qi).block c (by omega) id).trans ((hE3.block c (by omega) id).trans (((hba Qi).block c hcl id).trans (hk' c hc).2)))⟩;rcases ho5.own c h with h | h | h
        ·exact (hk' c hc).1 h
        ·omega
        ·simp [Value.ownBlock] at h; omega
       have hO5 : Qca Y0 none W Y5 w5 := by
        refine ⟨fun c hc =>?_, ((((ho'.ext.trans (hba _)).trans (hE3.mono fun _ _ h => h.elim)).trans (heb _)).trans' ho5.ext fun c hc h =>?_)⟩
        ·rcases ho5.own c hc with h | h | h
         ·exact ho'.own c h
         ·exact .inr (.inl (by omega))
         ·simp [Value.ownBlock] at h; exact .inr (.inl (by omega))
        ·rcases ho'.own c h with h | h | h
         ·exact h
         ·omega
         ·cases h
       gi_wp2
       go_roundw
       case rel => exact ⟨j + 1, X' ++ [[s1, s2, t1, t2]], Y5, rfl, by omega, by rw [List.append_assoc]; exact hX', hj5, hO5, hall, by have := ho5.ext.size; omega⟩
       case measure => simp [intOf]; omega
     ·have hjS' : i + 1 + j = S.length := by omega
      rw [List.drop_eq_nil_of_le (by omega), List.filter_nil, List.map_nil, List.nil_append] at hX';have p1 : ((S.length - (i + 1) : Nat) : Int) <= (j : Int) := by omega
      gi_wp2
      go_roundw
      case rel => exact ⟨i + 1, X', Y', rfl, by omega, hX', hj', ho', fun c h1 h2 => ⟨(hk' c (.inl ⟨h1, h2⟩)).1, (hk' c (.inl ⟨h1, h2⟩)).2.trans (hk1 c h1 h2)⟩⟩
      case measure => simp [intOf]; omega
  ·have hiS' : i = S.length := by omega
   subst hiS'
   gi_wp2
   go_end0
   rw [List.drop_length, Qau, List.append_nil] at hX;subst hX;exact ⟨⟨_, rfl⟩, Y, hj, ho⟩
end Go.Proofs.YtnhofjeojfgfoaaGreat
namespace Go.Proofs.YtnhofjeojfgfoaaGreat
open Go Go.FW Go.RowKit Go.Shelf
attribute [local go_sem] Oper.semAt_some
theorem Qc {t : Array Value} {k : Nat} {b : Bool} (h : t[k]?.getD undef = .bool b) : t[k]? = some (.bool b) := by
 cases hk : t[k]? with
 | none => rw [hk] at h; cases h
 | some v => rw [hk] at h; exact congrArg some h
def Qbj (m : Nat) (s : List Int) : Option (List Int) := match s with
 | [a, b] => if a ≠ m /\ b ≠ m then some [(m : Int), a, b] else none
 | _ => none
theorem Qjn (m : Nat) (w : World) (a : Int) : CallsIn Fence.wide m Tryz.prog 13 #[.int .i64 a] w fun e w' =>
  e = .returned (.func (.func 29) #[] #[.pointer (some ⟨w.heap.size, 0, none⟩)]) /\ w' = w.alloc (.cells #[.int .i64 a] 3) := by
 refine callsIn_of_wp Tryz.func13 rfl trivial ?_ rfl;simp only [Tryz.ntmps13, List.size_toArray, List.length_cons, List.length_nil, Nat.reduceAdd, Nat.reduceSub, Array.replicate_succ, Array.replicate_zero, List.push_toArray, List.append_toArray, List.nil_append, List.cons_append]
 gi_wp2
 go_ret
 exact ⟨rfl, rfl⟩
structure Qx6 (n : Nat) (W : World) (J : List (List Int) -> (Nat -> Prop) -> World -> Prop) (Y0 : Nat -> Prop) (yv : Value) (ds : List Deferred) (Y : Nat -> Prop) (i : Nat) (W' : World) : Prop where
 j : J ((List.range' 0 i).flatMap fun m => (Qay n 2 0).filterMap (Qbj m)) Y W'
 o : Qca Y0 none W Y W'
 bx : Boxed W' W.heap.size 58 yv
 nb : ¬ Y W.heap.size
 ms : Mks W.heap.size ds W'.heap.size W'
 nm : ∀ b, Mks.blk ds b -> ¬ Y b
set_option maxHeartbeats 4000000 in
theorem Qqd (n : Nat) (hn : n < 100) (bp : Nat) (w : World) (hp : Boxed w bp eI (.int .i64 (n : Nat))) :
  Qfl Fence.wide Tryz.prog 29 #[.pointer (some ⟨bp, 0, none⟩)] eI (fun b => b = bp) ((List.range' 0 n).flatMap fun m => (Qay n 2 0).filterMap (Qbj m)) w := by
 intro m l J Y0 W hW hJ hY0 hY h0;have hbp : Boxed W bp eI (.int .i64 (n : Nat)) := (hW.block bp hp.lt rfl).trans hp;have l3 := hbp.lt;have hlt := hJ.lt _ _ _ h0;refine callsIn_of_wp_marks Tryz.func29 rfl trivial ?_ rfl;simp only [Tryz.ntmps29, List.size_toArray, List.length_cons, List.length_nil, Nat.reduceAdd, Nat.reduceSub, Array.replicate_succ, Array.replicate_zero, List.push_toArray, List.append_toArray, List.nil_append, List.cons_append];have c1 := (hbp.alloc (.cells #[.func (.yield l) #[] #[]] 58)).cell;obtain ⟨yv, hyv⟩ : ∃ yv, yv = Value.func (.yield l) #[] #[] := ⟨_, rfl⟩
 gi_wp2
 refine wpIn_loop (fun a' W' => ∃ (i : Nat) (ds : List Deferred) (Y : Nat -> Prop) (u3 u4 u7 u8 u9 u10 u11 u12 u13 u14 u15 u16 u17 u18 u19 u20 u21 u22 u23 u24 u25 u26 u27 u28 u29 u30 u31 u32 u33 u34 u35 u36 u37 : Value), (i <= n /\ Qx6 n W J Y0 yv ds Y i W') /\ a' = ⟨#[.func (.yield l) #[] #[], .pointer (some ⟨bp, 0, none⟩), .pointer (some ⟨W.heap.size, 0, none⟩), u3, u4, .int .i64 (n : Int), .int .i64 (i : Int), u7, u8, u9, u10, u11, u12, u13, u14, u15, u16, u17, u18, u19, u20, u21, u22, u23, u24, u25, u26, u27, u28, u29, u30, u31, u32, u33, u34, u35, u36, u37], ds⟩)
  (fun a' _ => n - (intOf (a'.tmps.getD 6 undef)).toNat) ?_ ?_
 ·refine ⟨0, [], Y0, ?_⟩
  (repeat apply Exists.intro)
  refine ⟨⟨Nat.zero_le _, ?_⟩, rfl⟩;subst hyv;exact ⟨hJ.kept _ _ _ _ h0 (Qu.alloc Y0 W _), ⟨fun b hb =>.inl hb, Ext.alloc' Y0 W _⟩, Boxed.new W _ _, fun h => by have := hlt _ h; omega, trivial, fun _ h => h.elim⟩
 ·rintro a' W' ⟨i, ds, Y, u3, u4, u7, u8, u9, u10, u11, u12, u13, u14, u15, u16, u17, u18, u19, u20, u21, u22, u23, u24, u25, u26, u27, u28, u29, u30, u31, u32, u33, u34, u35, u36, u37, ⟨hi, hI⟩, rfl⟩
  try dsimp only
  have hbp2 : Boxed W' bp eI (.int .i64 (n : Nat)) := (hI.o.ext.block bp l3 (fun h => hY0 _ h rfl)).trans hbp;have q2 := (hbp2.alloc (.cells #[.int .i64 (i : Int)] 3)).cell;have hwl := hI.o.ext.size;by_cases hin : i < n
  ·have hin' : (i : Int) < (n : Int) := by omega
   gi_wp2_with (first | (refine ⟨trivial, hdd _, ?_⟩; refine (Qd3 _ _ _ _ _).mono ?_; rintro e w' ⟨rfl, rfl⟩) | fail)
   obtain ⟨W2, hW2⟩ : ∃ W2, W2 = (((W'.alloc (.cells #[.int .i64 (i : Int)] 3)).alloc (.cells #[.int .i64 0] 3)).alloc (.cells #[.int .i64 (n : Int)] 3)).alloc (.cells #[.int .i64 2] 3) := ⟨_, rfl⟩
   have hb0 : Boxed W2 W'.heap.size eI (.int .i64 (i : Nat)) := by rw [hW2]; exact (((Boxed.new W' 3 _).alloc _).alloc _).alloc _
   have hb4 : Boxed W2 (W'.heap.size + 1) eI (.int .i64 (0 : Nat)) := by have := Boxed.new (W'.alloc (.cells #[.int .i64 (i : Int)] 3)) 3 (.int .i64 0);simp only [World.size_alloc] at this;rw [hW2]; exact (this.alloc _).alloc _
   have hb5 : Boxed W2 (W'.heap.size + 1 + 1) eI (.int .i64 (n : Nat)) := by have := Boxed.new ((W'.alloc (.cells #[.int .i64 (i : Int)] 3)).alloc (.cells #[.int .i64 0] 3)) 3 (.int .i64 (n : Int));simp only [World.size_alloc] at this;rw [hW2]; exact this.alloc _
   have hb3 : Boxed W2 (W'.heap.size + 1 + 1 + 1) eI (.int .i64 (2 : Nat)) := by have := Boxed.new (((W'.alloc (.cells #[.int .i64 (i : Int)] 3)).alloc (.cells #[.int .i64 0] 3)).alloc (.cells #[.int .i64 (n : Int)] 3)) 3 (.int .i64 2);simp only [World.size_alloc] at this;rw [hW2]; exact this
   have hk2 : ∀ Z, Qu Z W' W2 := fun Z => by rw [hW2]; exact (((Qu.alloc Z _ _).trans (Qu.alloc Z _ _)).trans (Qu.alloc Z _ _)).trans (Qu.alloc Z _ _)
   have he2 : ∀ Z, Ext Z W' W2 := fun Z => by rw [hW2]; exact (((Ext.alloc' Z _ _).trans (Ext.alloc' Z _ _)).trans (Ext.alloc' Z _ _)).trans (Ext.alloc' Z _ _)
   have hs2 : W2.heap.size = W'.heap.size + 4 := by rw [hW2]; simp
   rw [<- hW2];clear hW2;have hYlt := hJ.lt _ _ _ hI.j;obtain ⟨D0, hD0⟩ : ∃ D0, D0 = (List.range' 0 i).flatMap fun m => (Qay n 2 0).filterMap (Qbj m) := ⟨_, rfl⟩
   have hIj := hI.j;rw [<- hD0] at hIj;obtain ⟨Ob, hOb⟩ : ∃ Ob : Nat -> Prop, ∀ b, Ob b ↔ b = W'.heap.size ∨ b = W.heap.size ∨ Mks.blk ds b := ⟨_, fun _ => Iff.rfl⟩
   have hby2 : Boxed W2 W.heap.size 58 yv := ((hk2 (· = W.heap.size)).block _ hI.bx.lt rfl).trans hI.bx;have hms2 : Mks W.heap.size ds W'.heap.size W2 := hI.ms.kept fun b hb => (hk2 (Mks.blk ds)).block _ (hI.ms.lt hb).2.1 hb;have hOlt : ∀ b, Ob b -> b < W'.heap.size + 1 := fun b hb => by
    rcases (hOb b).1 hb with rfl | rfl | h
    ·omega
    ·have := hI.bx.lt; omega
    ·have := (hI.ms.lt h).2.1; omega
   have hOY : ∀ b, Ob b -> ¬ Y b := fun b hb => by
    rcases (hOb b).1 hb with rfl | rfl | h
    ·exact fun h => Nat.lt_irrefl _ (hYlt _ h)
    ·exact hI.nb
    ·exact hI.nm b h
   refine Qie rfl rfl (gf := 26) (lb := #[.pointer (some ⟨W'.heap.size + 1 + 1 + 1, 0, none⟩), .pointer (some ⟨W'.heap.size + 1, 0, none⟩), .pointer (some ⟨W'.heap.size + 1 + 1, 0, none⟩)]) rfl trivial (enters_of Tryz.func26 (by kernel_rfl) rfl)
    (Qg1 n hn 2 0 _ _ _ W2 (by omega) hb3 hb4 hb5 (by omega)) (Qu.refl _ _) (fun b hb => by rcases hb with rfl | rfl | rfl <;> omega) rfl
    (fun pre Yi X => ∃ Y1, (∀ b, Yi b ↔ Y1 b ∨ Ob b) /\ (∀ b, Ob b -> ¬ Y1 b) /\ (∀ b, Ob b -> b < X.heap.size) /\ J (D0 ++ pre.filterMap (Qbj i)) Y1 X /\ Boxed X W'.heap.size eI (.int .i64 (i : Nat)) /\ Boxed X W.heap.size 58 yv /\ Mks W.heap.size ds W'.heap.size X)
    ⟨?_, ?_⟩ (fun b => Y b ∨ Ob b) (fun b hb hB =>?_) ⟨Y, fun _ => Iff.rfl, hOY, fun b hb => (by have := hOlt b hb; omega), ?_, hb0, hby2, hms2⟩
    (fun v => { tmps := #[.func (.yield l) #[] #[], .pointer (some ⟨bp, 0, none⟩), .pointer (some ⟨W.heap.size, 0, none⟩), .pointer (some ⟨W'.heap.size, 0, none⟩), v, .int .i64 (n : Int), .int .i64 (i : Int), .bool true, .int .i64 (i : Int), .int .i64 (n : Int), .func (.func 26) #[] #[.pointer (some ⟨W'.heap.size + 1 + 1 + 1, 0, none⟩), .pointer (some ⟨W'.heap.size + 1, 0, none⟩), .pointer (some ⟨W'.heap.size + 1 + 1, 0, none⟩)], v, u12, u13, u14, u15, u16, u17, u18, u19, u20, u21, u22, u23, u24, u25, u26, u27, u28, u29, u30, u31, u32, u33, u34, u35, u36, u37], defers := [] }) ?assign ?body ?done
   ·rintro s Yi X X' ⟨Y1, h1, h2, h3, h4, h5, h6, h7⟩ hk;have hkO : ∀ b, Ob b -> X'.heap[b]? = X.heap[b]? := fun b hb => hk.block b (h3 b hb) ((h1 b).2 (.inr hb));exact ⟨Y1, h1, h2, fun b hb => Nat.lt_of_lt_of_le (h3 b hb) hk.size, hJ.kept _ _ _ _ h4 (hk.mono fun b _ hb => (h1 b).2 (.inl hb)), (hkO _ ((hOb _).2 (.inl rfl))).trans h5, (hkO _ ((hOb _).2 (.inr (.inl rfl)))).trans h6, h7.kept fun b hb => hkO b ((hOb b).2 (.inr (.inr hb)))⟩
   ·rintro s Yi X ⟨Y1, h1, h2, h3, h4, h5, h6, h7⟩ b hb;rcases (h1 b).1 hb with h | h
    ·exact hJ.lt _ _ _ h4 b h
    ·exact h3 b h
   ·have hbl : b < W'.heap.size + 1 := by
     rcases hb with h | h
     ·have := hYlt b h; omega
     ·exact hOlt b h
    rcases hB with rfl | rfl | rfl <;> omega
   ·simp only [List.filterMap_nil, List.append_nil];exact hJ.kept _ _ _ _ hIj (hk2 _)
   case assign =>
    intro l2 v X K hK
    gi_wp2
    exact hK
   case body =>
    rintro l2 pre c suf v Yi X hxs hsX ⟨Y1, h1, h2, h3, h4, h5, h6, h7⟩ hv hvY;have hcl : c.length = 2 := Qg0 n 2 0 c (by rw [hxs]; simp);obtain ⟨ca, cb, rfl⟩ : ∃ ca cb, c = [ca, cb] := by
     match c, hcl with
     | [ca, cb], _ => exact ⟨ca, cb, rfl⟩
    have hvl : ∀ b, v.ownBlock = some b -> b < X.heap.size := fun b hb => by obtain ⟨cur, h⟩ := hv.lt hb;exact (Array.getElem?_eq_some_iff.1 h).1
    rcases hv.2 with ⟨rfl, h0'⟩ | ⟨g, cap, cur, rfl, _, hg, hg2, hg3, hg4, hg5⟩
    ·cases h0'
    have hcx : X.cell? ⟨g, 0, none⟩ = some (.int .i64 ca) /\ X.cell? ⟨g, 1, none⟩ = some (.int .i64 cb) := by have := hv.cells (g := g) rfl;exact ⟨this 0 _ rfl, this 1 _ rfl⟩
    have hgl := hvl g rfl
    gi_wp2
    rename_i K0 hK0;have hb1d : Boxed X.drew W.heap.size 58 yv := h6;have hb2d : Boxed X.drew W'.heap.size eI (.int .i64 (i : Nat)) := h5;have hcX : X.drew.cell? ⟨W.heap.size, 0, none⟩ = some yv /\ X.drew.cell? ⟨W'.heap.size, 0, none⟩ = some (.int .i64 (i : Int)) /\ X.drew.cell? ⟨g, 0, none⟩ = some (.int .i64 ca) /\ X.drew.cell? ⟨g, 1, none⟩ = some (.int .i64 cb) := ⟨hb1d.cell, hb2d.cell, hcx.1, hcx.2⟩
    have hYl := hJ.lt _ _ _ h4;have hfm : (pre ++ [[ca, cb]]).filterMap (Qbj i) = pre.filterMap (Qbj i) ++ (if ca ≠ i /\ cb ≠ i then [[(i : Int), ca, cb]] else []) := by rw [List.filterMap_append];congr 1;simp only [List.filterMap_cons, List.filterMap_nil, Qbj];split <;> simp_all
    have hskip : ¬ (ca ≠ i /\ cb ≠ i) -> Qhi (fun pre Yi X => ∃ Y1, (∀ b, Yi b ↔ Y1 b ∨ Ob b) /\ (∀ b, Ob b -> ¬ Y1 b) /\ (∀ b, Ob b -> b < X.heap.size) /\ J (D0 ++ pre.filterMap (Qbj i)) Y1 X /\ Boxed X W'.heap.size eI (.int .i64 (i : Nat)) /\ Boxed X W.heap.size 58 yv /\ Mks W.heap.size ds W'.heap.size X) (pre ++ [[ca, cb]]) Yi (some g) X .normal { tmps := #[], defers := [] } X.drew := fun hno => by
     have hkd : ∀ Z, Qu Z X X.drew := fun Z => ⟨rfl, rfl, rfl, Nat.le_refl _, fun _ _ _ => rfl⟩
     refine ⟨Yi, ⟨Y1, h1, h2, h3, ?_, h5, h6, h7.kept fun _ _ => rfl⟩, fun b hb =>.inl hb, ⟨rfl, rfl, rfl, Nat.le_refl _, fun _ _ _ => rfl⟩⟩;rw [hfm, if_neg hno, List.append_nil];exact hJ.kept _ _ _ _ h4 (hkd _)
    by_cases hA : ca = i
    ·have hca : decide (ca = (i : Int)) = true := decide_eq_true hA;have hend := hskip (fun h => h.1 hA);refine Qdm Qif 38 (fun j => match j with | 0 =>.slice (some ⟨g, 0, none⟩) 2 cap | 1 =>.pointer (some ⟨g, 0, none⟩) | 2 =>.int .i64 ca | 3 =>.int .i64 (i : Int) | 4 =>.bool false | 5 =>.bool false | 6 => undef | 7 => undef | 8 => undef | 9 => undef | 10 => undef | 11 =>.bool false | 12 =>.bool false | 13 => undef | 14 => undef | 15 => undef | 16 => undef | 17 => undef | 18 => undef | 19 => undef | 20 => undef | 21 => undef | 22 => undef | 23 => undef | 24 =>.bool false | _ => undef) [(2, .pointer (some ⟨W.heap.size, 0, none⟩)), (3, .pointer (some ⟨W'.heap.size, 0, none⟩)), (4, .slice (some ⟨g, 0, none⟩) 2 cap)] (fun q w => w = X.drew) (by decide) ?_ ?_ ?_
     ·exact ⟨rfl, rfl, by simp, fun _ _ _ h => (by cases h), fun _ h => (by cases h), rfl⟩
     ·intro q j hj hq hpr a3 w3 hT;have f2 := hT.fixed (2, .pointer (some ⟨W.heap.size, 0, none⟩)) (by simp);have f3 := hT.fixed (3, .pointer (some ⟨W'.heap.size, 0, none⟩)) (by simp);have f4 := hT.fixed (4, .slice (some ⟨g, 0, none⟩) 2 cap) (by simp);simp only at f2 f3 f4;have g0 : q 0 = true -> a3.tmps[12]?.getD undef = .slice (some ⟨g, 0, none⟩) 2 cap := fun h => hT.slot 0 _ 12 h rfl rfl;have g1 : q 1 = true -> a3.tmps[13]?.getD undef = .pointer (some ⟨g, 0, none⟩) := fun h => hT.slot 1 _ 13 h rfl rfl;have g2 : q 2 = true -> a3.tmps[14]?.getD undef = .int .i64 ca := fun h => hT.slot 2 _ 14 h rfl rfl;have g3 : q 3 = true -> a3.tmps[15]?.getD undef = .int .i64 (i : Int) := fun h => hT.slot 3 _ 15 h rfl rfl;have g4 : q 4 = true -> a3.tmps[16]?.getD undef = .bool false := fun h => hT.slot 4 _ 16 h rfl rfl;have g5 : q 5 = true -> a3.tmps[17]?.getD undef = .bool false := fun h => hT.slot 5 _ 17 h rfl rfl;have g6 : q 6 = true -> a3.tmps[18]?.getD undef = undef := fun h => hT.slot 6 _ 18 h rfl rfl;have g7 : q 7 = true -> a3.tmps[19]?.getD undef = undef := fun h => hT.slot 7 _ 19 h rfl rfl;have g8 : q 8 = true -> a3.tmps[20]?.getD undef = undef := fun h => hT.slot 8 _ 20 h rfl rfl;have g9 : q 9 = true -> a3.tmps[21]?.getD undef = undef := fun h => hT.slot 9 _ 21 h rfl rfl;have g10 : q 10 = true -> a3.tmps[22]?.getD undef = undef := fun h => hT.slot 10 _ 22 h rfl rfl;have g11 : q 11 = true -> a3.tmps[23]?.getD undef = .bool false := fun h => hT.slot 11 _ 23 h rfl rfl;have g12 : q 12 = true -> a3.tmps[24]?.getD undef = .bool false := fun h => hT.slot 12 _ 24 h rfl rfl;have g13 : q 13 = true -> a3.tmps[25]?.getD undef = undef := fun h => hT.slot 13 _ 25 h rfl rfl;have g14 : q 14 = true -> a3.tmps[26]?.getD undef = undef := fun h => hT.slot 14 _ 26 h rfl rfl;have g15 : q 15 = true -> a3.tmps[27]?.getD undef = undef := fun h => hT.slot 15 _ 27 h rfl rfl;have g16 : q 16 = true -> a3.tmps[28]?.getD undef = undef := fun h => hT.slot 16 _ 28 h rfl rfl;have g17 : q 17 = true -> a3.tmps[29]?.getD undef = undef := fun h => hT.slot 17 _ 29 h rfl rfl;have g18 : q 18 = true -> a3.tmps[30]?.getD undef = undef := fun h => hT.slot 18 _ 30 h rfl rfl;have g19 : q 19 = true -> a3.tmps[31]?.getD undef = undef := fun h => hT.slot 19 _ 31 h rfl rfl;have g20 : q 20 = true -> a3.tmps[32]?.getD undef = undef := fun h => hT.slot 20 _ 32 h rfl rfl;have g21 : q 21 = true -> a3.tmps[33]?.getD undef = undef := fun h => hT.slot 21 _ 33 h rfl rfl;have g22 : q 22 = true -> a3.tmps[34]?.getD undef = undef := fun h => hT.slot 22 _ 34 h rfl rfl;have g23 : q 23 = true -> a3.tmps[35]?.getD undef = undef := fun h => hT.slot 23 _ 35 h rfl rfl;have g24 : q 24 = true -> a3.tmps[36]?.getD undef = .bool false := fun h => hT.slot 24 _ 36 h rfl rfl;have hw3 : w3 = X.drew := hT.wd;subst hw3;obtain ⟨ce0, ce1, ce2, ce3⟩ := hcX
      match j, hj with
      | 0, _ =>refine hT.val (w' := X.drew) hpr (by rfl) rfl rfl rfl (fun c h => by cases h) ?_ rfl;simp [execOp, go_sem, f4]
      | 1, _ =>have k0 := g0 (hpr 0 (by decide));refine hT.val (w' := X.drew) hpr (by rfl) rfl rfl rfl (fun c h => by cases h) ?_ rfl;simp [execOp, go_sem, k0]
      | 2, _ =>have k1 := g1 (hpr 1 (by decide));refine hT.val (w' := X.drew) hpr (by rfl) rfl rfl rfl (fun c h => by cases h) ?_ rfl;simp [execOp, go_sem, k1, ce2]
      | 3, _ =>refine hT.val (w' := X.drew) hpr (by rfl) rfl rfl rfl (fun c h => by cases h) ?_ rfl;simp [execOp, go_sem, f3, ce1]
      | 4, _ =>have k2 := g2 (hpr 2 (by decide));have k3 := g3 (hpr 3 (by decide));refine hT.val (w' := X.drew) hpr (by rfl) rfl rfl rfl (fun c h => by cases h) ?_ rfl;simp [execOp, go_sem, k2, k3, hA]
      | 5, _ =>have k4 := g4 (hpr 4 (by decide));refine hT.val (w' := X.drew) hpr (by rfl) rfl rfl rfl (fun c h => by cases h) ?_ rfl;simp [execOp, go_sem, k4]
      | 6, _ =>have hy6 := Qc (g5 (hpr 5 (by decide)));exact hT.skip hpr (by rfl) rfl (by simp [Region.wanted, yielded, hy6]) (fun _ _ => trivial) rfl rfl
      | 7, _ =>have hy7 := Qc (g5 (hpr 5 (by decide)));exact hT.skip hpr (by rfl) rfl (by simp [Region.wanted, yielded, hy7]) (fun _ _ => trivial) rfl rfl
      | 8, _ =>have hy8 := Qc (g5 (hpr 5 (by decide)));exact hT.skip hpr (by rfl) rfl (by simp [Region.wanted, yielded, hy8]) (fun _ _ => trivial) rfl rfl
      | 9, _ =>have hy9 := Qc (g5 (hpr 5 (by decide)));exact hT.skip hpr (by rfl) rfl (by simp [Region.wanted, yielded, hy9]) (fun _ _ => trivial) rfl rfl
      | 10, _ =>have hy10 := Qc (g5 (hpr 5 (by decide)));exact hT.skip hpr (by rfl) rfl (by simp [Region.wanted, yielded, hy10]) (fun _ _ => trivial) rfl rfl
      | 11, _ =>have k5 := g5 (hpr 5 (by decide));have k10 := g10 (hpr 10 (by decide));refine hT.val (w' := X.drew) hpr (by rfl) rfl rfl rfl (fun c h => by cases h) ?_ rfl;simp [execOp, go_sem, k5, k10]
      | 12, _ =>have k11 := g11 (hpr 11 (by decide));refine hT.val (w' := X.drew) hpr (by rfl) rfl rfl rfl (fun c h => by cases h) ?_ rfl;simp [execOp, go_sem, k11]
      | 13, _ =>have hy13 := Qc (g12 (hpr 12 (by decide)));exact hT.skip hpr (by rfl) rfl (by simp [Region.wanted, yielded, hy13]) (fun _ _ => trivial) rfl rfl
      | 14, _ =>have hy14 := Qc (g12 (hpr 12 (by decide)));exact hT.skip hpr (by rfl) rfl (by simp [Region.wanted, yielded, hy14]) (fun _ _ => trivial) rfl rfl
      | 15, _ =>have hy15 := Qc (g12 (hpr 12 (by decide)));exact hT.skip hpr (by rfl) rfl (by simp [Region.wanted, yielded, hy15]) (fun _ _ => trivial) rfl rfl
      | 16, _ =>have hy16 := Qc (g12 (hpr 12 (by decide)));exact hT.skip hpr (by rfl) rfl (by simp [Region.wanted, yielded, hy16]) (fun _ _ => trivial) rfl rfl
      | 17, _ =>have hy17 := Qc (g12 (hpr 12 (by decide)));exact hT.skip hpr (by rfl) rfl (by simp [Region.wanted, yielded, hy17]) (fun _ _ => trivial) rfl rfl
      | 18, _ =>have hy18 := Qc (g12 (hpr 12 (by decide)));exact hT.skip hpr (by rfl) rfl (by simp [Region.wanted, yielded, hy18]) (fun _ _ => trivial) rfl rfl
      | 19, _ =>have hy19 := Qc (g12 (hpr 12 (by decide)));exact hT.skip hpr (by rfl) rfl (by simp [Region.wanted, yielded, hy19]) (fun _ _ => trivial) rfl rfl
      | 20, _ =>have hy20 := Qc (g12 (hpr 12 (by decide)));exact hT.skip hpr (by rfl) rfl (by simp [Region.wanted, yielded, hy20]) (fun _ _ => trivial) rfl rfl
      | 21, _ =>have hy21 := Qc (g12 (hpr 12 (by decide)));exact hT.skip hpr (by rfl) rfl (by simp [Region.wanted, yielded, hy21]) (fun _ _ => trivial) rfl rfl
      | 22, _ =>have hy22 := Qc (g12 (hpr 12 (by decide)));exact hT.skip hpr (by rfl) rfl (by simp [Region.wanted, yielded, hy22]) (fun _ _ => trivial) rfl rfl
      | 23, _ =>have hy23 := Qc (g12 (hpr 12 (by decide)));exact hT.skip hpr (by rfl) rfl (by simp [Region.wanted, yielded, hy23]) (fun _ _ => trivial) rfl rfl
      | 24, _ =>have k12 := g12 (hpr 12 (by decide));have k23 := g23 (hpr 23 (by decide));refine hT.val (w' := X.drew) hpr (by rfl) rfl rfl rfl (fun c h => by cases h) ?_ rfl;simp [execOp, go_sem, k12, k23]
      | j + 25, hj => exact absurd hj (by simp)
     ·intro q a3 w3 hq hT;have g24 : a3.tmps[36]?.getD undef = .bool false := hT.slot 24 _ 36 (hq 24 (by decide)) rfl rfl;refine hK0 a3 w3 (wpIn_cond_false (show a3.eval (.tmp 36) = .bool false by simp [Act.eval, g24]) (wpIn_skip ?_));have hw3 : w3 = X.drew := hT.wd;subst hw3;exact hend
    by_cases hB : cb = i
    ·have hca : ¬ ca = (i : Int) := hA;have hcb : decide (cb = (i : Int)) = true := decide_eq_true hB;have hend := hskip (fun h => h.2 hB);refine Qdm Qif 38 (fun j => match j with | 0 =>.slice (some ⟨g, 0, none⟩) 2 cap | 1 =>.pointer (some ⟨g, 0, none⟩) | 2 =>.int .i64 ca | 3 =>.int .i64 (i : Int) | 4 =>.bool true | 5 =>.bool true | 6 =>.slice (some ⟨g, 0, none⟩) 2 cap | 7 =>.pointer (some ⟨g, 1, none⟩) | 8 =>.int .i64 cb | 9 =>.int .i64 (i : Int) | 10 =>.bool false | 11 =>.bool false | 12 =>.bool false | 13 => undef | 14 => undef | 15 => undef | 16 => undef | 17 => undef | 18 => undef | 19 => undef | 20 => undef | 21 => undef | 22 => undef | 23 => undef | 24 =>.bool false | _ => undef) [(2, .pointer (some ⟨W.heap.size, 0, none⟩)), (3, .pointer (some ⟨W'.heap.size, 0, none⟩)), (4, .slice (some ⟨g, 0, none⟩) 2 cap)] (fun q w => w = X.drew) (by decide) ?_ ?_ ?_
     ·exact ⟨rfl, rfl, by simp, fun _ _ _ h => (by cases h), fun _ h => (by cases h), rfl⟩
     ·intro q j hj hq hpr a3 w3 hT;have f2 := hT.fixed (2, .pointer (some ⟨W.heap.size, 0, none⟩)) (by simp);have f3 := hT.fixed (3, .pointer (some ⟨W'.heap.size, 0, none⟩)) (by simp);have f4 := hT.fixed (4, .slice (some ⟨g, 0, none⟩) 2 cap) (by simp);simp only at f2 f3 f4;have g0 : q 0 = true -> a3.tmps[12]?.getD undef = .slice (some ⟨g, 0, none⟩) 2 cap := fun h => hT.slot 0 _ 12 h rfl rfl;have g1 : q 1 = true -> a3.tmps[13]?.getD undef = .pointer (some ⟨g, 0, none⟩) := fun h => hT.slot 1 _ 13 h rfl rfl;have g2 : q 2 = true -> a3.tmps[14]?.getD undef = .int .i64 ca := fun h => hT.slot 2 _ 14 h rfl rfl;have g3 : q 3 = true -> a3.tmps[15]?.getD undef = .int .i64 (i : Int) := fun h => hT.slot 3 _ 15 h rfl rfl;have g4 : q 4 = true -> a3.tmps[16]?.getD undef = .bool true := fun h => hT.slot 4 _ 16 h rfl rfl;have g5 : q 5 = true -> a3.tmps[17]?.getD undef = .bool true := fun h => hT.slot 5 _ 17 h rfl rfl;have g6 : q 6 = true -> a3.tmps[18]?.getD undef = .slice (some ⟨g, 0, none⟩) 2 cap := fun h => hT.slot 6 _ 18 h rfl rfl;have g7 : q 7 = true -> a3.tmps[19]?.getD undef = .pointer (some ⟨g, 1, none⟩) := fun h => hT.slot 7 _ 19 h rfl rfl;have g8 : q 8 = true -> a3.tmps[20]?.getD undef = .int .i64 cb := fun h => hT.slot 8 _ 20 h rfl rfl;have g9 : q 9 = true -> a3.tmps[21]?.getD undef = .int .i64 (i : Int) := fun h => hT.slot 9 _ 21 h rfl rfl;have g10 : q 10 = true -> a3.tmps[22]?.getD undef = .bool false := fun h => hT.slot 10 _ 22 h rfl rfl;have g11 : q 11 = true -> a3.tmps[23]?.getD undef = .bool false := fun h => hT.slot 11 _ 23 h rfl rfl;have g12 : q 12 = true -> a3.tmps[24]?.getD undef = .bool false := fun h => hT.slot 12 _ 24 h rfl rfl;have g13 : q 13 = true -> a3.tmps[25]?.getD undef = undef := fun h => hT.slot 13 _ 25 h rfl rfl;have g14 : q 14 = true -> a3.tmps[26]?.getD undef = undef := fun h => hT.slot 14 _ 26 h rfl rfl;have g15 : q 15 = true -> a3.tmps[27]?.getD undef = undef := fun h => hT.slot 15 _ 27 h rfl rfl;have g16 : q 16 = true -> a3.tmps[28]?.getD undef = undef := fun h => hT.slot 16 _ 28 h rfl rfl;have g17 : q 17 = true -> a3.tmps[29]?.getD undef = undef := fun h => hT.slot 17 _ 29 h rfl rfl;have g18 : q 18 = true -> a3.tmps[30]?.getD undef = undef := fun h => hT.slot 18 _ 30 h rfl rfl;have g19 : q 19 = true -> a3.tmps[31]?.getD undef = undef := fun h => hT.slot 19 _ 31 h rfl rfl;have g20 : q 20 = true -> a3.tmps[32]?.getD undef = undef := fun h => hT.slot 20 _ 32 h rfl rfl;have g21 : q 21 = true -> a3.tmps[33]?.getD undef = undef := fun h => hT.slot 21 _ 33 h rfl rfl;have g22 : q 22 = true -> a3.tmps[34]?.getD undef = undef := fun h => hT.slot 22 _ 34 h rfl rfl;have g23 : q 23 = true -> a3.tmps[35]?.getD undef = undef := fun h => hT.slot 23 _ 35 h rfl rfl;have g24 : q 24 = true -> a3.tmps[36]?.getD undef = .bool false := fun h => hT.slot 24 _ 36 h rfl rfl;have hw3 : w3 = X.drew := hT.wd;subst hw3;obtain ⟨ce0, ce1, ce2, ce3⟩ := hcX
      match j, hj with
      | 0, _ =>refine hT.val (w' := X.drew) hpr (by rfl) rfl rfl rfl (fun c h => by cases h) ?_ rfl;simp [execOp, go_sem, f4]
      | 1, _ =>have k0 := g0 (hpr 0 (by decide));refine hT.val (w' := X.drew) hpr (by rfl) rfl rfl rfl (fun c h => by cases h) ?_ rfl;simp [execOp, go_sem, k0]
      | 2, _ =>have k1 := g1 (hpr 1 (by decide));refine hT.val (w' := X.drew) hpr (by rfl) rfl rfl rfl (fun c h => by cases h) ?_ rfl;simp [execOp, go_sem, k1, ce2]
      | 3, _ =>refine hT.val (w' := X.drew) hpr (by rfl) rfl rfl rfl (fun c h => by cases h) ?_ rfl;simp [execOp, go_sem, f3, ce1]
      | 4, _ =>have k2 := g2 (hpr 2 (by decide));have k3 := g3 (hpr 3 (by decide));refine hT.val (w' := X.drew) hpr (by rfl) rfl rfl rfl (fun c h => by cases h) ?_ rfl;simp [execOp, go_sem, k2, k3, hA]
      | 5, _ =>have k4 := g4 (hpr 4 (by decide));refine hT.val (w' := X.drew) hpr (by rfl) rfl rfl rfl (fun c h => by cases h) ?_ rfl;simp [execOp, go_sem, k4]
      | 6, _ =>have hy6 := Qc (g5 (hpr 5 (by decide)));refine hT.val (w' := X.drew) hpr (by rfl) rfl (by simp [Region.wanted, yielded, hy6]) rfl (fun c h => by cases h) ?_ rfl;simp [execOp, go_sem, f4]
      | 7, _ =>have hy7 := Qc (g5 (hpr 5 (by decide)));have k6 := g6 (hpr 6 (by decide));refine hT.val (w' := X.drew) hpr (by rfl) rfl (by simp [Region.wanted, yielded, hy7]) rfl (fun c h => by cases h) ?_ rfl;simp [execOp, go_sem, k6]
      | 8, _ =>have hy8 := Qc (g5 (hpr 5 (by decide)));have k7 := g7 (hpr 7 (by decide));refine hT.val (w' := X.drew) hpr (by rfl) rfl (by simp [Region.wanted, yielded, hy8]) rfl (fun c h => by cases h) ?_ rfl;simp [execOp, go_sem, k7, ce3]
      | 9, _ =>have hy9 := Qc (g5 (hpr 5 (by decide)));refine hT.val (w' := X.drew) hpr (by rfl) rfl (by simp [Region.wanted, yielded, hy9]) rfl (fun c h => by cases h) ?_ rfl;simp [execOp, go_sem, f3, ce1]
      | 10, _ =>have hy10 := Qc (g5 (hpr 5 (by decide)));have k8 := g8 (hpr 8 (by decide));have k9 := g9 (hpr 9 (by decide));refine hT.val (w' := X.drew) hpr (by rfl) rfl (by simp [Region.wanted, yielded, hy10]) rfl (fun c h => by cases h) ?_ rfl;simp [execOp, go_sem, k8, k9, hB]
      | 11, _ =>have k5 := g5 (hpr 5 (by decide));have k10 := g10 (hpr 10 (by decide));refine hT.val (w' := X.drew) hpr (by rfl) rfl rfl rfl (fun c h => by cases h) ?_ rfl;simp [execOp, go_sem, k5, k10]
      | 12, _ =>have k11 := g11 (hpr 11 (by decide));refine hT.val (w' := X.drew) hpr (by rfl) rfl rfl rfl (fun c h => by cases h) ?_ rfl;simp [execOp, go_sem, k11]
      | 13, _ =>have hy13 := Qc (g12 (hpr 12 (by decide)));exact hT.skip hpr (by rfl) rfl (by simp [Region.wanted, yielded, hy13]) (fun _ _ => trivial) rfl rfl
      | 14, _ =>have hy14 := Qc (g12 (hpr 12 (by decide)));exact hT.skip hpr (by rfl) rfl (by simp [Region.wanted, yielded, hy14]) (fun _ _ => trivial) rfl rfl
      | 15, _ =>have hy15 := Qc (g12 (hpr 12 (by decide)));exact hT.skip hpr (by rfl) rfl (by simp [Region.wanted, yielded, hy15]) (fun _ _ => trivial) rfl rfl
      | 16, _ =>have hy16 := Qc (g12 (hpr 12 (by decide)));exact hT.skip hpr (by rfl) rfl (by simp [Region.wanted, yielded, hy16]) (fun _ _ => trivial) rfl rfl
      | 17, _ =>have hy17 := Qc (g12 (hpr 12 (by decide)));exact hT.skip hpr (by rfl) rfl (by simp [Region.wanted, yielded, hy17]) (fun _ _ => trivial) rfl rfl
      | 18, _ =>have hy18 := Qc (g12 (hpr 12 (by decide)));exact hT.skip hpr (by rfl) rfl (by simp [Region.wanted, yielded, hy18]) (fun _ _ => trivial) rfl rfl
      | 19, _ =>have hy19 := Qc (g12 (hpr 12 (by decide)));exact hT.skip hpr (by rfl) rfl (by simp [Region.wanted, yielded, hy19]) (fun _ _ => trivial) rfl rfl
      | 20, _ =>have hy20 := Qc (g12 (hpr 12 (by decide)));exact hT.skip hpr (by rfl) rfl (by simp [Region.wanted, yielded, hy20]) (fun _ _ => trivial) rfl rfl
      | 21, _ =>have hy21 := Qc (g12 (hpr 12 (by decide)));exact hT.skip hpr (by rfl) rfl (by simp [Region.wanted, yielded, hy21]) (fun _ _ => trivial) rfl rfl
      | 22, _ =>have hy22 := Qc (g12 (hpr 12 (by decide)));exact hT.skip hpr (by rfl) rfl (by simp [Region.wanted, yielded, hy22]) (fun _ _ => trivial) rfl rfl
      | 23, _ =>have hy23 := Qc (g12 (hpr 12 (by decide)));exact hT.skip hpr (by rfl) rfl (by simp [Region.wanted, yielded, hy23]) (fun _ _ => trivial) rfl rfl
      | 24, _ =>have k12 := g12 (hpr 12 (by decide));have k23 := g23 (hpr 23 (by decide));refine hT.val (w' := X.drew) hpr (by rfl) rfl rfl rfl (fun c h => by cases h) ?_ rfl;simp [execOp, go_sem, k12, k23]
      | j + 25, hj => exact absurd hj (by simp)
     ·intro q a3 w3 hq hT;have g24 : a3.tmps[36]?.getD undef = .bool false := hT.slot 24 _ 36 (hq 24 (by decide)) rfl rfl;refine hK0 a3 w3 (wpIn_cond_false (show a3.eval (.tmp 36) = .bool false by simp [Act.eval, g24]) (wpIn_skip ?_));have hw3 : w3 = X.drew := hT.wd;subst hw3;exact hend
    obtain ⟨Xa, hXa⟩ : ∃ Xa, Xa = X.drew.alloc (.cells #[.int .i64 (i : Int), .int .i64 ca, .int .i64 cb] eI) := ⟨_, rfl⟩
    have hka : ∀ Z, Qu Z X Xa := fun Z => by rw [hXa]; exact (show Qu Z X X.drew from ⟨rfl, rfl, rfl, Nat.le_refl _, fun _ _ _ => rfl⟩).trans (Qu.alloc _ _ _)
    have hea : ∀ Z, Ext Z X Xa := fun Z => by rw [hXa]; exact (show Ext Z X X.drew from ⟨rfl, rfl, rfl, Nat.le_refl _, fun _ _ _ => rfl⟩).trans (Ext.alloc' _ _ _)
    have hsa : Xa.heap.size = X.heap.size + 1 := by rw [hXa]; simp
    have hcA : Xa.cell? ⟨W.heap.size, 0, none⟩ = some yv /\ Xa.cell? ⟨W'.heap.size, 0, none⟩ = some (.int .i64 (i : Int)) /\ Xa.cell? ⟨g, 0, none⟩ = some (.int .i64 ca) /\ Xa.cell? ⟨g, 1, none⟩ = some (.int .i64 cb) := by
     rw [hXa];refine ⟨(hb1d.alloc _).cell, (hb2d.alloc _).cell, ?_, ?_⟩
     ·exact (World.cell?_of_block (w := X.drew) (a := ⟨g, 0, none⟩) (Below.heap_alloc X.drew _ g hgl)).trans hcx.1
     ·exact (World.cell?_of_block (w := X.drew) (a := ⟨g, 1, none⟩) (Below.heap_alloc X.drew _ g hgl)).trans hcx.2
    have hSa : SlI eI (.slice (some ⟨X.heap.size, 0, none⟩) 3 3) [(i : Int), ca, cb] Xa := by rw [hXa]; exact ⟨rfl, .inr ⟨X.heap.size, 3, _, rfl, Nat.zero_le _, World.alloc_heap_new _ _, Nat.le_refl _, by decide, rfl, rfl⟩⟩
    have hJa := hJ.kept _ _ _ _ h4 (hka Y1);have hvYa : ∀ b, Value.ownBlock (.slice (some ⟨X.heap.size, 0, none⟩) 3 3) = some b -> ¬ Y1 b /\ W.heap.size <= b := fun b hb => ⟨fun h => (by simp [Value.ownBlock] at hb; have := hYl b h; omega), (by simp [Value.ownBlock] at hb; omega)⟩
    have hfa : ∀ (pre suf : List (List Int)), (pre ++ [ca, cb] :: suf).filterMap (Qbj i) = pre.filterMap (Qbj i) ++ [(i : Int), ca, cb] :: suf.filterMap (Qbj i) := fun pre suf => by rw [List.filterMap_append, List.filterMap_cons];simp [Qbj, hA, hB]
    have hsplit : ((List.range' 0 n).flatMap fun m => (Qay n 2 0).filterMap (Qbj m)) = (D0 ++ pre.filterMap (Qbj i)) ++ [(i : Int), ca, cb] :: (suf.filterMap (Qbj i) ++ (List.range' (i + 1) (n - i - 1)).flatMap fun m => (Qay n 2 0).filterMap (Qbj m)) := by
     have e1 : List.range' 0 n = List.range' 0 i ++ i :: List.range' (i + 1) (n - i - 1) := by
      conv => lhs; rw [show n = i + ((n - i - 1) + 1) by omega]
      rw [<- List.range'_append_1, Nat.zero_add, List.range'_succ]
     rw [e1, List.flatMap_append, List.flatMap_cons, <- hD0];have hq : (Qay n 2 0).filterMap (Qbj i) = pre.filterMap (Qbj i) ++ [(i : Int), ca, cb] :: suf.filterMap (Qbj i) := by rw [hxs]; exact hfa _ _
     rw [hq];simp [List.append_assoc]
    have hend : ∀ Y' w, J ((D0 ++ pre.filterMap (Qbj i)) ++ [[(i : Int), ca, cb]]) Y' w -> Qca Y1 (some X.heap.size) Xa Y' w -> Qhi (fun pre Yi X => ∃ Y1, (∀ b, Yi b ↔ Y1 b ∨ Ob b) /\ (∀ b, Ob b -> ¬ Y1 b) /\ (∀ b, Ob b -> b < X.heap.size) /\ J (D0 ++ pre.filterMap (Qbj i)) Y1 X /\ Boxed X W'.heap.size eI (.int .i64 (i : Nat)) /\ Boxed X W.heap.size 58 yv /\ Mks W.heap.size ds W'.heap.size X) (pre ++ [[ca, cb]]) Yi (some g) X .normal { tmps := #[], defers := [] } w := fun Y' w hj' ho' => by
     have hall : ∀ b, Ob b -> w.heap[b]? = X.heap[b]? := fun b hb => (ho'.ext.block b (by have := h3 b hb; omega) (h2 b hb)).trans ((hea Qi).block b (h3 b hb) id);have hY' : ∀ b, Y' b -> Y1 b ∨ X.heap.size <= b := fun b hb => by
      rcases ho'.own b hb with h | h | h
      ·exact .inl h
      ·exact .inr (by omega)
      ·cases h; exact .inr (Nat.le_refl _)
     refine ⟨fun b => Y' b ∨ Ob b, ⟨Y', fun _ => Iff.rfl, fun b hb h =>?_, fun b hb => (by have := h3 b hb; have := ho'.ext.size; omega), ?_, (hall _ ((hOb _).2 (.inl rfl))).trans h5, (hall _ ((hOb _).2 (.inr (.inl rfl)))).trans h6, h7.kept fun b hb => hall b ((hOb b).2 (.inr (.inr hb)))⟩, ⟨fun b hb =>?_, ?_⟩⟩
     ·rcases hY' b h with h | h
      ·exact h2 b hb h
      ·have := h3 b hb; omega
     ·rw [hfm, if_pos ⟨hA, hB⟩, <- List.append_assoc];exact hj'
     ·rcases hb with h | h
      ·rcases hY' b h with h | h
       ·exact .inl ((h1 b).2 (.inl h))
       ·exact .inr (.inl h)
      ·exact .inl ((h1 b).2 (.inr h))
     ·exact (hea _).trans (ho'.ext.mono fun b _ h => (h1 b).2 (.inl h))
    refine Qdm Qif 38 (fun j => match j with | 0 =>.slice (some ⟨g, 0, none⟩) 2 cap | 1 =>.pointer (some ⟨g, 0, none⟩) | 2 =>.int .i64 ca | 3 =>.int .i64 (i : Int) | 4 =>.bool true | 5 =>.bool true | 6 =>.slice (some ⟨g, 0, none⟩) 2 cap | 7 =>.pointer (some ⟨g, 1, none⟩) | 8 =>.int .i64 cb | 9 =>.int .i64 (i : Int) | 10 =>.bool true | 11 =>.bool true | 12 =>.bool true | 13 => yv | 14 =>.int .i64 (i : Int) | 15 =>.slice (some ⟨g, 0, none⟩) 2 cap | 16 =>.pointer (some ⟨g, 0, none⟩) | 17 =>.int .i64 ca | 18 =>.slice (some ⟨g, 0, none⟩) 2 cap | 19 =>.pointer (some ⟨g, 1, none⟩) | 20 =>.int .i64 cb | 21 =>.slice (some ⟨X.heap.size, 0, none⟩) 3 3 | 22 =>.bool true | 23 =>.bool false | 24 =>.bool false | _ => undef) [(2, .pointer (some ⟨W.heap.size, 0, none⟩)), (3, .pointer (some ⟨W'.heap.size, 0, none⟩)), (4, .slice (some ⟨g, 0, none⟩) 2 cap)] (fun q w => (q 22 = true /\ ∃ Y', J ((D0 ++ pre.filterMap (Qbj i)) ++ [[(i : Int), ca, cb]]) Y' w /\ Qca Y1 (some X.heap.size) Xa Y' w) ∨ (q 22 = false /\ ((q 21 = true /\ w = Xa) ∨ (q 21 = false /\ w = X.drew)))) (by decide) ?_ ?_ ?_
    ·exact ⟨rfl, rfl, by simp, fun _ _ _ h => (by cases h), fun _ h => (by cases h), .inr ⟨rfl, .inr ⟨rfl, rfl⟩⟩⟩
    ·intro q j hj hq hpr a3 w3 hT;have f2 := hT.fixed (2, .pointer (some ⟨W.heap.size, 0, none⟩)) (by simp);have f3 := hT.fixed (3, .pointer (some ⟨W'.heap.size, 0, none⟩)) (by simp);have f4 := hT.fixed (4, .slice (some ⟨g, 0, none⟩) 2 cap) (by simp);simp only at f2 f3 f4;have g0 : q 0 = true -> a3.tmps[12]?.getD undef = .slice (some ⟨g, 0, none⟩) 2 cap := fun h => hT.slot 0 _ 12 h rfl rfl;have g1 : q 1 = true -> a3.tmps[13]?.getD undef = .pointer (some ⟨g, 0, none⟩) := fun h => hT.slot 1 _ 13 h rfl rfl;have g2 : q 2 = true -> a3.tmps[14]?.getD undef = .int .i64 ca := fun h => hT.slot 2 _ 14 h rfl rfl;have g3 : q 3 = true -> a3.tmps[15]?.getD undef = .int .i64 (i : Int) := fun h => hT.slot 3 _ 15 h rfl rfl;have g4 : q 4 = true -> a3.tmps[16]?.getD undef = .bool true := fun h => hT.slot 4 _ 16 h rfl rfl;have g5 : q 5 = true -> a3.tmps[17]?.getD undef = .bool true := fun h => hT.slot 5 _ 17 h rfl rfl;have g6 : q 6 = true -> a3.tmps[18]?.getD undef = .slice (some ⟨g, 0, none⟩) 2 cap := fun h => hT.slot 6 _ 18 h rfl rfl;have g7 : q 7 = true -> a3.tmps[19]?.getD undef = .pointer (some ⟨g, 1, none⟩) := fun h => hT.slot 7 _ 19 h rfl rfl;have g8 : q 8 = true -> a3.tmps[20]?.getD undef = .int .i64 cb := fun h => hT.slot 8 _ 20 h rfl rfl;have g9 : q 9 = true -> a3.tmps[21]?.getD undef = .int .i64 (i : Int) := fun h => hT.slot 9 _ 21 h rfl rfl;have g10 : q 10 = true -> a3.tmps[22]?.getD undef = .bool true := fun h => hT.slot 10 _ 22 h rfl rfl;have g11 : q 11 = true -> a3.tmps[23]?.getD undef = .bool true := fun h => hT.slot 11 _ 23 h rfl rfl;have g12 : q 12 = true -> a3.tmps[24]?.getD undef = .bool true := fun h => hT.slot 12 _ 24 h rfl rfl;have g13 : q 13 = true -> a3.tmps[25]?.getD undef = yv := fun h => hT.slot 13 _ 25 h rfl rfl;have g14 : q 14 = true -> a3.tmps[26]?.getD undef = .int .i64 (i : Int) := fun h => hT.slot 14 _ 26 h rfl rfl;have g15 : q 15 = true -> a3.tmps[27]?.getD undef = .slice (some ⟨g, 0, none⟩) 2 cap := fun h => hT.slot 15 _ 27 h rfl rfl;have g16 : q 16 = true -> a3.tmps[28]?.getD undef = .pointer (some ⟨g, 0, none⟩) := fun h => hT.slot 16 _ 28 h rfl rfl;have g17 : q 17 = true -> a3.tmps[29]?.getD undef = .int .i64 ca := fun h => hT.slot 17 _ 29 h rfl rfl;have g18 : q 18 = true -> a3.tmps[30]?.getD undef = .slice (some ⟨g, 0, none⟩) 2 cap := fun h => hT.slot 18 _ 30 h rfl rfl;have g19 : q 19 = true -> a3.tmps[31]?.getD undef = .pointer (some ⟨g, 1, none⟩) := fun h => hT.slot 19 _ 31 h rfl rfl;have g20 : q 20 = true -> a3.tmps[32]?.getD undef = .int .i64 cb := fun h => hT.slot 20 _ 32 h rfl rfl;have g21 : q 21 = true -> a3.tmps[33]?.getD undef = .slice (some ⟨X.heap.size, 0, none⟩) 3 3 := fun h => hT.slot 21 _ 33 h rfl rfl;have g22 : q 22 = true -> a3.tmps[34]?.getD undef = .bool true := fun h => hT.slot 22 _ 34 h rfl rfl;have g23 : q 23 = true -> a3.tmps[35]?.getD undef = .bool false := fun h => hT.slot 23 _ 35 h rfl rfl;have g24 : q 24 = true -> a3.tmps[36]?.getD undef = .bool false := fun h => hT.slot 24 _ 36 h rfl rfl;have c22 : q 22 = true -> q 12 = true /\ q 13 = true /\ q 21 = true := fun h => ⟨hT.cl 22 h 12 (by decide), hT.cl 22 h 13 (by decide), hT.cl 22 h 21 (by decide)⟩
     have c21 : q 21 = true -> q 12 = true /\ q 14 = true /\ q 17 = true /\ q 20 = true := fun h => ⟨hT.cl 21 h 12 (by decide), hT.cl 21 h 14 (by decide), hT.cl 21 h 17 (by decide), hT.cl 21 h 20 (by decide)⟩
     have c12 : q 12 = true -> q 5 = true /\ q 11 = true := fun h => ⟨hT.cl 12 h 5 (by decide), hT.cl 12 h 11 (by decide)⟩
     have c11 : q 11 = true -> q 5 = true /\ q 10 = true := fun h => ⟨hT.cl 11 h 5 (by decide), hT.cl 11 h 10 (by decide)⟩
     have c5 : q 5 = true -> q 4 = true := fun h => hT.cl 5 h 4 (by decide);have c4 : q 4 = true -> q 2 = true /\ q 3 = true := fun h => ⟨hT.cl 4 h 2 (by decide), hT.cl 4 h 3 (by decide)⟩
     have c10 : q 10 = true -> q 5 = true /\ q 8 = true /\ q 9 = true := fun h => ⟨hT.cl 10 h 5 (by decide), hT.cl 10 h 8 (by decide), hT.cl 10 h 9 (by decide)⟩
     have hw22 : q 22 = false -> w3.cell? ⟨W.heap.size, 0, none⟩ = some yv /\ w3.cell? ⟨W'.heap.size, 0, none⟩ = some (.int .i64 (i : Int)) /\ w3.cell? ⟨g, 0, none⟩ = some (.int .i64 ca) /\ w3.cell? ⟨g, 1, none⟩ = some (.int .i64 cb) := fun h => by
      rcases hT.wd with ⟨h', _⟩ | ⟨_, ⟨_, rfl⟩ | ⟨_, rfl⟩⟩
      ·rw [h] at h'; cases h'
      ·exact hcA
      ·exact hcX
     match j, hj with
     | 0, _ =>refine hT.val (w' := w3) hpr (by rfl) rfl rfl rfl (fun c h => by cases h) ?_ (by simpa using hT.wd);simp [execOp, go_sem, f4]
     | 1, _ =>have k0 := g0 (hpr 0 (by decide));refine hT.val (w' := w3) hpr (by rfl) rfl rfl rfl (fun c h => by cases h) ?_ (by simpa using hT.wd);simp [execOp, go_sem, k0]
     | 2, _ =>
      have k1 := g1 (hpr 1 (by decide));have e22 : q 22 = false := by cases h : q 22 with | true => rw [(c4 (c5 (c11 (c12 (c22 h).1).2).1)).1] at hq; cases hq | false => rfl
      obtain ⟨ce0, ce1, ce2, ce3⟩ := hw22 e22;refine hT.val (w' := w3) hpr (by rfl) rfl rfl rfl (fun c h => by cases h) ?_ (by simpa using hT.wd);simp [execOp, go_sem, k1, ce2]
     | 3, _ =>
      have e22 : q 22 = false := by cases h : q 22 with | true => rw [(c4 (c5 (c11 (c12 (c22 h).1).2).1)).2] at hq; cases hq | false => rfl
      obtain ⟨ce0, ce1, ce2, ce3⟩ := hw22 e22;refine hT.val (w' := w3) hpr (by rfl) rfl rfl rfl (fun c h => by cases h) ?_ (by simpa using hT.wd);simp [execOp, go_sem, f3, ce1]
     | 4, _ =>have k2 := g2 (hpr 2 (by decide));have k3 := g3 (hpr 3 (by decide));refine hT.val (w' := w3) hpr (by rfl) rfl rfl rfl (fun c h => by cases h) ?_ (by simpa using hT.wd);simp [execOp, go_sem, k2, k3, hA]
     | 5, _ =>have k4 := g4 (hpr 4 (by decide));refine hT.val (w' := w3) hpr (by rfl) rfl rfl rfl (fun c h => by cases h) ?_ (by simpa using hT.wd);simp [execOp, go_sem, k4]
     | 6, _ =>have hy6 := Qc (g5 (hpr 5 (by decide)));refine hT.val (w' := w3) hpr (by rfl) rfl (by simp [Region.wanted, yielded, hy6]) rfl (fun c h => by cases h) ?_ (by simpa using hT.wd);simp [execOp, go_sem, f4]
     | 7, _ =>have hy7 := Qc (g5 (hpr 5 (by decide)));have k6 := g6 (hpr 6 (by decide));refine hT.val (w' := w3) hpr (by rfl) rfl (by simp [Region.wanted, yielded, hy7]) rfl (fun c h => by cases h) ?_ (by simpa using hT.wd);simp [execOp, go_sem, k6]
     | 8, _ =>
      have hy8 := Qc (g5 (hpr 5 (by decide)));have k7 := g7 (hpr 7 (by decide));have e22 : q 22 = false := by cases h : q 22 with | true => rw [(c10 (c11 (c12 (c22 h).1).2).2).2.1] at hq; cases hq | false => rfl
      obtain ⟨ce0, ce1, ce2, ce3⟩ := hw22 e22;refine hT.val (w' := w3) hpr (by rfl) rfl (by simp [Region.wanted, yielded, hy8]) rfl (fun c h => by cases h) ?_ (by simpa using hT.wd);simp [execOp, go_sem, k7, ce3]
     | 9, _ =>
      have hy9 := Qc (g5 (hpr 5 (by decide)));have e22 : q 22 = false := by cases h : q 22 with | true => rw [(c10 (c11 (c12 (c22 h).1).2).2).2.2] at hq; cases hq | false => rfl
      obtain ⟨ce0, ce1, ce2, ce3⟩ := hw22 e22;refine hT.val (w' := w3) hpr (by rfl) rfl (by simp [Region.wanted, yielded, hy9]) rfl (fun c h => by cases h) ?_ (by simpa using hT.wd);simp [execOp, go_sem, f3, ce1]
     | 10, _ =>have hy10 := Qc (g5 (hpr 5 (by decide)));have k8 := g8 (hpr 8 (by decide));have k9 := g9 (hpr 9 (by decide));refine hT.val (w' := w3) hpr (by rfl) rfl (by simp [Region.wanted, yielded, hy10]) rfl (fun c h => by cases h) ?_ (by simpa using hT.wd);simp [execOp, go_sem, k8, k9, hB]
     | 11, _ =>have k5 := g5 (hpr 5 (by decide));have k10 := g10 (hpr 10 (by decide));refine hT.val (w' := w3) hpr (by rfl) rfl rfl rfl (fun c h => by cases h) ?_ (by simpa using hT.wd);simp [execOp, go_sem, k5, k10]
     | 12, _ =>have k11 := g11 (hpr 11 (by decide));refine hT.val (w' := w3) hpr (by rfl) rfl rfl rfl (fun c h => by cases h) ?_ (by simpa using hT.wd);simp [execOp, go_sem, k11]
     | 13, _ =>
      have hy13 := Qc (g12 (hpr 12 (by decide)));have e22 : q 22 = false := by cases h : q 22 with | true => rw [(c22 h).2.1] at hq; cases hq | false => rfl
      obtain ⟨ce0, ce1, ce2, ce3⟩ := hw22 e22;refine hT.val (w' := w3) hpr (by rfl) rfl (by simp [Region.wanted, yielded, hy13]) rfl (fun c h => by cases h) ?_ (by simpa using hT.wd);simp [execOp, go_sem, f2, ce0]
     | 14, _ =>
      have hy14 := Qc (g12 (hpr 12 (by decide)));have e22 : q 22 = false := by cases h : q 22 with | true => rw [(c21 (c22 h).2.2).2.1] at hq; cases hq | false => rfl
      obtain ⟨ce0, ce1, ce2, ce3⟩ := hw22 e22;refine hT.val (w' := w3) hpr (by rfl) rfl (by simp [Region.wanted, yielded, hy14]) rfl (fun c h => by cases h) ?_ (by simpa using hT.wd);simp [execOp, go_sem, f3, ce1]
     | 15, _ =>have hy15 := Qc (g12 (hpr 12 (by decide)));refine hT.val (w' := w3) hpr (by rfl) rfl (by simp [Region.wanted, yielded, hy15]) rfl (fun c h => by cases h) ?_ (by simpa using hT.wd);simp [execOp, go_sem, f4]
     | 16, _ =>have hy16 := Qc (g12 (hpr 12 (by decide)));have k15 := g15 (hpr 15 (by decide));refine hT.val (w' := w3) hpr (by rfl) rfl (by simp [Region.wanted, yielded, hy16]) rfl (fun c h => by cases h) ?_ (by simpa using hT.wd);simp [execOp, go_sem, k15]
     | 17, _ =>
      have hy17 := Qc (g12 (hpr 12 (by decide)));have k16 := g16 (hpr 16 (by decide));have e22 : q 22 = false := by cases h : q 22 with | true => rw [(c21 (c22 h).2.2).2.2.1] at hq; cases hq | false => rfl
      obtain ⟨ce0, ce1, ce2, ce3⟩ := hw22 e22;refine hT.val (w' := w3) hpr (by rfl) rfl (by simp [Region.wanted, yielded, hy17]) rfl (fun c h => by cases h) ?_ (by simpa using hT.wd);simp [execOp, go_sem, k16, ce2]
     | 18, _ =>have hy18 := Qc (g12 (hpr 12 (by decide)));refine hT.val (w' := w3) hpr (by rfl) rfl (by simp [Region.wanted, yielded, hy18]) rfl (fun c h => by cases h) ?_ (by simpa using hT.wd);simp [execOp, go_sem, f4]
     | 19, _ =>have hy19 := Qc (g12 (hpr 12 (by decide)));have k18 := g18 (hpr 18 (by decide));refine hT.val (w' := w3) hpr (by rfl) rfl (by simp [Region.wanted, yielded, hy19]) rfl (fun c h => by cases h) ?_ (by simpa using hT.wd);simp [execOp, go_sem, k18]
     | 20, _ =>
      have hy20 := Qc (g12 (hpr 12 (by decide)));have k19 := g19 (hpr 19 (by decide));have e22 : q 22 = false := by cases h : q 22 with | true => rw [(c21 (c22 h).2.2).2.2.2] at hq; cases hq | false => rfl
      obtain ⟨ce0, ce1, ce2, ce3⟩ := hw22 e22;refine hT.val (w' := w3) hpr (by rfl) rfl (by simp [Region.wanted, yielded, hy20]) rfl (fun c h => by cases h) ?_ (by simpa using hT.wd);simp [execOp, go_sem, k19, ce3]
     | 21, _ =>
      have hy21 := Qc (g12 (hpr 12 (by decide)));have k14 := g14 (hpr 14 (by decide));have k17 := g17 (hpr 17 (by decide));have k20 := g20 (hpr 20 (by decide));have e22 : q 22 = false := by cases h : q 22 with | true => rw [(c22 h).2.2] at hq; cases hq | false => rfl
      have hw : w3 = X.drew := by
       rcases hT.wd with ⟨h', _⟩ | ⟨_, ⟨h', _⟩ | ⟨_, h'⟩⟩
       ·rw [e22] at h'; cases h'
       ·rw [hq] at h'; cases h'
       ·exact h'
      subst hw;refine hT.val (w' := Xa) hpr (by rfl) rfl (by simp [Region.wanted, yielded, hy21]) rfl (fun c h => by cases h) ?_ (.inr ⟨by simp [e22], .inl ⟨by simp, rfl⟩⟩);simp [execOp, go_sem, k14, k17, k20, hXa]
     | 22, _ =>
      have hy22 := Qc (g12 (hpr 12 (by decide)));have q21 := hpr 21 (by decide);have hw : w3 = Xa := by
       rcases hT.wd with ⟨h', _⟩ | ⟨_, ⟨_, h'⟩ | ⟨h', _⟩⟩
       ·rw [hq] at h'; cases h'
       ·exact h'
       ·rw [q21] at h'; cases h'
      subst hw;have x1 : a3.eval (.tmp 25) = .func (.yield l) #[] #[] := by rw [<- hyv, <- g13 (hpr 13 (by decide))]; simp [Act.eval]
      have x2 : a3.eval (.tmp 33) = .slice (some ⟨X.heap.size, 0, none⟩) 3 3 := by rw [<- g21 q21]; simp [Act.eval]
      refine hT.yld hpr rfl (by rfl) rfl (by simp [Region.wanted, yielded, hy22]) rfl rfl x1 x2 (hY 0 _ _ _ (.slice (some ⟨X.heap.size, 0, none⟩) 3 3) Y1 w3 hsplit hJa hSa hvYa) fun e w' he =>?_;exact ⟨he.1, .inl ⟨by simp, he.2⟩⟩
     | 23, _ =>have hy23 := Qc (g12 (hpr 12 (by decide)));have k22 := g22 (hpr 22 (by decide));refine hT.val (w' := w3) hpr (by rfl) rfl (by simp [Region.wanted, yielded, hy23]) rfl (fun c h => by cases h) ?_ (by simpa using hT.wd);simp [execOp, go_sem, k22]
     | 24, _ =>have k12 := g12 (hpr 12 (by decide));have k23 := g23 (hpr 23 (by decide));refine hT.val (w' := w3) hpr (by rfl) rfl rfl rfl (fun c h => by cases h) ?_ (by simpa using hT.wd);simp [execOp, go_sem, k12, k23]
     | j + 25, hj => exact absurd hj (by simp)
    ·intro q a3 w3 hq hT;have g24 : a3.tmps[36]?.getD undef = .bool false := hT.slot 24 _ 36 (hq 24 (by decide)) rfl rfl;refine hK0 a3 w3 (wpIn_cond_false (show a3.eval (.tmp 36) = .bool false by simp [Act.eval, g24]) (wpIn_skip ?_));obtain ⟨Y', hj', ho'⟩ := hT.wd.elim (fun h => h.2) (fun h => by rw [hq 22 (by decide)] at h; cases h.1);exact hend Y' w3 hj' ho'
   case done =>
    rintro D Yi X hD hDY ⟨Y1, h1, h2, h3, h4, h5, h6, h7⟩ hown hDd;have q5 := hown.ext.size
    gi_wp2
    have hYlt1 := hJ.lt _ _ _ h4;refine ⟨⟨i + 1, { target :=.collected D, args := #[] } :: ds, Y1, ?_⟩, ?_⟩
    ·(repeat apply Exists.intro)
     refine ⟨⟨by omega, ⟨?_, ⟨fun b hb =>?_, ?_⟩, h6, h2 _ ((hOb _).2 (.inr (.inl rfl))), ⟨D, rfl, (by have := hI.o.ext.size; omega), (Array.getElem?_eq_some_iff.1 hDd).1, hDd, h7.hi (by omega)⟩, ?_⟩⟩, rfl⟩
     ·rw [List.range'_1_concat, List.flatMap_append, <- hD0, Nat.zero_add];simp only [List.flatMap_cons, List.flatMap_nil, List.append_nil];exact h4
     ·rcases hown.own b ((h1 b).2 (.inl hb)) with (h | h) | h | h
      ·exact hI.o.own b h
      ·exact absurd hb (h2 b h)
      ·have := hI.o.ext.size;exact .inr (.inl (by omega))
      ·cases h
     ·refine (hI.o.ext.trans (he2 _)).trans' hown.ext fun b hb h =>?_;rcases h with h | h
      ·rcases hI.o.own b h with h | h | h
       ·exact h
       ·omega
       ·cases h
      ·rcases (hOb b).1 h with rfl | rfl | h
       ·have := hI.o.ext.size; omega
       ·omega
       ·have := (hI.ms.lt h).1; omega
     ·rintro b (hb | hb)
      ·cases hb; exact fun h => hDY ((h1 D).2 (.inl h))
      ·exact h2 b ((hOb b).2 (.inr (.inr hb)))
    ·simp [intOf]; omega
  ·have hin' : (n : Int) <= (i : Int) := by omega
   have e : i = n := by omega
   subst e
   gi_wp2
   show LeavesInM _ _ _ _ _ _ _ _ _;refine Qd7 ds _ W' hI.ms fun w' hw => ⟨_, results_none rfl _ _ _, ⟨_, rfl⟩, Y, ?_, hI.o.own, ?_⟩
   ·exact hJ.kept _ _ _ _ hI.j (hw.kept fun b _ hb hm => hI.nm b hm hb)
   ·exact ⟨hw.os.trans hI.o.ext.os, hw.tape.trans hI.o.ext.tape, hw.output.trans hI.o.ext.output, Nat.le_trans hI.o.ext.size hw.size, fun b hb hn => (hw.block b (Nat.lt_of_lt_of_le hb hI.o.ext.size) (fun hm => by have := (hI.ms.lt hm).1; omega)).trans (hI.o.ext.block b hb hn)⟩
end Go.Proofs.YtnhofjeojfgfoaaGreat
namespace Go.Proofs.YtnhofjeojfgfoaaGreat
open Go Go.FW Go.RowKit Go.Shelf
attribute [local go_sem] Oper.semAt_some
theorem Qj1 (m : Nat) (w : World) (a : Int) (ft : FuncId) : CallsIn Fence.wide m Tryz.prog 10 #[.int .i64 a, .func (.func ft) #[] #[]] w fun e w' =>
  e = .returned (.func (.func 27) #[] #[.pointer (some ⟨w.heap.size, 0, none⟩), .pointer (some ⟨w.heap.size + 1, 0, none⟩)]) /\
  w' = (w.alloc (.cells #[.int .i64 a] 3)).alloc (.cells #[.func (.func ft) #[] #[]] 45) := by
 refine callsIn_of_wp Tryz.func10 rfl trivial ?_ rfl;simp only [Tryz.ntmps10, List.size_toArray, List.length_cons, List.length_nil, Nat.reduceAdd, Nat.reduceSub, Array.replicate_succ, Array.replicate_zero, List.push_toArray, List.append_toArray, List.nil_append, List.cons_append]
 gi_wp2
 go_ret
 exact ⟨rfl, rfl⟩
structure Qda (lo hi : Nat) (gf : FuncId) (lb : Array Value) (xs : List (List Int)) (w : World) : Prop where
 en : ∀ args w, (callFunc gf args).run Tryz.prog w = .ok (.enter gf args) w
 sz : hi <= w.heap.size
 sq : ∃ B, Qfl Fence.wide Tryz.prog gf lb eI B xs w /\ ∀ b, B b -> lo < b /\ b < hi
theorem Qda.kept {lo hi : Nat} {gf : FuncId} {lb : Array Value} {xs : List (List Int)} {w w' : World} (h : Qda lo hi gf lb xs w) (hk : Qu (fun b => lo < b /\ b < hi) w w') : Qda lo hi gf lb xs w' := by obtain ⟨B, h1, h2⟩ := h.sq;exact ⟨h.en, Nat.le_trans h.sz hk.size, B, fun n l J Y0 W hW hJ hY hr h0 => h1 n l J Y0 W ((hk.mono fun b _ hb => h2 b hb).trans hW) hJ hY hr h0, h2⟩
theorem Qda.hi {lo hi hi' : Nat} {gf : FuncId} {lb : Array Value} {xs : List (List Int)} {w : World} (h : Qda lo hi gf lb xs w) (h1 : hi <= hi') (h2 : hi' <= w.heap.size) : Qda lo hi' gf lb xs w := by obtain ⟨B, h3, h4⟩ := h.sq;exact ⟨h.en, h2, B, h3, fun b hb => ⟨(h4 b hb).1, Nat.lt_of_lt_of_le (h4 b hb).2 h1⟩⟩
theorem Qda.ext {lo : Nat} {gf : FuncId} {lb : Array Value} {xs : List (List Int)} {w w' : World} (h : Qda lo w.heap.size gf lb xs w) (he : Ext Qi w w') : Qda lo w'.heap.size gf lb xs w' :=
 (h.kept (he.kept fun _ _ _ h => h)).hi he.size (Nat.le_refl _)
theorem Qg2 (n k lo m : Nat) (hn : n < 100) (hk : k < 100) (w : World) (hlo : lo < w.heap.size) : CallsIn Fence.wide m Tryz.prog 9 #[.int .i64 0, .int .i64 (n : Nat), .int .i64 (k : Nat)] w fun e w' =>
  ∃ lb, e = .returned (.func (.func 26) #[] lb) /\ Ext Qi w w' /\ Qda lo w'.heap.size 26 lb (Qay n k 0) w' := by
 refine (Qd3 m w 0 n k).mono ?_;rintro e w' ⟨rfl, rfl⟩;refine ⟨_, rfl, ((Ext.alloc' _ _ _).trans (Ext.alloc' _ _ _)).trans (Ext.alloc' _ _ _), enters_of Tryz.func26 (by kernel_rfl) rfl, Nat.le_refl _, _, Qg1 n hn k 0 _ _ _ _ hk ?_ ?_ ?_ (by omega), fun b hb =>?_⟩
 ·have := Boxed.new ((w.alloc (.cells #[.int .i64 0] 3)).alloc (.cells #[.int .i64 (n : Int)] 3)) 3 (.int .i64 (k : Int));simp only [World.size_alloc] at this;exact this
 ·exact ((Boxed.new w 3 _).alloc _).alloc _
 ·have := Boxed.new (w.alloc (.cells #[.int .i64 0] 3)) 3 (.int .i64 (n : Int));simp only [World.size_alloc] at this;exact this.alloc _
 ·simp only [World.size_alloc];rcases hb with rfl | rfl | rfl <;> omega
theorem Qqe (n lo m : Nat) (hn : n < 100) (w : World) (hlo : lo < w.heap.size) : CallsIn Fence.wide m Tryz.prog 13 #[.int .i64 (n : Nat)] w fun e w' =>
  ∃ lb, e = .returned (.func (.func 29) #[] lb) /\ Ext Qi w w' /\ Qda lo w'.heap.size 29 lb ((List.range' 0 n).flatMap fun m => (Qay n 2 0).filterMap (Qbj m)) w' := by
 refine (Qjn m w n).mono ?_;rintro e w' ⟨rfl, rfl⟩;refine ⟨_, rfl, Ext.alloc' _ _ _, enters_of Tryz.func29 (by kernel_rfl) rfl, Nat.le_refl _, _, Qqd n hn _ _ (Boxed.new w 3 _), fun b hb =>?_⟩;subst hb;simp only [World.size_alloc];omega
structure Qmi (n : Nat) (S : List (Int × Int)) : Prop where
 len : S.length <= 400
 seg : ∀ (m : Nat) (w : World), CallsIn Fence.wide m Tryz.prog 28 #[.int .i64 (n : Nat)] w fun e w' => ∃ a cap, e = .returned (.slice a S.length cap) /\ Ext Qi w w' /\
   ∀ i (h : i < S.length), ∃ b off, a = some ⟨b, off, none⟩ /\ b < w'.heap.size /\ w.heap.size <= b /\ S.length <= cap /\ w'.cell? ⟨b, off + i * 2, none⟩ = some (.int .i64 S[i].1) /\ w'.cell? ⟨b, off + i * 2 + 1, none⟩ = some (.int .i64 S[i].2)
 apart : ∀ (m : Nat) (s1 s2 t1 t2 : Int) (w : World), CallsIn Fence.wide m Tryz.prog 11 #[.agg #[.int .i64 s1, .int .i64 s2], .agg #[.int .i64 t1, .int .i64 t2]] w fun e w' => e = .returned (.bool (Qc8 (s1, s2) (t1, t2))) /\ Ext Qi w w'
 differs : ∀ (m : Nat) (s1 s2 t1 t2 : Int) (w : World), CallsIn Fence.wide m Tryz.prog 12 #[.agg #[.int .i64 s1, .int .i64 s2], .agg #[.int .i64 t1, .int .i64 t2]] w fun e w' => e = .returned (.bool (Qc9 (s1, s2) (t1, t2))) /\ Ext Qi w w'
theorem Qmj (n lo m : Nat) (S : List (Int × Int)) (hS : Qmi n S) (w : World) (hlo : lo < w.heap.size) : CallsIn Fence.wide m Tryz.prog 10 #[.int .i64 (n : Nat), .func (.func 11) #[] #[]] w fun e w' =>
  ∃ lb, e = .returned (.func (.func 27) #[] lb) /\ Ext Qi w w' /\ Qda lo w'.heap.size 27 lb (Qau Qc8 S) w' := by
 refine (Qj1 m w n _).mono ?_;rintro e w' ⟨rfl, rfl⟩;refine ⟨_, rfl, (Ext.alloc' _ _ _).trans (Ext.alloc' _ _ _), enters_of Tryz.func27 (by kernel_rfl) rfl, Nat.le_refl _, _, Qmg Qc8 S hS.len n hS.seg hS.apart _ _ _ ((Boxed.new w 3 _).alloc _) ?_, fun b hb =>?_⟩
 ·have := Boxed.new (w.alloc (.cells #[.int .i64 (n : Int)] 3)) 45 (.func (.func 11) #[] #[]);simp only [World.size_alloc] at this;exact this
 ·simp only [World.size_alloc];rcases hb with rfl | rfl <;> omega
theorem Qhj (n lo m : Nat) (S : List (Int × Int)) (hS : Qmi n S) (w : World) (hlo : lo < w.heap.size) : CallsIn Fence.wide m Tryz.prog 10 #[.int .i64 (n : Nat), .func (.func 12) #[] #[]] w fun e w' =>
  ∃ lb, e = .returned (.func (.func 27) #[] lb) /\ Ext Qi w w' /\ Qda lo w'.heap.size 27 lb (Qau Qc9 S) w' := by
 refine (Qj1 m w n _).mono ?_;rintro e w' ⟨rfl, rfl⟩;refine ⟨_, rfl, (Ext.alloc' _ _ _).trans (Ext.alloc' _ _ _), enters_of Tryz.func27 (by kernel_rfl) rfl, Nat.le_refl _, _, Qmh Qc9 S hS.len n hS.seg hS.differs _ _ _ ((Boxed.new w 3 _).alloc _) ?_, fun b hb =>?_⟩
 ·have := Boxed.new (w.alloc (.cells #[.int .i64 (n : Int)] 3)) 45 (.func (.func 12) #[] #[]);simp only [World.size_alloc] at this;exact this
 ·simp only [World.size_alloc];rcases hb with rfl | rfl <;> omega
def Qe3 (n : Nat) (S : List (Int × Int)) : List (Int × List (List Int)) :=
 [(1, Qay n 3 0), (2, Qau Qc8 S), (3, Qau Qc9 S), (4, Qau Qc9 S), (5, (List.range' 0 n).flatMap fun m => (Qay n 2 0).filterMap (Qbj m)), (6, Qay n 4 0), (8, Qay n 2 0)]
def Qa0 (x : Int × List Int × Value) : List Value := [.int .i64 x.1, x.2.2, .bool false, .slice none 0 0, .slice none 0 0]
structure Qeh (lo base : Nat) (L : List (Int × List Int × Value)) (vo : Value) (Y : Nat -> Prop) (X : World) : Prop where
 bx : Boxed X lo 22 vo
 row : X.ownsRow base 35 5 vo L.length (L.flatMap Qa0)
 rowY : ∀ b, vo.ownBlock = some b -> Y b
 loY : Y lo
 arg : ∀ x ∈ L, SlI eI x.2.2 x.2.1 X /\ ∀ b, x.2.2.ownBlock = some b -> Y b /\ base <= b
theorem Qg3 {w w' : World} {base : Nat} {e : TypeId} {size n : Nat} {v : Value} {xs : List Value} (h : w.ownsRow base e size v n xs) (hk : ∀ b, v.ownBlock = some b -> w'.heap[b]? = w.heap[b]?) : w'.ownsRow base e size v n xs := by
 refine ⟨h.1, ?_⟩;rcases h.2 with h2 | ⟨g, cap, cur, rfl, h3, hg, h4⟩
 ·exact .inl h2
 ·exact .inr ⟨g, cap, cur, rfl, h3, (hk g rfl).trans hg, h4⟩
theorem Qeh.kept {lo base : Nat} {L : List (Int × List Int × Value)} {vo : Value} {Y : Nat -> Prop} {X X' : World} (h : Qeh lo base L vo Y X) (hk : Qu Y X X') : Qeh lo base L vo Y X' :=
 ⟨(hk.block lo h.bx.lt h.loY).trans h.bx, Qg3 h.row fun b hb => hk.block b ((h.row.lt b hb).2) (h.rowY b hb), h.rowY, h.loY, fun x hx => ⟨(h.arg x hx).1.kept fun b hb => hk.block b (by obtain ⟨cur, h⟩ := (h.arg x hx).1.lt hb;exact (Array.getElem?_eq_some_iff.1 h).1) ((h.arg x hx).2 b hb).1, (h.arg x hx).2⟩⟩
theorem Qeh.step {lo base : Nat} {L : List (Int × List Int × Value)} {vo : Value} {Y : Nat -> Prop} {X : World} (h : Qeh lo base L vo Y X) {k : Int} {c : List Int} {v v' : Value} {X1 X2 : World} {o : Obj}
  (hv : SlI eI v c X) (hvb : ∀ b, v.ownBlock = some b -> base <= b) (hlb : lo < base) (hX1 : X1 = X.alloc o)
  (hr : X2.ownsRow base 35 5 v' (L.length + 1) (L.flatMap Qa0 ++ Qa0 (k, c, v))) (hg : X1.grownBy X2 vo.ownBlock) (hb : v'.ownBlock = vo.ownBlock ∨ v'.ownBlock = some X1.heap.size) :
  Qeh lo base (L ++ [(k, c, v)]) v' (fun b => Y b ∨ X.heap.size <= b /\ b < (X2.setCell ⟨lo, 0, none⟩ v').heap.size ∨ v.ownBlock = some b) (X2.setCell ⟨lo, 0, none⟩ v') /\ Ext Y X (X2.setCell ⟨lo, 0, none⟩ v') /\ ∀ b, b < X.heap.size -> b ≠ lo -> vo.ownBlock ≠ some b -> (X2.setCell ⟨lo, 0, none⟩ v').heap[b]? = X.heap[b]? := by
 have hs1 : X1.heap.size = X.heap.size + 1 := by rw [hX1]; simp
 have hk1 : ∀ b, b < X.heap.size -> X1.heap[b]? = X.heap[b]? := fun b hb => by rw [hX1]; exact Below.heap_alloc X _ b hb
 have hlol := h.bx.lt;have hnr : vo.ownBlock ≠ some lo := fun e => by have := (h.row.lt _ e).1; omega
 have hnr' : v'.ownBlock ≠ some lo := fun e => by
  rcases hb with h' | h'
  ·exact hnr (h'.symm.trans e)
  ·rw [h'] at e; cases e; omega
 have hb1 : Boxed X1 lo 22 vo := (hk1 lo hlol).trans h.bx;have hb2 : Boxed X2 lo 22 vo := (hg.block lo (by omega) (fun e => hnr e.symm)).trans hb1;have hsz : (X2.setCell ⟨lo, 0, none⟩ v').heap.size = X2.heap.size := by simp
 have hoth : ∀ b, b ≠ lo -> (X2.setCell ⟨lo, 0, none⟩ v').heap[b]? = X2.heap[b]? := fun b hb => by
  have := (grownBy_setCell' X2 lo v').block b;rcases Nat.lt_or_ge b X2.heap.size with h' | h'
  ·exact this h' (fun e => hb (by cases e; rfl))
  ·rw [Array.getElem?_eq_none h', Array.getElem?_eq_none (by omega)]
 have hgs := hg.size;refine ⟨⟨hb2.set v', ?_, fun b hb' =>?_, .inl h.loY, fun x hx =>?_⟩, ?_, fun b hb' h1 h2 => (hoth b h1).trans ((hg.block b (by omega) fun e => h2 e.symm).trans (hk1 b hb'))⟩
 ·have e1 : (L ++ [(k, c, v)]).flatMap Qa0 = L.flatMap Qa0 ++ Qa0 (k, c, v) := by simp
  rw [List.length_append, List.length_singleton, e1];exact Qg3 hr fun b hb' => hoth b (fun e => hnr' (by rw [hb', e]))
 ·rcases hb with h' | h'
  ·exact .inl (h.rowY b (h'.symm.trans hb'))
  ·rw [h'] at hb';cases hb';exact .inr (.inl ⟨by omega, by have := (hr.lt _ h').2; omega⟩)
 ·rcases List.mem_append.1 hx with hx | hx
  ·obtain ⟨h1, h2⟩ := h.arg x hx;refine ⟨h1.kept fun b hb' =>?_, fun b hb' => ⟨.inl (h2 b hb').1, (h2 b hb').2⟩⟩;obtain ⟨cur, hc⟩ := h1.lt hb';have hbl := (Array.getElem?_eq_some_iff.1 hc).1;refine (hoth b (by have := (h2 b hb').2; omega)).trans ((hg.block b (by omega) fun e =>?_).trans (hk1 b hbl));rcases h.row.2 with ⟨rfl, _⟩ | ⟨g, cap, cur', rfl, _, hg', _⟩
   ·cases e
   ·cases e;rw [hc] at hg';cases hg'
  ·rw [List.mem_singleton] at hx;subst hx;refine ⟨hv.kept fun b hb' =>?_, fun b hb' => ⟨.inr (.inr hb'), hvb b hb'⟩⟩;obtain ⟨cur, hc⟩ := hv.lt hb';have hbl := (Array.getElem?_eq_some_iff.1 hc).1;refine (hoth b (by have := hvb b hb'; omega)).trans ((hg.block b (by omega) fun e =>?_).trans (hk1 b hbl));rcases h.row.2 with ⟨rfl, _⟩ | ⟨g, cap, cur', rfl, _, hg', _⟩
   ·cases e
   ·cases e;rw [hc] at hg';cases hg'
 ·refine ⟨hg.os.trans (by rw [hX1]; rfl), hg.tape.trans (by rw [hX1]; rfl), hg.output.trans (by rw [hX1]; rfl), by omega, fun b hb' hn =>?_⟩;exact (hoth b (fun e => hn (e ▸ h.loY))).trans ((hg.block b (by omega) fun e => hn (h.rowY b e.symm)).trans (hk1 b hb'))
end Go.Proofs.YtnhofjeojfgfoaaGreat
namespace Go.Proofs.YtnhofjeojfgfoaaGreat
open Go Go.FW Go.RowKit Go.Shelf
attribute [local go_sem] Oper.semAt_some
def zF : Value :=.agg #[.int .i64 0, .slice none 0 0, .bool false, .slice none 0 0, .slice none 0 0]
theorem Qx7 : (Tryz.prog.info? 35).map (fun i => (i.zero, i.size, i.bytes)) = some (some zF, 5, 88) := by kernel_rfl
structure Qj2 (lo base gb : Nat) (kd : Int) (fv : Value) (ds : List Deferred) (hi : Nat) (D : List (Int × List Int)) (Y : Nat -> Prop) (X : World) : Prop where
 fct : ∃ L vo, L.map (fun x => (x.1, x.2.1)) = D /\ Qeh lo base L vo Y X
 yb : ∀ b, Y b -> (b = lo ∨ base <= b) /\ b < X.heap.size
 gh : X.heap[gb]? = some (.cells #[.int .i64 kd, fv] 43 (0, 0))
 gy : Y gb
 ms : Mks base ds hi X
 my : ∀ b, Mks.blk ds b -> Y b
theorem Qj2.kept {lo base gb : Nat} {kd : Int} {fv : Value} {ds : List Deferred} {hi : Nat} {D : List (Int × List Int)} {Y : Nat -> Prop} {X X' : World} (h : Qj2 lo base gb kd fv ds hi D Y X) (hk : Qu Y X X') : Qj2 lo base gb kd fv ds hi D Y X' := by obtain ⟨L, vo, h1, h2⟩ := h.fct;exact ⟨⟨L, vo, h1, h2.kept hk⟩, fun b hb => ⟨(h.yb b hb).1, Nat.lt_of_lt_of_le (h.yb b hb).2 hk.size⟩, (hk.block _ (h.yb _ h.gy).2 h.gy).trans h.gh, h.gy, h.ms.kept fun b hb => hk.block b (h.yb b (h.my b hb)).2 (h.my b hb), h.my⟩
theorem Qeh.mono {lo base : Nat} {L : List (Int × List Int × Value)} {vo : Value} {Y Y' : Nat -> Prop} {X : World} (h : Qeh lo base L vo Y X) (hY : ∀ b, b < X.heap.size -> Y b -> Y' b) : Qeh lo base L vo Y' X :=
 ⟨h.bx, h.row, fun b hb => hY b (h.row.lt b hb).2 (h.rowY b hb), hY lo h.bx.lt h.loY, fun x hx => ⟨(h.arg x hx).1, fun b hb => ⟨hY b (by obtain ⟨cur, h⟩ := (h.arg x hx).1.lt hb;exact (Array.getElem?_eq_some_iff.1 h).1) ((h.arg x hx).2 b hb).1, ((h.arg x hx).2 b hb).2⟩⟩⟩
structure Qx8 (lo G : Nat) (D : List (Int × List Int)) (W Wg : World) (ds : List Deferred) (X : World) : Prop where
 fct : ∃ L vo, L.map (fun x => (x.1, x.2.1)) = D /\ Qeh lo (G + 1) L vo (fun b => b = lo ∨ G + 1 <= b) X
 kp : Qu (fun b => lo < b /\ b <= G) Wg X
 ex : Ext Qi W X
 ms : Mks (G + 1) ds X.heap.size X
def Qtc (F : List (Int × List Int)) (W W' : World) (vo : Value) : Prop := ∃ (L : List (Int × List Int × Value)) (base : Nat), L.map (fun x => (x.1, x.2.1)) = F /\ Ext Qi W W' /\ W.heap.size < base /\
 W'.ownsRow base 35 5 vo L.length (L.flatMap Qa0) /\ ∀ x ∈ L, SlI eI x.2.2 x.2.1 W' /\ ∀ b, x.2.2.ownBlock = some b -> base <= b
def Qhk (n : Nat) (S : List (Int × Int)) : List (Int × List Int) := (Qe3 n S).flatMap fun g => g.2.map fun l => (g.1, l)
set_option maxHeartbeats 4000000 in
theorem Qtd (n : Nat) (hn : n <= 10) (S : List (Int × Int)) (hS : Qmi n S) (hlen : (Qhk n S).length <= 100000) (m : Nat) (W : World) :
  CallsIn Fence.wide m Tryz.prog 4 #[.int .i64 (n : Nat)] W fun e W' => ∃ vo, e = .returned (.tuple #[vo, .int .i64 0]) /\ Qtc (Qhk n S) W W' vo := by
 refine callsIn_of_wp_marks Tryz.func4 rfl trivial ?_ rfl;simp only [Tryz.ntmps4, List.size_toArray, List.length_cons, List.length_nil, Nat.reduceAdd, Nat.reduceSub, Array.replicate_succ, Array.replicate_zero, List.push_toArray, List.append_toArray, List.nil_append, List.cons_append];have k1 : ¬ (n : Int) < 0 := by omega
 have k2 : ¬ (40 : Int) < (n : Int) := by omega
 have k3 : ¬ (10 : Int) < (n : Int) := by omega
 gi_wp2_with (first | (refine ⟨trivial, hdd _, ?_⟩; refine (Qg2 n 3 W.heap.size _ (by omega) (by omega) _ (by simp)).mono ?_; rintro e w1 ⟨lb1, rfl, hE1, hG1⟩) | fail)
 have z1 : W.heap.size < w1.heap.size := by have := hE1.size; simp at this; omega
 refine ⟨trivial, hdd _, ?_⟩;refine (Qmj n W.heap.size _ S hS _ z1).mono ?_;rintro e w2 ⟨lb2, rfl, hE2, hG2⟩;have z2 : W.heap.size < w2.heap.size := Nat.lt_of_lt_of_le z1 hE2.size
 gi_wp2
 refine ⟨trivial, hdd _, ?_⟩;refine (Qhj n W.heap.size _ S hS _ z2).mono ?_;rintro e w3 ⟨lb3, rfl, hE3, hG3⟩;have z3 : W.heap.size < w3.heap.size := Nat.lt_of_lt_of_le z2 hE3.size
 gi_wp2
 refine ⟨trivial, hdd _, ?_⟩;refine (Qhj n W.heap.size _ S hS _ z3).mono ?_;rintro e w4 ⟨lb4, rfl, hE4, hG4⟩;have z4 : W.heap.size < w4.heap.size := Nat.lt_of_lt_of_le z3 hE4.size
 gi_wp2
 refine ⟨trivial, hdd _, ?_⟩;refine (Qqe n W.heap.size _ (by omega) _ z4).mono ?_;rintro e w5 ⟨lb5, rfl, hE5, hG5⟩;have z5 : W.heap.size < w5.heap.size := Nat.lt_of_lt_of_le z4 hE5.size
 gi_wp2
 refine ⟨trivial, hdd _, ?_⟩;refine (Qg2 n 4 W.heap.size _ (by omega) (by omega) _ z5).mono ?_;rintro e w6 ⟨lb6, rfl, hE6, hG6⟩;have z6 : W.heap.size < w6.heap.size := Nat.lt_of_lt_of_le z5 hE6.size
 gi_wp2
 refine ⟨trivial, hdd _, ?_⟩;refine (Qg2 n 2 W.heap.size _ (by omega) (by omega) _ z6).mono ?_;rintro e w7 ⟨lb7, rfl, hE7, hG7⟩;have z7 : W.heap.size < w7.heap.size := Nat.lt_of_lt_of_le z6 hE7.size;have e7 : Ext Qi (W.alloc (.cells #[.slice none 0 0] 22)) w7 := (((((hE1.trans hE2).trans hE3).trans hE4).trans hE5).trans hE6).trans hE7;replace hG6 := hG6.ext hE7;replace hG5 := hG5.ext (hE6.trans hE7);replace hG4 := hG4.ext ((hE5.trans hE6).trans hE7);replace hG3 := hG3.ext (((hE4.trans hE5).trans hE6).trans hE7);replace hG2 := hG2.ext ((((hE3.trans hE4).trans hE5).trans hE6).trans hE7);replace hG1 := hG1.ext (((((hE2.trans hE3).trans hE4).trans hE5).trans hE6).trans hE7);clear hE1 hE2 hE3 hE4 hE5 hE6 hE7 z1 z2 z3 z4 z5 z6
 gi_wp2
 obtain ⟨G, hG⟩ : ∃ G, G = w7.heap.size := ⟨_, rfl⟩
 obtain ⟨Wg, hWg⟩ : ∃ Wg, Wg = w7.alloc (.cells #[.int .i64 1, .func (.func 26) #[] lb1, .int .i64 2, .func (.func 27) #[] lb2, .int .i64 3, .func (.func 27) #[] lb3, .int .i64 4, .func (.func 27) #[] lb4, .int .i64 5, .func (.func 29) #[] lb5, .int .i64 6, .func (.func 26) #[] lb6, .int .i64 8, .func (.func 26) #[] lb7] 43) := ⟨_, rfl⟩
 have hgs : ∀ i, i < 7 -> ∃ kd gf lb xs, (Qe3 n S)[i]? = some (kd, xs) /\ Wg.cell? ⟨G, i * 2, none⟩ = some (.int .i64 kd) /\ Wg.cell? ⟨G, i * 2 + 1, none⟩ = some (.func (.func gf) #[] lb) /\ Qda W.heap.size G gf lb xs Wg := by
  have hk : ∀ Y, Qu Y w7 Wg := fun Y => by rw [hWg]; exact Qu.alloc _ _ _
  have hc : Wg.heap[G]? = some (.cells #[.int .i64 1, .func (.func 26) #[] lb1, .int .i64 2, .func (.func 27) #[] lb2, .int .i64 3, .func (.func 27) #[] lb3, .int .i64 4, .func (.func 27) #[] lb4, .int .i64 5, .func (.func 29) #[] lb5, .int .i64 6, .func (.func 26) #[] lb6, .int .i64 8, .func (.func 26) #[] lb7] 43 (0, 0)) := by rw [hWg, hG]; exact World.alloc_heap_new w7 _
  subst hG;intro i hi
  match i, hi with
  | 0, _ => exact ⟨_, _, _, _, rfl, by simp [World.cell?, hc], by simp [World.cell?, hc], hG1.kept (hk _)⟩
  | 1, _ => exact ⟨_, _, _, _, rfl, by simp [World.cell?, hc], by simp [World.cell?, hc], hG2.kept (hk _)⟩
  | 2, _ => exact ⟨_, _, _, _, rfl, by simp [World.cell?, hc], by simp [World.cell?, hc], hG3.kept (hk _)⟩
  | 3, _ => exact ⟨_, _, _, _, rfl, by simp [World.cell?, hc], by simp [World.cell?, hc], hG4.kept (hk _)⟩
  | 4, _ => exact ⟨_, _, _, _, rfl, by simp [World.cell?, hc], by simp [World.cell?, hc], hG5.kept (hk _)⟩
  | 5, _ => exact ⟨_, _, _, _, rfl, by simp [World.cell?, hc], by simp [World.cell?, hc], hG6.kept (hk _)⟩
  | 6, _ => exact ⟨_, _, _, _, rfl, by simp [World.cell?, hc], by simp [World.cell?, hc], hG7.kept (hk _)⟩
  | i + 7, h => omega
 have hsG : Wg.heap.size = G + 1 := by rw [hWg, hG]; simp
 have hlG : W.heap.size < G := by rw [hG]; exact z7
 have hEg : Ext Qi (W.alloc (.cells #[.slice none 0 0] 22)) Wg := e7.trans (by rw [hWg]; exact Ext.alloc' _ _ _);have hbg : Boxed Wg W.heap.size 22 (.slice none 0 0) := (hEg.block _ (by simp) id).trans (Boxed.new W _ _);rw [<- hWg, <- hG];clear hG1 hG2 hG3 hG4 hG5 hG6 hG7 e7 z7;clear hWg hG;refine wpIn_loop (fun a' X0 => ∃ (i : Nat) (ds : List Deferred) (u1 u5 u6 u7 u8 u9 u10 u11 u12 u13 u14 u15 u16 u17 u18 u19 u20 u21 u22 u23 u24 u25 u26 u27 u28 u29 u30 u31 u32 u33 u34 u35 u36 u40 u41 u42 u43 u44 u45 u46 u47 u48 u49 u50 u51 u52 u53 u54 : Value), (i <= 7 /\ Qx8 W.heap.size G (((Qe3 n S).take i).flatMap fun g => g.2.map fun l => (g.1, l)) W Wg ds X0) /\ a' = ⟨#[.int .i64 (n : Int), u1, .slice none 0 0, .int .i64 0, .pointer (some ⟨W.heap.size, 0, none⟩), u5, u6, u7, u8, u9, u10, u11, u12, u13, u14, u15, u16, u17, u18, u19, u20, u21, u22, u23, u24, u25, u26, u27, u28, u29, u30, u31, u32, u33, u34, u35, u36, .slice (some ⟨G, 0, none⟩) 7 7, .int .i64 7, .int .i64 (i : Int), u40, u41, u42, u43, u44, u45, u46, u47, u48, u49, u50, u51, u52, u53, u54], ds⟩)
  (fun a' _ => 7 - (intOf (a'.tmps.getD 39 undef)).toNat) ?_ ?_
 ·refine ⟨0, [], ?_⟩
  (repeat apply Exists.intro)
  refine ⟨⟨Nat.zero_le _, ⟨[], .slice none 0 0, rfl, ⟨hbg, World.ownsRow_nil _ _ _ _, fun b hb => (by cases hb), .inl rfl, fun x hx => (by cases hx)⟩⟩, Qu.refl _ _, (Ext.alloc' _ _ _).trans hEg, trivial⟩, rfl⟩
 ·rintro a' X0 ⟨i, ds, u1, u5, u6, u7, u8, u9, u10, u11, u12, u13, u14, u15, u16, u17, u18, u19, u20, u21, u22, u23, u24, u25, u26, u27, u28, u29, u30, u31, u32, u33, u34, u35, u36, u40, u41, u42, u43, u44, u45, u46, u47, u48, u49, u50, u51, u52, u53, u54, ⟨hi, hI⟩, rfl⟩
  try dsimp only
  by_cases hi7 : i < 7
  ·obtain ⟨kd, gf, lb, xs, hg0, hg1, hg2, hg3⟩ := hgs i hi7;have hxG : X0.heap[G]? = Wg.heap[G]? := hI.kp.block G (by omega) ⟨hlG, Nat.le_refl _⟩;have q1 : X0.cell? ⟨G, i * 2, none⟩ = some (.int .i64 kd) := (World.cell?_of_block (w := Wg) (a := ⟨G, _, none⟩) hxG).trans hg1;have q2 : X0.cell? ⟨G, i * 2 + 1, none⟩ = some (.func (.func gf) #[] lb) := (World.cell?_of_block (w := Wg) (a := ⟨G, _, none⟩) hxG).trans hg2;have hgx := hg3.kept (hI.kp.mono fun b _ hb => ⟨hb.1, Nat.le_of_lt hb.2⟩);have p1 : (i : Int) < 7 := by omega
   have p2 : (0 : Int) <= (i : Int) := by omega
   clear hg1 hg2
   gi_wp2
   obtain ⟨L0, vo0, hL1, hL2⟩ := hI.fct;obtain ⟨B, hB1, hB2⟩ := hgx.sq;obtain ⟨D0, hD0⟩ : ∃ D0, D0 = ((Qe3 n S).take i).flatMap fun g => g.2.map fun l => (g.1, l) := ⟨_, rfl⟩
   rw [<- hD0] at hL1;obtain ⟨X1, hX1⟩ : ∃ X1, X1 = X0.alloc (.cells #[.int .i64 kd, .func (.func gf) #[] lb] 43) := ⟨_, rfl⟩
   have hk1 : ∀ Z, Qu Z X0 X1 := fun Z => by rw [hX1]; exact Qu.alloc _ _ _
   have he1 : ∀ Z, Ext Z X0 X1 := fun Z => by rw [hX1]; exact Ext.alloc' _ _ _
   have hs1 : X1.heap.size = X0.heap.size + 1 := by rw [hX1]; simp
   have hgb1 : X1.heap[X0.heap.size]? = some (.cells #[.int .i64 kd, .func (.func gf) #[] lb] 43 (0, 0)) := by rw [hX1]; exact World.alloc_heap_new X0 _
   have hsx : G + 1 <= X0.heap.size := by have := hI.kp.size; omega
   have hwl := hI.ex.size;have hlo0 := hL2.bx.lt;have hsplit : (Qe3 n S).take (i + 1) = (Qe3 n S).take i ++ [(kd, xs)] := by rw [List.take_add_one, hg0]; rfl
   have hD1 : (((Qe3 n S).take (i + 1)).flatMap fun g => g.2.map fun l => (g.1, l)) = D0 ++ xs.map (fun l => (kd, l)) := by rw [hsplit, List.flatMap_append, <- hD0]; simp
   have hDl : D0.length + xs.length <= 100000 := by
    refine Nat.le_trans ?_ hlen;have h1 : Qhk n S = (((Qe3 n S).take (i + 1)).flatMap fun g => g.2.map fun l => (g.1, l)) ++ (((Qe3 n S).drop (i + 1)).flatMap fun g => g.2.map fun l => (g.1, l)) := by rw [<- List.flatMap_append, List.take_append_drop]; rfl
    rw [h1, hD1];simp
   rw [<- hX1];clear hX1 q1 q2 hg3;refine Qie rfl rfl (gf := gf) (lb := lb) rfl trivial hgx.en hB1 (hk1 _) (fun b hb => by have := (hB2 b hb).2; omega) rfl
    (fun pre Yi X => Qj2 W.heap.size (G + 1) X0.heap.size kd (.func (.func gf) #[] lb) ds X0.heap.size (D0 ++ pre.map (fun l => (kd, l))) Yi X)
    ⟨fun s Y X X' h hk => h.kept hk, fun s Y X h b hb => (h.yb b hb).2⟩ (fun b => (b = W.heap.size ∨ G + 1 <= b) /\ b < X1.heap.size) (fun b hb hB => by have := hB2 b hB; omega) ⟨⟨L0, vo0, ?_, ?_⟩, fun b hb => hb, hgb1, ⟨.inr hsx, by omega⟩, ?_, ?_⟩
    (fun v => { tmps := #[.int .i64 (n : Int), u1, .slice none 0 0, .int .i64 0, .pointer (some ⟨W.heap.size, 0, none⟩), u5, .pointer (some ⟨X0.heap.size, 0, none⟩), v, u8, u9, u10, u11, u12, u13, u14, u15, u16, u17, u18, u19, u20, u21, u22, u23, u24, u25, u26, u27, u28, u29, u30, u31, u32, u33, u34, u35, u36, .slice (some ⟨G, 0, none⟩) 7 7, .int .i64 7, .int .i64 (i : Int), .bool true, .pointer (some ⟨G, i * 2, none⟩), .agg #[.int .i64 kd, .func (.func gf) #[] lb], .pointer (some ⟨X0.heap.size, 1, none⟩), .func (.func gf) #[] lb, v, u46, u47, u48, u49, u50, u51, u52, u53, u54], defers := [] }) ?assign ?body ?done
   ·rw [hL1]; simp
   ·refine (hL2.kept (hk1 _)).mono fun b hb h => ⟨h, hb⟩
   ·exact hI.ms.kept fun b hb => (hk1 (Mks.blk ds)).block b (hI.ms.lt hb).2.1 hb
   ·exact fun b hb => ⟨.inr (hI.ms.lt hb).1, by have := (hI.ms.lt hb).2.1; omega⟩
   case assign =>
    intro l2 v X K hK
    gi_wp2
    exact hK
   case body =>
    rintro l2 pre c suf v Yi X hxs hsX hR hv hvY;obtain ⟨L, vo, hL3, hL4⟩ := hR.fct;obtain ⟨va, vl, vc, rfl⟩ : ∃ va vl vc, v = .slice va vl vc := by
     rcases hv.2 with ⟨rfl, _⟩ | ⟨g, cap, cur, rfl, _⟩
     ·exact ⟨_, _, _, rfl⟩
     ·exact ⟨_, _, _, rfl⟩
    obtain ⟨U, hU⟩ : ∃ U, U = (Value.slice va vl vc).ownBlock := ⟨_, rfl⟩
    rw [<- hU] at hvY ⊢;have c1 := hL4.bx.cell;have c2 : X.cell? ⟨X0.heap.size, 0, none⟩ = some (.int .i64 kd) := by simp [World.cell?, hR.gh]
    obtain ⟨i0, hi0, z0, z1, z2⟩ := info_parts Qx7;have hLl : L.length + 1 <= 100000 := by
     have h1 := congrArg List.length hL3;simp at h1;have h2 : xs.length = pre.length + (suf.length + 1) := by rw [hxs]; simp
     omega
    have hYs : G + 1 <= X.heap.size := by omega
    have hcn : ∀ (w : World) (j : Nat) (u : Value), (Qa0 (kd, c, Value.slice va vl vc))[j]? = some u -> (w.alloc (.cells #[.int .i64 kd, Value.slice va vl vc, .bool false, .slice none 0 0, .slice none 0 0] 35)).cell? ((⟨w.heap.size, 0, none⟩ : Addr).add j) = some u := fun w j u hj => by
     have h0 := World.alloc_heap_new w (.cells #[.int .i64 kd, Value.slice va vl vc, .bool false, .slice none 0 0, .slice none 0 0] 35);have h1 : (⟨w.heap.size, 0, none⟩ : Addr).add j = ⟨w.heap.size, j, none⟩ := by unfold Addr.add; split <;> simp_all
     rw [h1];unfold World.cell?;rw [h0];simpa [Qa0] using hj
    have hon : ∀ u ∈ Qa0 (kd, c, Value.slice va vl vc), u.oneCell' = true := fun u hu => by unfold Qa0 at hu;simp only [List.mem_cons, List.not_mem_nil, or_false] at hu;rcases hu with rfl | rfl | rfl | rfl | rfl <;> rfl
    have hvb : ∀ b, (Value.slice va vl vc).ownBlock = some b -> G + 1 <= b := fun b hb => by rw [<- hU] at hb; have := (hvY b hb).2; omega
    have hfin : ∀ (v' : Value) (X2 : World), X2.ownsRow (G + 1) 35 5 v' (L.length + 1) (L.flatMap Qa0 ++ Qa0 (kd, c, Value.slice va vl vc)) -> (X.alloc (.cells #[.int .i64 kd, Value.slice va vl vc, .bool false, .slice none 0 0, .slice none 0 0] 35)).grownBy X2 vo.ownBlock -> (v'.ownBlock = vo.ownBlock ∨ v'.ownBlock = some (X.heap.size + 1)) ->
      Qhi (fun pre Yi X => Qj2 W.heap.size (G + 1) X0.heap.size kd (.func (.func gf) #[] lb) ds X0.heap.size (D0 ++ pre.map (fun l => (kd, l))) Yi X) (pre ++ [c]) Yi U X .normal { tmps := #[], defers := [] } (X2.setCell ⟨W.heap.size, 0, none⟩ v') := fun v' X2 r1 r2 r3 => by
     obtain ⟨h5, h6, h7⟩ := hL4.step hv hvb (by omega) rfl r1 r2 (by simpa using r3);have hrow : ∀ b c e f, X.heap[b]? = some (Obj.cells c e f) -> e ≠ 35 -> vo.ownBlock ≠ some b := fun b c e f hb he hv => by
      rcases hL4.row.2 with ⟨rfl, _⟩ | ⟨g, cap, cur', rfl, _, hg', _⟩
      ·cases hv
      ·cases hv;rw [hb] at hg';cases hg';exact he rfl
     have hrow2 : ∀ b c, X.heap[b]? = some (Obj.deferred c) -> vo.ownBlock ≠ some b := fun b c hb hv => by
      rcases hL4.row.2 with ⟨rfl, _⟩ | ⟨g, cap, cur', rfl, _, hg', _⟩
      ·cases hv
      ·cases hv;rw [hb] at hg';cases hg'
     have hxs3 := h6.size;refine ⟨_, ⟨⟨_, _, ?_, h5⟩, fun b hb =>?_, ?_, .inl hR.gy, ?_, fun b hb =>.inl (hR.my b hb)⟩, fun b hb =>?_, h6⟩
     ·rw [List.map_append, hL3]; simp
     ·rcases hb with hb | hb | hb
      ·exact ⟨(hR.yb b hb).1, Nat.lt_of_lt_of_le (hR.yb b hb).2 hxs3⟩
      ·exact ⟨.inr (by omega), hb.2⟩
      ·obtain ⟨cur, hc⟩ := hv.lt hb;exact ⟨.inr (hvb b hb), Nat.lt_of_lt_of_le (Array.getElem?_eq_some_iff.1 hc).1 hxs3⟩
     ·exact (h7 _ (Array.getElem?_eq_some_iff.1 hR.gh).1 (by omega) (hrow _ _ _ _ hR.gh (by decide))).trans hR.gh
     ·exact hR.ms.kept fun b hb => h7 b (hR.yb b (hR.my b hb)).2 (by have := (hR.ms.lt hb).1; omega) (hrow2 _ _ (hR.ms.lt hb).2.2)
     ·rcases hb with hb | hb | hb
      ·exact .inl hb
      ·exact .inr (.inl hb.1)
      ·exact .inr (.inr (hU.trans hb))
    gi_wp2_with (first | (gi_at_builtin; go_loud (refine Qbd _ rfl _ _ 22 rfl (G + 1) 35 i0 zF 5 88 Tryz.underlying22 hi0 z0 z1 z2 rfl (by decide) vo L.length _ rfl (hL4.row.alloc _) ⟨X.heap.size, 0, none⟩ 1 1 (Qa0 (kd, c, Value.slice va vl vc)) rfl rfl (hcn X) hon (by simp only [maxLen]; omega) (by omega) (by simp; omega) ?_; intro v' X2 r1 r2 r3; obtain ⟨g', cap', rfl⟩ := ownsRow_succ r1; have hb2 : Boxed X2 W.heap.size 22 vo := (hL4.bx.alloc _).kept r2 (fun e => by have := (hL4.row.lt _ e.symm).1; omega); have hc2 := hb2.cell; have hf2 := hb2.frozen)) | fail)
    exact hfin _ X2 r1 r2 (by simpa using r3)
   case done =>
    rintro Dm Yi X hD hDY hR hown hDd;obtain ⟨L, vo, hL3, hL4⟩ := hR.fct;have q5 := hown.ext.size
    gi_wp2
    refine ⟨⟨i + 1, { target :=.collected Dm, args := #[] } :: ds, ?_⟩, ?_⟩
    ·(repeat apply Exists.intro)
     refine ⟨⟨by omega, ⟨⟨L, vo, ?_, hL4.mono fun b _ hb => (hR.yb b hb).1⟩, ?_, ?_, ⟨Dm, rfl, (by omega), (Array.getElem?_eq_some_iff.1 hDd).1, hDd, hR.ms.hi (by omega)⟩⟩⟩, rfl⟩
     ·rw [hL3, hD1]
     ·exact (hI.kp.trans (hk1 _)).trans (hown.ext.kept fun b _ hb h => by omega)
     ·exact (hI.ex.trans (he1 _)).trans' hown.ext fun b hb h => by omega
    ·simp [intOf]; omega
  ·have e : i = 7 := by omega
   subst e;obtain ⟨L, vo, hL1, hL2⟩ := hI.fct;have q0 := hL2.bx.cell
   gi_wp2
   show LeavesInM _ _ _ _ _ _ _ _ _;have hmk : ∀ (w' : World), Ext (fun b => Mks.blk ds b) X0 w' -> ∀ (b : Nat) (c : Array Value) (e : TypeId) (f : Nat × Nat), X0.heap[b]? = some (Obj.cells c e f) -> w'.heap[b]? = X0.heap[b]? := fun w' hw b c e f hb => hw.block b (Array.getElem?_eq_some_iff.1 hb).1 fun h => by rw [(hI.ms.lt h).2.2] at hb; cases hb
   refine Qd7 ds _ X0 hI.ms fun w' hw => ⟨_, results_tmp2 rfl _ _ _, vo, rfl, L, G + 1, ?_, ?_, by omega, ?_, ?_⟩
   ·rw [hL1]; rfl
   ·exact ⟨hw.os.trans hI.ex.os, hw.tape.trans hI.ex.tape, hw.output.trans hI.ex.output, Nat.le_trans hI.ex.size hw.size, fun b hb hn => (hw.block b (Nat.lt_of_lt_of_le hb hI.ex.size) (fun hm => by have := (hI.ms.lt hm).1; omega)).trans (hI.ex.block b hb hn)⟩
   ·refine Qg3 hL2.row fun b hb =>?_;rcases hL2.row.2 with ⟨rfl, _⟩ | ⟨g, cap, cur', rfl, _, hg', _⟩
    ·cases hb
    ·cases hb;exact hmk w' hw _ _ _ _ hg'
   ·intro x hx;refine ⟨(hL2.arg x hx).1.kept fun b hb =>?_, fun b hb => ((hL2.arg x hx).2 b hb).2⟩;obtain ⟨cur, hc⟩ := (hL2.arg x hx).1.lt hb;exact hmk w' hw _ _ _ _ hc
theorem Qqf (n : Int) (h : n < 0 ∨ 40 < n) (m : Nat) (W : World) : CallsIn Fence.wide m Tryz.prog 4 #[.int .i64 n] W fun e W' => e = .returned (.tuple #[.slice none 0 0, .int .i64 2]) /\ W' = W := by
 refine callsIn_of_wp_marks Tryz.func4 rfl trivial ?_ rfl;simp only [Tryz.ntmps4, List.size_toArray, List.length_cons, List.length_nil, Nat.reduceAdd, Nat.reduceSub, Array.replicate_succ, Array.replicate_zero, List.push_toArray, List.append_toArray, List.nil_append, List.cons_append];by_cases k1 : n < 0
 ·gi_wp2
  exact ⟨_, results_tmp2 rfl _ _ _, rfl, rfl⟩
 ·have k2 : (40 : Int) < n := by omega
  gi_wp2
  exact ⟨_, results_tmp2 rfl _ _ _, rfl, rfl⟩
theorem Qmk (n : Int) (h1 : 10 < n) (h2 : n <= 40) (m : Nat) (W : World) : CallsIn Fence.wide m Tryz.prog 4 #[.int .i64 n] W fun e W' => e = .returned (.tuple #[.slice none 0 0, .int .i64 4]) /\ W' = W := by
 refine callsIn_of_wp_marks Tryz.func4 rfl trivial ?_ rfl;simp only [Tryz.ntmps4, List.size_toArray, List.length_cons, List.length_nil, Nat.reduceAdd, Nat.reduceSub, Array.replicate_succ, Array.replicate_zero, List.push_toArray, List.append_toArray, List.nil_append, List.cons_append];have k1 : ¬ n < 0 := by omega
 have k2 : ¬ (40 : Int) < n := by omega
 gi_wp2
 exact ⟨_, results_tmp2 rfl _ _ _, rfl, rfl⟩
end Go.Proofs.YtnhofjeojfgfoaaGreat
namespace Go.Proofs.YtnhofjeojfgfoaaGreat
open Go Go.FW Go.RowKit
theorem Qg4 {P : Program} (w : World) (n : Nat) (t e : TypeId) (ht : P.underlying t = some (.array 2 e)) (hs : ∀ w, (sizeOf e).run P w = .ok 1 w) (hp : ∀ (w : World) (xs : Array Value) (off : Nat) (v : Value), xs[off]? = some v -> (part e xs off).run P w = .ok v w) (he : P.underlying e = some (.int .i64)) (a b c d : Int) :
  (Op.equalIn (n + 1 + 1) t (.agg #[.int .i64 a, .int .i64 b]) (.agg #[.int .i64 c, .int .i64 d])).run P w = .ok (decide (a = c) && decide (b = d)) w := by
 have hi : ∀ (w : World) (x y : Int), (Op.equalIn (n + 1) e (.int .i64 x) (.int .i64 y)).run P w = .ok (x == y) w := fun w x y => by simp [Op.equalIn, run_underlying he]
 rw [Op.equalIn];simp only [Sem.run_bind, run_underlying ht, Result.andThen_ok, hs];have h0 : ∀ (w : World) (x y : Value), (part e #[x, y] (0 * 1)).run P w = .ok x w := fun w x y => hp w _ _ _ rfl;have h1 : ∀ (w : World) (x y : Value), (part e #[x, y] (1 * 1)).run P w = .ok y w := fun w x y => hp w _ _ _ rfl;have h2 : ∀ (w : World) (x y : Value), (part e #[x, y] 1).run P w = .ok y w := fun w x y => hp w _ _ _ rfl;simp only [Std.Legacy.Range.forIn_eq_forIn_range', Std.Legacy.Range.size];have er : List.range' 0 ((2 - 0 + 1 - 1) / 1) = [0, 1] := rfl;rw [er];simp only [List.forIn_cons, List.forIn_nil, Sem.run_bind, h0, h1, hi, Result.andThen_ok, Sem.run_ite, Sem.run_pure];by_cases e1 : a = c
 ·subst e1;by_cases e2 : b = d
  ·subst e2;simp [h2, hi]
  ·simp [e2, h2, hi]
 ·simp [e1]
theorem Qte (w : World) (a b c d : Int) : (binOp .eql 62 (.agg #[.int .i64 a, .int .i64 b]) (.agg #[.int .i64 c, .int .i64 d])).run Tryz.prog w = .ok (.bool (decide (a = c) && decide (b = d))) w := by
 obtain ⟨i0, hi0, z0, z1, z2⟩ := info_parts Qjv;have hc : Tryz.prog.cellsOf 3 = 1 := by kernel_rfl
 have h := Qg4 w 9998 _ 3 Tryz.underlying62 (fun w => by rw [run_sizeOf w hi0, hc]) (fun w xs off v h => run_part_plain w (by kernel_rfl) h) Tryz.underlying3 a b c d;rw [run_eql_struct, show (10000 : Nat) = 9998 + 1 + 1 from rfl, h];rfl
end Go.Proofs.YtnhofjeojfgfoaaGreat
namespace Go.FW
open Go Go.RowKit
section
variable {F : Fence} {n : Nat} {P : Program} {ops : Array Oper} {Q : Exit -> Act -> World -> Prop}
variable {N : Nat} {V : Nat -> Value} {Z : List (Nat × Value)} {Wd : (Nat -> Bool) -> World -> Prop} {l : Nat -> Bool} {a : Act} {w w' : World} {i : Nat}
theorem Qbt.cal (h : Qbt ops N V Z Wd l a w) (hpr : ∀ k ∈ afI ops i, l k = true) (hd : F.depth = none) (ha : apI ops N Z i = true) {o : Oper} (ho : ops[i]? = some o) (hg : Region.wanted o (yielded ops a.tmps) = true) {c : Call} (hop : o.op = .call c) {g : FuncId} {x : Operand} {ty : Array TypeId}
  (hc : c = { callee :=.value (.func g), args := #[x], argTypes := ty }) {v : Value} (hx : a.eval x = v) (hFg : F.fn g) (eg : ∀ args w, (callFunc g args).run P w = .ok (.enter g args) w) {R : Ending -> World -> Prop} {m : Nat} (hy : CallsIn F m P g #[v] w R)
  (hR : ∀ e w', R e w' -> e = .returned (V i) /\ Wd (fun k => k == i || l k) w') : wpOpIn F n P ops Q i (Qbt ops N V Z Wd (fun k => k == i || l k)) a w := by
 unfold wpOpIn;rw [ho];simp only [hg, if_true];have hres : (resolve a.eval c o.type).run P w = .ok { target :=.fn (.func g) #[], args := #[v] } w := by subst hc;simp only [resolve, List.map_toArray, List.map_cons, List.map_nil, hx];rfl
 refine ⟨fun f hf =>?_, ?_⟩
 ·simp [Oper.about, hop, hres, Target.leads] at hf;subst hf;exact hFg
 ·have : o.semAt F.round a.eval = execOp a.eval o := by
   cases F.round with
   | none => simp [Oper.semAt]
   | some l => exact Oper.semAt_some l _ _ (by rw [hop]; intro c h; cases h)
  have hrun : (execOp a.eval o).run P w = .ok (.enter g #[v]) w := by simp only [execOp, hop, Sem.run_bind, hres, Result.andThen];simp [go_sem, invoke, eg]
  rw [this, hrun];refine ⟨fun h => (by rw [hd] at h; cases h), (CallsIn.depth0 hd hy).mono fun e w' he =>?_⟩;obtain ⟨rfl, hw⟩ := hR e w' he;exact h.put hpr ha ho hw
end
end Go.FW
