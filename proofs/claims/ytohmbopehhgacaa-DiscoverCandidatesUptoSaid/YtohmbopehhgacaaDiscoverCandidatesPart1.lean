/- Part 1 of the proof of DiscoverCandidates: X1, X10, X11, X12, X13, FwB, FwC, FwD, FwE, FwF, FwG. Own lemmas; no conditions. -/
import Derived.Test.YtohmbopehhgacaaDiscoverCandidatesPart0
import Derived.WalkKit
import Derived.Shelf.Abstract
import Derived.OwnWalk
import Derived.OwnWalkIn
import Derived.TacticsInMore
import Derived.LoopNIn
import Derived.LoopIn
import Derived.Test.YtohmbopehhgacaaProg
import Derived.Laws.EntriesVeiled
import Derived.Orders
import Derived.Laws.StructEq
set_option maxHeartbeats 1000000
set_option linter.unusedSimpArgs false
set_option linter.unusedVariables false
set_option linter.unnecessarySimpa false
set_option maxRecDepth 100000
namespace Go.Proofs.Ytohmbopehhgacaa
open Go Go.FW Go.RowKit Go.Shelf
attribute [local go_sem] Oper.semAt_some
theorem Qd7 (m : Nat) (w : World) (a b c : Int) : CallsIn Fence.wide m Try.prog 9 #[.int .i64 a, .int .i64 b, .int .i64 c] w fun e w' =>
  e = .returned (.func (.func 18) #[] #[.pointer (some ⟨w.heap.size + 1 + 1, 0, none⟩), .pointer (some ⟨w.heap.size, 0, none⟩), .pointer (some ⟨w.heap.size + 1, 0, none⟩)]) /\
  w' = ((w.alloc (.cells #[.int .i64 a] 3)).alloc (.cells #[.int .i64 b] 3)).alloc (.cells #[.int .i64 c] 3) := by
 refine callsIn_of_wp Try.func9 rfl trivial ?_ rfl;simp only [Try.ntmps9, List.size_toArray, List.length_cons, List.length_nil, Nat.reduceAdd, Nat.reduceSub, Array.replicate_succ, Array.replicate_zero, List.push_toArray, List.append_toArray, List.nil_append, List.cons_append]
 gi_wp2
 go_ret
 exact ⟨rfl, rfl⟩
theorem hdd (k : Nat) : Fence.wide.depth.isSome = true -> 1 <= k := fun h => by cases h
def Qa3 (n : Nat) : Nat -> Nat -> List (List Int)
 | 0, _ => [[]]
 | k + 1, a => (List.range' a (n - a)).flatMap fun i => (Qa3 n k (i + 1)).map ((i : Int) :: ·)
theorem Qgw (n : Nat) : ∀ (k a : Nat) (c : List Int), c ∈ Qa3 n k a -> c.length = k
 | 0, _, c, h => by simp [Qa3] at h; subst h; rfl
 | k + 1, a, c, h => by simp only [Qa3, List.mem_flatMap, List.mem_map] at h;obtain ⟨i, _, d, hd, rfl⟩ := h;simp [Qgw n k _ d hd]
theorem Qwx : (Try.prog.info? 3).map (fun i => (i.zero, i.size, i.bytes)) = some (some (.int .i64 0), 1, 8) := by kernel_rfl
theorem Qlv : Try.prog.follows .mixedOrders = true := by kernel_rfl
abbrev eI : TypeId := 3
theorem Qnm (n a bn bf bp : Nat) (w : World) (hn : Boxed w bn eI (.int .i64 0)) : Qfl Fence.wide Try.prog 18 #[.pointer (some ⟨bn, 0, none⟩), .pointer (some ⟨bf, 0, none⟩), .pointer (some ⟨bp, 0, none⟩)] eI (fun b => b = bn ∨ b = bf ∨ b = bp) (Qa3 n 0 a) w := by
 intro m l J Y0 W hW hJ hY0 hY h0;have hbn : Boxed W bn eI (.int .i64 0) := (hW.block bn hn.lt (.inl rfl)).trans hn;have hlb := hbn.lt;refine callsIn_of_wp_marks Try.func18 rfl trivial ?_ rfl;simp only [Try.ntmps18, List.size_toArray, List.length_cons, List.length_nil, Nat.reduceAdd, Nat.reduceSub, Array.replicate_succ, Array.replicate_zero, List.push_toArray, List.append_toArray, List.nil_append, List.cons_append];have hb2 := hbn.alloc (.cells #[.func (.yield l) #[] #[]] 56);have hc := hb2.cell;have hk : Qq Y0 W (W.alloc (.cells #[.func (.yield l) #[] #[]] 56)) := Qq.alloc _ _ _;obtain ⟨fn, tmps, assign, body, hy, hR⟩ := hY (m - 1) [] [] [] (.slice none 0 0) Y0 _ rfl (hJ.kept _ _ _ _ h0 hk) ⟨rfl, .inl ⟨rfl, rfl⟩⟩ (fun b hb => by cases hb)
 gi_wp2_with (refine ⟨hdd _, ?_⟩; refine hR.mono ?_; rintro e W' ⟨rfl, Y', hJ', hO⟩)
 refine ⟨_, results_none rfl _ _ _, ⟨_, rfl⟩, Y', hJ', fun b hb =>?_, ?_⟩
 ·rcases hO.own b hb with h | h | h
  ·exact .inl h
  ·exact .inr (.inl (by simp at h; omega))
  ·cases h
 ·exact (Ext.alloc' Y0 W _).trans hO.ext
structure Qx8 (n k a : Nat) (W : World) (J : List (List Int) -> (Nat -> Prop) -> World -> Prop) (Y0 : Nat -> Prop) (yv : Value) (ba : Nat) (ds : List Deferred) (Y : Nat -> Prop) (i : Nat) (W' : World) : Prop where
 j : J ((List.range' a (i - a)).flatMap fun i => (Qa3 n k (i + 1)).map ((i : Int) :: ·)) Y W'
 o : Qca Y0 none W Y W'
 bx : Boxed W' W.heap.size 56 yv
 nb : ¬ Y W.heap.size
 na : ¬ Y ba
 la : W.heap.size < ba
 ms : Mks W.heap.size ds W'.heap.size W'
 nm : ∀ b, Mks.blk ds b -> ¬ Y b
def Quf : Value -> Nat
 |.pointer (some a) => a.block
 | _ => 0
theorem Qnn (n k a bn bf bp : Nat) (w : World) (hn : Boxed w bn eI (.int .i64 (k + 1 : Nat))) (hf : Boxed w bf eI (.int .i64 (a : Nat))) (hp : Boxed w bp eI (.int .i64 (n : Nat))) (hkn : k < 100) (hnn : n < 100) (han : a < 200)
  (ih : ∀ (a bn bf bp : Nat) (w : World), Boxed w bn eI (.int .i64 (k : Nat)) -> Boxed w bf eI (.int .i64 (a : Nat)) -> Boxed w bp eI (.int .i64 (n : Nat)) -> a < 200 -> Qfl Fence.wide Try.prog 18 #[.pointer (some ⟨bn, 0, none⟩), .pointer (some ⟨bf, 0, none⟩), .pointer (some ⟨bp, 0, none⟩)] eI (fun b => b = bn ∨ b = bf ∨ b = bp) (Qa3 n k a) w) :
  Qfl Fence.wide Try.prog 18 #[.pointer (some ⟨bn, 0, none⟩), .pointer (some ⟨bf, 0, none⟩), .pointer (some ⟨bp, 0, none⟩)] eI (fun b => b = bn ∨ b = bf ∨ b = bp) (Qa3 n (k + 1) a) w := by
 intro m l J Y0 W hW hJ hY0 hY h0;have hbn : Boxed W bn eI (.int .i64 (k + 1 : Nat)) := (hW.block bn hn.lt (.inl rfl)).trans hn;have hbf : Boxed W bf eI (.int .i64 (a : Nat)) := (hW.block bf hf.lt (.inr (.inl rfl))).trans hf;have hbp : Boxed W bp eI (.int .i64 (n : Nat)) := (hW.block bp hp.lt (.inr (.inr rfl))).trans hp;have l1 := hbn.lt;have l2 := hbf.lt;have l3 := hbp.lt;refine callsIn_of_wp_marks Try.func18 rfl trivial ?_ rfl;simp only [Try.ntmps18, List.size_toArray, List.length_cons, List.length_nil, Nat.reduceAdd, Nat.reduceSub, Array.replicate_succ, Array.replicate_zero, List.push_toArray, List.append_toArray, List.nil_append, List.cons_append];have c1 := (hbn.alloc (.cells #[.func (.yield l) #[] #[]] 56)).cell;have c2 := (hbf.alloc (.cells #[.func (.yield l) #[] #[]] 56)).cell;have hk1 : ¬ ((k + 1 : Nat) : Int) = 0 := by omega
 have hlt := hJ.lt _ _ _ h0;obtain ⟨yv, hyv⟩ : ∃ yv, yv = Value.func (.yield l) #[] #[] := ⟨_, rfl⟩
 gi_wp2
 refine wpIn_loop (fun a' W' => ∃ (i ba : Nat) (ds : List Deferred) (Y : Nat -> Prop) (u6 u7 u8 u9 u10 u11 u12 u13 u14 u15 u16 u17 u18 u19 u20 u21 u22 u23 u24 u25 u26 u27 u28 u29 u30 u31 : Value), (a <= i /\ i < 300 /\ (i <= n ∨ i = a) /\ Boxed W' ba eI (.int .i64 (i : Nat)) /\ Qx8 n k a W J Y0 yv ba ds Y i W') /\ a' = ⟨#[.func (.yield l) #[] #[], .pointer (some ⟨bn, 0, none⟩), .pointer (some ⟨bf, 0, none⟩), .pointer (some ⟨bp, 0, none⟩), .pointer (some ⟨W.heap.size, 0, none⟩), .pointer (some ⟨ba, 0, none⟩), u6, u7, u8, u9, u10, u11, u12, u13, u14, u15, u16, u17, u18, u19, u20, u21, u22, u23, u24, u25, u26, u27, u28, u29, u30, u31], ds⟩)
  (fun a' W' => n - (intOf ((W'.cell? ⟨Quf (a'.tmps.getD 5 undef), 0, none⟩).getD undef)).toNat) ?_ ?_
 ·(repeat apply Exists.intro)
  refine ⟨⟨Nat.le_refl _, by omega, .inr rfl, ?_, ?_⟩, rfl⟩
  ·have := Boxed.new (W.alloc (.cells #[yv] 56)) eI (.int .i64 (a : Nat));simp only [World.size_alloc] at this;subst hyv;exact this
  ·subst hyv;refine ⟨?_, ⟨fun b hb =>.inl hb, (Ext.alloc' Y0 W _).trans (Ext.alloc' Y0 _ _)⟩, (Boxed.new W _ _).alloc _, fun h => by have := hlt _ h; omega, fun h => by have := hlt _ h; omega, by omega, trivial, fun _ h => h.elim⟩;rw [Nat.sub_self];exact hJ.kept _ _ _ _ h0 ((Qq.alloc Y0 W _).trans (Qq.alloc Y0 _ _))
 ·rintro a' W' ⟨i, ba, ds, Y, u6, u7, u8, u9, u10, u11, u12, u13, u14, u15, u16, u17, u18, u19, u20, u21, u22, u23, u24, u25, u26, u27, u28, u29, u30, u31, ⟨hi1, hi3, hi2, hba, hI⟩, rfl⟩
  try dsimp only
  have hbn2 : Boxed W' bn eI (.int .i64 (k + 1 : Nat)) := (hI.o.ext.block bn l1 (fun h => hY0 _ h (.inl rfl))).trans hbn;have hbp2 : Boxed W' bp eI (.int .i64 (n : Nat)) := (hI.o.ext.block bp l3 (fun h => hY0 _ h (.inr (.inr rfl)))).trans hbp;have q1 := hbn2.cell;have q2 := hbp2.cell;have q3 := hba.cell
  gi_wp2_with (refine ⟨trivial, hdd _, ?_⟩; refine (Qd7 _ _ _ _ _).mono ?_; rintro e w' ⟨rfl, rfl⟩)
  ·obtain ⟨W2, hW2⟩ : ∃ W2, W2 = ((W'.alloc (.cells #[.int .i64 ((i : Int) + 1)] 3)).alloc (.cells #[.int .i64 (n : Int)] 3)).alloc (.cells #[.int .i64 (k : Int)] 3) := ⟨_, rfl⟩
   have hb3 : Boxed W2 (W'.heap.size + 1 + 1) eI (.int .i64 (k : Nat)) := by have := Boxed.new ((W'.alloc (.cells #[.int .i64 ((i : Int) + 1)] 3)).alloc (.cells #[.int .i64 (n : Int)] 3)) 3 (.int .i64 (k : Int));simp only [World.size_alloc] at this;rw [hW2]; exact this
   have hb4 : Boxed W2 W'.heap.size eI (.int .i64 (i + 1 : Nat)) := by rw [hW2]; exact ((Boxed.new W' 3 _).alloc _).alloc _
   have hb5 : Boxed W2 (W'.heap.size + 1) eI (.int .i64 (n : Nat)) := by have := Boxed.new (W'.alloc (.cells #[.int .i64 ((i : Int) + 1)] 3)) 3 (.int .i64 (n : Int));simp only [World.size_alloc] at this;rw [hW2]; exact this.alloc _
   have hk2 : ∀ Z, Qq Z W' W2 := fun Z => by rw [hW2]; exact ((Qq.alloc Z _ _).trans (Qq.alloc Z _ _)).trans (Qq.alloc Z _ _)
   have he2 : ∀ Z, Ext Z W' W2 := fun Z => by rw [hW2]; exact ((Ext.alloc' Z _ _).trans (Ext.alloc' Z _ _)).trans (Ext.alloc' Z _ _)
   have hs2 : W2.heap.size = W'.heap.size + 3 := by rw [hW2]; simp
   rw [<- hW2];clear hW2;have hYlt := hJ.lt _ _ _ hI.j;obtain ⟨Ob, hOb⟩ : ∃ Ob : Nat -> Prop, ∀ b, Ob b ↔ b = ba ∨ b = W.heap.size ∨ Mks.blk ds b := ⟨_, fun _ => Iff.rfl⟩
   have hba2 : Boxed W2 ba eI (.int .i64 (i : Nat)) := ((hk2 (· = ba)).block _ hba.lt rfl).trans hba;have hby2 : Boxed W2 W.heap.size 56 yv := ((hk2 (· = W.heap.size)).block _ hI.bx.lt rfl).trans hI.bx;have hms2 : Mks W.heap.size ds W'.heap.size W2 := hI.ms.kept fun b hb => (hk2 (Mks.blk ds)).block _ (hI.ms.lt hb).2.1 hb;have hOlt : ∀ b, Ob b -> b < W'.heap.size := fun b hb => by
    rcases (hOb b).1 hb with rfl | rfl | h
    ·exact hba.lt
    ·exact hI.bx.lt
    ·exact (hI.ms.lt h).2.1
   have hOY : ∀ b, Ob b -> ¬ Y b := fun b hb => by
    rcases (hOb b).1 hb with rfl | rfl | h
    ·exact hI.na
    ·exact hI.nb
    ·exact hI.nm b h
   refine Qh3 rfl rfl (gf := 18) (lb := #[.pointer (some ⟨W'.heap.size + 1 + 1, 0, none⟩), .pointer (some ⟨W'.heap.size, 0, none⟩), .pointer (some ⟨W'.heap.size + 1, 0, none⟩)]) rfl trivial (enters_of Try.func18 (by kernel_rfl) rfl)
    (ih (i + 1) _ _ _ W2 hb3 hb4 hb5 (by omega)) (Qq.refl _ _) (fun b hb => by rcases hb with rfl | rfl | rfl <;> omega) rfl
    (fun pre Yi X => ∃ Y1, (∀ b, Yi b ↔ Y1 b ∨ Ob b) /\ (∀ b, Ob b -> ¬ Y1 b) /\ (∀ b, Ob b -> b < X.heap.size) /\ J (((List.range' a (i - a)).flatMap fun i => (Qa3 n k (i + 1)).map ((i : Int) :: ·)) ++ pre.map ((i : Int) :: ·)) Y1 X /\ Boxed X ba eI (.int .i64 (i : Nat)) /\ Boxed X W.heap.size 56 yv /\ Mks W.heap.size ds W'.heap.size X)
    ⟨?_, ?_⟩ (fun b => Y b ∨ Ob b) (fun b hb hB =>?_) ⟨Y, fun _ => Iff.rfl, hOY, fun b hb => (by have := hOlt b hb; omega), ?_, hba2, hby2, hms2⟩
    (fun v => { tmps := #[.func (.yield l) #[] #[], .pointer (some ⟨bn, 0, none⟩), .pointer (some ⟨bf, 0, none⟩), .pointer (some ⟨bp, 0, none⟩), .pointer (some ⟨W.heap.size, 0, none⟩), .pointer (some ⟨ba, 0, none⟩), v, u7, u8, u9, u10, u11, .int .i64 (i : Int), .int .i64 (n : Int), .bool true, u15, u16, .int .i64 (i : Int), .int .i64 ((i : Int) + 1), .int .i64 (n : Int), .int .i64 ((k : Int) + 1), .int .i64 (k : Int), .func (.func 18) #[] #[.pointer (some ⟨W'.heap.size + 1 + 1, 0, none⟩), .pointer (some ⟨W'.heap.size, 0, none⟩), .pointer (some ⟨W'.heap.size + 1, 0, none⟩)], v, u24, u25, u26, u27, u28, u29, u30, u31], defers := [] }) ?assign ?body ?done
   ·rintro s Yi X X' ⟨Y1, h1, h2, h3, h4, h5, h6, h7⟩ hk;have hkO : ∀ b, Ob b -> X'.heap[b]? = X.heap[b]? := fun b hb => hk.block b (h3 b hb) ((h1 b).2 (.inr hb));exact ⟨Y1, h1, h2, fun b hb => Nat.lt_of_lt_of_le (h3 b hb) hk.size, hJ.kept _ _ _ _ h4 (hk.mono fun b _ hb => (h1 b).2 (.inl hb)), (hkO _ ((hOb _).2 (.inl rfl))).trans h5, (hkO _ ((hOb _).2 (.inr (.inl rfl)))).trans h6, h7.kept fun b hb => hkO b ((hOb b).2 (.inr (.inr hb)))⟩
   ·rintro s Yi X ⟨Y1, h1, h2, h3, h4, h5, h6, h7⟩ b hb;rcases (h1 b).1 hb with h | h
    ·exact hJ.lt _ _ _ h4 b h
    ·exact h3 b h
   ·have : b < W'.heap.size := by
     rcases hb with h | h
     ·exact hYlt b h
     ·exact hOlt b h
    rcases hB with rfl | rfl | rfl <;> omega
   ·simp only [List.map_nil, List.append_nil];exact hJ.kept _ _ _ _ hI.j (hk2 _)
   case assign =>
    intro l2 v X K hK
    gi_wp2
    exact hK
   case body =>
    rintro l2 pre c suf v Yi X hxs hsX ⟨Y1, h1, h2, h3, h4, h5, h6, h7⟩ hv hvY;have hcl : c.length = k := Qgw n k (i + 1) c (by rw [hxs]; simp)
    gi_wp2
    rename_i K0 hK0;have hin : i < n := by omega
    have hsplit : Qa3 n (k + 1) a = ((List.range' a (i - a)).flatMap (fun i => (Qa3 n k (i + 1)).map ((i : Int) :: ·)) ++ pre.map ((i : Int) :: ·)) ++ ((i : Int) :: c) :: (suf.map ((i : Int) :: ·) ++ (List.range' (i + 1) (n - i - 1)).flatMap (fun i => (Qa3 n k (i + 1)).map ((i : Int) :: ·))) := by
     have e1 : List.range' a (n - a) = List.range' a (i - a) ++ i :: List.range' (i + 1) (n - i - 1) := by rw [show n - a = (i - a) + (n - i) by omega, <- List.range'_append_1, show a + (i - a) = i by omega, show n - i = (n - i - 1) + 1 by omega, List.range'_succ];simp
     simp only [Qa3];rw [e1, List.flatMap_append, List.flatMap_cons, hxs];simp [List.append_assoc]
    obtain ⟨i0, hi0, z0, z1, z2⟩ := info_parts Qwx;have hX3 : SlI eI (.slice (some ⟨X.heap.size, 0, none⟩) 1 1) [(i : Int)] (X.drew.alloc (.cells #[.int .i64 (i : Int)] eI)) := ⟨rfl, .inr ⟨X.heap.size, 1, _, rfl, Nat.zero_le _, World.alloc_heap_new _ _, Nat.le_refl _, by decide, rfl, rfl⟩⟩
    have hv3 : SlI eI v c (X.drew.alloc (.cells #[.int .i64 (i : Int)] eI)) := hv.kept fun b hb => by obtain ⟨cur, h⟩ := hv.lt hb;exact Below.heap_alloc X.drew _ b (Array.getElem?_eq_some_iff.1 h).1
    obtain ⟨v', W4, hr4, hs4, hg4, hb4⟩ := Qjm (P := Try.prog) (t := 30) (ty := 30) Try.underlying30 hi0 z0 z1 z2 hX3 (by simp) hv3 (by simp; omega);have hgk : Qq Y1 X W4 := ⟨hg4.os, hg4.tape, hg4.output, by have := hg4.size; simp at this; omega, fun b hb hY => (hg4.block b (by simp; omega) (by simp [Value.ownBlock]; omega)).trans (Below.heap_alloc X.drew _ b hb)⟩
    have hge : Ext Qm X W4 := ⟨hg4.os, hg4.tape, hg4.output, by have := hg4.size; simp at this; omega, fun b hb hY => (hg4.block b (by simp; omega) (by simp [Value.ownBlock]; omega)).trans (Below.heap_alloc X.drew _ b hb)⟩
    have hJ4 := hJ.kept _ _ _ _ h4 hgk;have hYl := hJ.lt _ _ _ h4;have hvn : ∀ b, v'.ownBlock = some b -> X.heap.size <= b := fun b hb => by
     rcases hb4 with h | h
     ·rw [h] at hb; simp [Value.ownBlock] at hb; omega
     ·rw [h] at hb; simp at hb; omega
    have hvY4 : ∀ b, v'.ownBlock = some b -> ¬ Y1 b /\ W.heap.size <= b := fun b hb => ⟨fun hY => (by have := hYl b hY; have := hvn b hb; omega), (by have := hvn b hb; have := hI.o.ext.size; omega)⟩
    refine Qfm Qlv 32 (fun j => match j with | 0 => yv | 1 =>.int .i64 (i : Int) | 2 =>.slice (some ⟨X.heap.size, 0, none⟩) 1 1 | 3 => v | 4 => v' | 5 =>.bool true | 6 =>.bool false | _ => undef) [(4, .pointer (some ⟨W.heap.size, 0, none⟩)), (5, .pointer (some ⟨ba, 0, none⟩)), (6, v)]
     (fun q w => (q 5 = true /\ ∃ Y', J (((List.range' a (i - a)).flatMap (fun i => (Qa3 n k (i + 1)).map ((i : Int) :: ·)) ++ pre.map ((i : Int) :: ·)) ++ [(i : Int) :: c]) Y' w /\ Qca Y1 v'.ownBlock W4 Y' w) ∨ (q 5 = false /\ ((q 4 = true /\ w = W4) ∨ (q 4 = false /\ q 2 = true /\ w = X.drew.alloc (.cells #[.int .i64 (i : Int)] eI)) ∨ (q 4 = false /\ q 2 = false /\ w = X.drew)))) (by decide) ?_ ?_ ?_
    ·exact ⟨rfl, rfl, by simp, fun _ _ _ h => (by cases h), fun _ h => (by cases h), .inr ⟨rfl, .inr (.inr ⟨rfl, rfl, rfl⟩)⟩⟩
    ·intro q j hj hq hpr a3 w3 hT;have c5 : q 5 = true -> q 0 = true /\ q 4 = true := fun h => ⟨hT.cl 5 h 0 (by decide), hT.cl 5 h 4 (by decide)⟩
     have c4 : q 4 = true -> q 2 = true /\ q 3 = true := fun h => ⟨hT.cl 4 h 2 (by decide), hT.cl 4 h 3 (by decide)⟩
     have c2 : q 2 = true -> q 1 = true := fun h => hT.cl 2 h 1 (by decide);have f4 := hT.fixed (4, .pointer (some ⟨W.heap.size, 0, none⟩)) (by simp);have f5 := hT.fixed (5, .pointer (some ⟨ba, 0, none⟩)) (by simp);have f6 := hT.fixed (6, v) (by simp);have g1 : q 1 = true -> a3.tmps[25]?.getD undef = .int .i64 (i : Int) := fun h => hT.slot 1 _ 25 h rfl rfl;have g2 : q 2 = true -> a3.tmps[26]?.getD undef = .slice (some ⟨X.heap.size, 0, none⟩) 1 1 := fun h => hT.slot 2 _ 26 h rfl rfl;have g3 : q 3 = true -> a3.tmps[27]?.getD undef = v := fun h => hT.slot 3 _ 27 h rfl rfl;have g0 : q 0 = true -> a3.tmps[24]?.getD undef = yv := fun h => hT.slot 0 _ 24 h rfl rfl;have g4 : q 4 = true -> a3.tmps[28]?.getD undef = v' := fun h => hT.slot 4 _ 28 h rfl rfl;have g5 : q 5 = true -> a3.tmps[29]?.getD undef = .bool true := fun h => hT.slot 5 _ 29 h rfl rfl;have hw5 : q 5 = false -> w3.cell? ⟨W.heap.size, 0, none⟩ = some yv /\ w3.cell? ⟨ba, 0, none⟩ = some (.int .i64 (i : Int)) := fun h => by
      rcases hT.wd with ⟨h', _⟩ | ⟨_, hw⟩
      ·rw [h] at h'; cases h'
      ·have b1 : Boxed X.drew W.heap.size 56 yv := h6;have b2 : Boxed X.drew ba eI (.int .i64 (i : Nat)) := h5;rcases hw with ⟨_, rfl⟩ | ⟨_, _, rfl⟩ | ⟨_, _, rfl⟩
       ·exact ⟨((b1.alloc _).kept hg4 (by simp [Value.ownBlock]; have := h6.lt; omega)).cell, ((b2.alloc _).kept hg4 (by simp [Value.ownBlock]; have := h5.lt; omega)).cell⟩
       ·exact ⟨(b1.alloc _).cell, (b2.alloc _).cell⟩
       ·exact ⟨b1.cell, b2.cell⟩
     match j, hj with
     | 0, _ =>
      have e5 : q 5 = false := by cases h : q 5 with | true => rw [(c5 h).1] at hq; cases hq | false => rfl
      have ce := (hw5 e5).1;refine hT.val (w' := w3) hpr (by rfl) rfl rfl rfl (fun c h => by cases h) ?_ ?_
      ·have : a3.tmps[4]?.getD undef = .pointer (some ⟨W.heap.size, 0, none⟩) := f4;simp [execOp, go_sem, this, ce]
      ·simpa using hT.wd
     | 1, _ =>
      have e2 : q 2 = false := by cases h : q 2 with | true => rw [c2 h] at hq; cases hq | false => rfl
      have e4 : q 4 = false := by cases h : q 4 with | true => rw [(c4 h).1] at e2; cases e2 | false => rfl
      have e5 : q 5 = false := by cases h : q 5 with | true => rw [(c5 h).2] at e4; cases e4 | false => rfl
      have ce := (hw5 e5).2;refine hT.val (w' := w3) hpr (by rfl) rfl rfl rfl (fun c h => by cases h) ?_ ?_
      ·have : a3.tmps[5]?.getD undef = .pointer (some ⟨ba, 0, none⟩) := f5;simp [execOp, go_sem, this, ce]
      ·simpa using hT.wd
     | 2, _ =>
      have e4 : q 4 = false := by cases h : q 4 with | true => rw [(c4 h).1] at hq; cases hq | false => rfl
      have e5 : q 5 = false := by cases h : q 5 with | true => rw [(c5 h).2] at e4; cases e4 | false => rfl
      have hw : w3 = X.drew := by
       rcases hT.wd with ⟨h', _⟩ | ⟨_, ⟨h', _⟩ | ⟨_, h', _⟩ | ⟨_, _, h'⟩⟩
       ·rw [e5] at h'; cases h'
       ·rw [e4] at h'; cases h'
       ·rw [hq] at h'; cases h'
       ·exact h'
      subst hw;refine hT.val (w' := X.drew.alloc (.cells #[.int .i64 (i : Int)] eI)) hpr (by rfl) rfl rfl rfl (fun c h => by cases h) ?_ ?_
      ·have : a3.tmps[25]?.getD undef = .int .i64 (i : Int) := g1 (hpr 1 (by decide));simp [execOp, go_sem, this]
      ·exact .inr ⟨by simp [e5], .inr (.inl ⟨by simp [e4], by simp, rfl⟩)⟩
     | 3, _ =>
      refine hT.val (w' := w3) hpr (by rfl) rfl rfl rfl (fun c h => by cases h) ?_ ?_
      ·have : a3.tmps[6]?.getD undef = v := f6;simp [execOp, go_sem, this]
      ·simpa using hT.wd
     | 4, _ =>
      have e5 : q 5 = false := by cases h : q 5 with | true => rw [(c5 h).2] at hq; cases hq | false => rfl
      have q2 := hpr 2 (by decide);have hw : w3 = X.drew.alloc (.cells #[.int .i64 (i : Int)] eI) := by
       rcases hT.wd with ⟨h', _⟩ | ⟨_, ⟨h', _⟩ | ⟨_, _, h'⟩ | ⟨_, h', _⟩⟩
       ·rw [e5] at h'; cases h'
       ·rw [hq] at h'; cases h'
       ·exact h'
       ·rw [q2] at h'; cases h'
      subst hw;have x1 : a3.eval (.tmp 26) = .slice (some ⟨X.heap.size, 0, none⟩) 1 1 := by rw [<- g2 q2]; simp [Act.eval]
      have x2 : a3.eval (.tmp 27) = v := by rw [<- g3 (hpr 3 (by decide))]; simp [Act.eval]
      exact hT.app hpr (by rfl) rfl rfl rfl x1 x2 hr4 (.inr ⟨by simp [e5], .inl ⟨by simp, rfl⟩⟩)
     | 5, _ =>
      have q4 := hpr 4 (by decide);have hw : w3 = W4 := by
       rcases hT.wd with ⟨h', _⟩ | ⟨_, ⟨_, h'⟩ | ⟨h', _⟩ | ⟨h', _⟩⟩
       ·rw [hq] at h'; cases h'
       ·exact h'
       ·rw [q4] at h'; cases h'
       ·rw [q4] at h'; cases h'
      subst hw;have x1 : a3.eval (.tmp 24) = .func (.yield l) #[] #[] := by rw [<- hyv, <- g0 (hpr 0 (by decide))]; simp [Act.eval]
      have x2 : a3.eval (.tmp 28) = v' := by rw [<- g4 q4]; simp [Act.eval]
      refine hT.yld hpr rfl (by rfl) rfl rfl rfl rfl x1 x2 (hY 0 _ _ _ v' Y1 w3 hsplit hJ4 hs4 hvY4) fun e w' he =>?_;exact ⟨he.1, .inl ⟨by simp, he.2⟩⟩
     | 6, _ =>
      refine hT.val (w' := w3) hpr (by rfl) rfl rfl rfl (fun c h => by cases h) ?_ ?_
      ·have : a3.tmps[29]?.getD undef = .bool true := g5 (hpr 5 (by decide));simp [execOp, go_sem, this]
      ·simpa using hT.wd
     | j + 7, hj => exact absurd hj (by simp)
    ·intro q a3 w3 hq hT;obtain ⟨Y', hj', ho'⟩ := hT.wd.elim (fun h => h.2) (fun h => by rw [hq 5 (by decide)] at h; cases h.1);have g6 : a3.tmps[30]?.getD undef = .bool false := hT.slot 6 _ 30 (hq 6 (by decide)) rfl rfl;refine hK0 a3 w3 (wpIn_cond_false (show a3.eval (.tmp 30) = .bool false by simp [Act.eval, g6]) (wpIn_skip ?_));have hs4 : X.heap.size <= W4.heap.size := hge.size;have hall : ∀ b, Ob b -> w3.heap[b]? = X.heap[b]? := fun b hb => (ho'.ext.block b (Nat.lt_of_lt_of_le (h3 b hb) hs4) (h2 b hb)).trans (hge.block b (h3 b hb) id);have hY' : ∀ b, Y' b -> Y1 b ∨ X.heap.size <= b := fun b hb => by
      rcases ho'.own b hb with h | h | h
      ·exact .inl h
      ·exact .inr (by omega)
      ·exact .inr (hvn b h)
     refine ⟨fun b => Y' b ∨ Ob b, ⟨Y', fun _ => Iff.rfl, fun b hb h =>?_, fun b hb => (by have := h3 b hb; have := ho'.ext.size; omega), ?_, (hall _ ((hOb _).2 (.inl rfl))).trans h5, (hall _ ((hOb _).2 (.inr (.inl rfl)))).trans h6, h7.kept fun b hb => hall b ((hOb b).2 (.inr (.inr hb)))⟩, ⟨fun b hb =>?_, ?_⟩⟩
     ·rcases hY' b h with h | h
      ·exact h2 b hb h
      ·have := h3 b hb; omega
     ·rw [List.map_append, <- List.append_assoc];exact hj'
     ·rcases hb with h | h
      ·rcases hY' b h with h | h
       ·exact .inl ((h1 b).2 (.inl h))
       ·exact .inr (.inl h)
      ·exact .inl ((h1 b).2 (.inr h))
     ·exact (hge.mono fun _ _ h => h.elim).trans (ho'.ext.mono fun b _ h => (h1 b).2 (.inl h))
   case done =>
    rintro D Yi X hD hDY ⟨Y1, h1, h2, h3, h4, h5, h6, h7⟩ hown hDd;have q4 := h5.cell;have q5 := hown.ext.size
    gi_wp2
    have hYlt1 := hJ.lt _ _ _ h4;have hOX : ∀ b, Ob b -> b < X.heap.size := h3;have hin : i < n := by omega
    refine ⟨⟨i + 1, X.heap.size, { target :=.collected D, args := #[] } :: ds, Y1, ?_⟩, ?_⟩
    ·(repeat apply Exists.intro)
     refine ⟨⟨by omega, by omega, .inl (by omega), Boxed.new X _ _, ⟨?_, ⟨fun b hb =>?_, ?_⟩, h6.alloc _, h2 _ ((hOb _).2 (.inr (.inl rfl))), fun h => (by have := hYlt1 _ h; omega), (by have := hI.o.ext.size; omega), ⟨D, rfl, (by have := hI.o.ext.size; omega), (by simp; have := (Array.getElem?_eq_some_iff.1 hDd).1; omega), ?_, ?_⟩, ?_⟩⟩, rfl⟩
     ·have e1 : i + 1 - a = (i - a) + 1 := by omega
      rw [e1, List.range'_1_concat, List.flatMap_append, show a + (i - a) = i by omega];simp only [List.flatMap_cons, List.flatMap_nil, List.append_nil];exact hJ.kept _ _ _ _ h4 (Qq.alloc _ _ _)
     ·rcases hown.own b ((h1 b).2 (.inl hb)) with (h | h) | h | h
      ·exact hI.o.own b h
      ·exact absurd hb (h2 b h)
      ·have := hI.o.ext.size;exact .inr (.inl (by omega))
      ·cases h
     ·refine ((hI.o.ext.trans (he2 _)).trans' hown.ext fun b hb h =>?_).trans (Ext.alloc' _ _ _);rcases h with h | h
      ·rcases hI.o.own b h with h | h | h
       ·exact h
       ·omega
       ·cases h
      ·rcases (hOb b).1 h with rfl | rfl | h
       ·have := hI.la; omega
       ·omega
       ·have := (hI.ms.lt h).1; omega
     ·exact (Below.heap_alloc X _ D (Array.getElem?_eq_some_iff.1 hDd).1).trans hDd
     ·exact (h7.kept fun b hb => Below.heap_alloc X _ b (hOX b ((hOb b).2 (.inr (.inr hb))))).hi (by omega)
     ·rintro b (hb | hb)
      ·cases hb; exact fun h => hDY ((h1 D).2 (.inl h))
      ·exact h2 b ((hOb b).2 (.inr (.inr hb)))
    ·have c1 := (Boxed.new X 3 (.int .i64 ((i : Int) + 1))).cell;simp only [Array.getD_eq_getD_getElem?, List.getElem?_toArray, List.getElem?_cons_succ, List.getElem?_cons_zero, Option.getD_some, Quf];rw [c1, q3];simp only [Option.getD_some, intOf];omega
  ·show LeavesInM _ _ _ _ _ _ _ _ _;refine Qea ds _ W' hI.ms fun w' hw => ⟨_, results_none rfl _ _ _, ⟨_, rfl⟩, Y, ?_, hI.o.own, ?_⟩
   ·have hni : i - a = n - a := by omega
    have h3 := hI.j;rw [hni] at h3;exact hJ.kept _ _ _ _ h3 (hw.kept fun b _ hb hm => hI.nm b hm hb)
   ·exact ⟨hw.os.trans hI.o.ext.os, hw.tape.trans hI.o.ext.tape, hw.output.trans hI.o.ext.output, Nat.le_trans hI.o.ext.size hw.size, fun b hb hn => (hw.block b (Nat.lt_of_lt_of_le hb hI.o.ext.size) (fun hm => by have := (hI.ms.lt hm).1; omega)).trans (hI.o.ext.block b hb hn)⟩
theorem Qgx (n : Nat) (hnn : n < 100) : ∀ (k a bn bf bp : Nat) (w : World), k < 100 -> Boxed w bn eI (.int .i64 (k : Nat)) -> Boxed w bf eI (.int .i64 (a : Nat)) -> Boxed w bp eI (.int .i64 (n : Nat)) -> a < 200 ->
  Qfl Fence.wide Try.prog 18 #[.pointer (some ⟨bn, 0, none⟩), .pointer (some ⟨bf, 0, none⟩), .pointer (some ⟨bp, 0, none⟩)] eI (fun b => b = bn ∨ b = bf ∨ b = bp) (Qa3 n k a) w
 | 0, a, bn, bf, bp, w, _, hn, _, _, _ => Qnm n a bn bf bp w hn
 | k + 1, a, bn, bf, bp, w, hk, hn, hf, hp, ha => Qnn n k a bn bf bp w hn hf hp (by omega) hnn ha fun a bn bf bp w h1 h2 h3 h4 => Qgx n hnn k a bn bf bp w (by omega) h1 h2 h3 h4
def Qc7 (s t : Int × Int) : Bool := decide (¬ s.1 = t.1) && decide (¬ s.1 = t.2) && decide (¬ s.2 = t.1) && decide (¬ s.2 = t.2)
def Qc8 (s t : Int × Int) : Bool := decide (¬ s.1 = t.1) || decide (¬ s.2 = t.2)
def Qax (t : Int × Int -> Int × Int -> Bool) : List (Int × Int) -> List (List Int)
 | [] => []
 | s :: S => (S.filter (t s)).map (fun x => [s.1, s.2, x.1, x.2]) ++ Qax t S
end Go.Proofs.Ytohmbopehhgacaa
namespace Go.Proofs.Ytohmbopehhgacaa
open Go Go.FW Go.RowKit Go.Shelf
attribute [local go_sem] Oper.semAt_some
def Qfn (S : List (Int × Int)) (b off : Nat) (W : World) : Prop := ∀ i (h : i < S.length), W.cell? ⟨b, off + i * 2, none⟩ = some (.int .i64 S[i].1) /\ W.cell? ⟨b, off + i * 2 + 1, none⟩ = some (.int .i64 S[i].2)
theorem Qfn.kept {S : List (Int × Int)} {b off : Nat} {W W' : World} (h : Qfn S b off W) (hk : W'.heap[b]? = W.heap[b]?) : Qfn S b off W' := fun i hi =>
 ⟨(World.cell?_of_block (w := W) (a := ⟨b, _, none⟩) hk).trans (h i hi).1, (World.cell?_of_block (w := W) (a := ⟨b, _, none⟩) hk).trans (h i hi).2⟩
set_option maxHeartbeats 4000000 in
theorem Qlw (tst : Int × Int -> Int × Int -> Bool) (S : List (Int × Int)) (hsl : S.length <= 400) (n : Nat)
  (hsg : ∀ (m : Nat) (w : World), CallsIn Fence.wide m Try.prog 20 #[.int .i64 (n : Nat)] w fun e w' => ∃ a cap, e = .returned (.slice a S.length cap) /\ Ext Qm w w' /\
   ∀ i (h : i < S.length), ∃ b off, a = some ⟨b, off, none⟩ /\ b < w'.heap.size /\ w.heap.size <= b /\ S.length <= cap /\ w'.cell? ⟨b, off + i * 2, none⟩ = some (.int .i64 S[i].1) /\ w'.cell? ⟨b, off + i * 2 + 1, none⟩ = some (.int .i64 S[i].2))
  (htc : ∀ (m : Nat) (s1 s2 t1 t2 : Int) (w : World), CallsIn Fence.wide m Try.prog 11 #[.agg #[.int .i64 s1, .int .i64 s2], .agg #[.int .i64 t1, .int .i64 t2]] w fun e w' => e = .returned (.bool (tst (s1, s2) (t1, t2))) /\ Ext Qm w w')
  (bp bt : Nat) (w : World) (hp : Boxed w bp eI (.int .i64 (n : Nat))) (ht : Boxed w bt 44 (.func (.func 11) #[] #[])) :
  Qfl Fence.wide Try.prog 19 #[.pointer (some ⟨bp, 0, none⟩), .pointer (some ⟨bt, 0, none⟩)] eI (fun b => b = bp ∨ b = bt) (Qax tst S) w := by
 intro m l J Y0 W hW hJ hY0 hY h0;have hbp : Boxed W bp eI (.int .i64 (n : Nat)) := (hW.block bp hp.lt (.inl rfl)).trans hp;have hbt : Boxed W bt 44 (.func (.func 11) #[] #[]) := (hW.block bt ht.lt (.inr rfl)).trans ht;have l1 := hbp.lt;have l2 := hbt.lt;have hlt := hJ.lt _ _ _ h0;have hdec : S.length = 0 ∨ 0 < S.length := by omega
 refine callsIn_of_wp Try.func19 rfl trivial ?_ rfl;simp only [Try.ntmps19, List.size_toArray, List.length_cons, List.length_nil, Nat.reduceAdd, Nat.reduceSub, Array.replicate_succ, Array.replicate_zero, List.push_toArray, List.append_toArray, List.nil_append, List.cons_append];have c1 := hbp.cell
 gi_wp2_with (refine ⟨trivial, hdd _, ?_⟩; refine (hsg _ _).mono ?_; rintro e W1 ⟨ad, cap, rfl, hE, hcl⟩)
 have hW1 := hE.size;have hJ1 : J [] Y0 W1 := hJ.kept _ _ _ _ h0 (hE.kept fun _ _ _ h => h);have hE0 : Ext Y0 W W1 := hE.mono fun _ _ h => h.elim;have hO1 : Qca Y0 none W Y0 W1 := ⟨fun b hb =>.inl hb, hE0⟩
 rcases hdec with hS | hS
 ·gi_loopw [13] (fun v wr => v = .int .i64 0 /\ wr = W1) (fun _ _ => 0)
  case atStart => exact ⟨rfl, rfl⟩
  case round =>
   obtain ⟨rfl, rfl⟩ := hrel
   gi_wp2
   go_end0
   have : S = [] := List.length_eq_zero_iff.1 hS;subst this;exact ⟨⟨_, rfl⟩, Y0, hJ1, hO1⟩
 obtain ⟨b, off, rfl, hb, hbW, hcap, _⟩ := hcl 0 hS;have hsa : Qfn S b off W1 := fun i hi => by obtain ⟨b', off', e, _, _, _, h1, h2⟩ := hcl i hi;cases e;exact ⟨h1, h2⟩
 clear hcl
 gi_loopw [13] (fun v wr => ∃ (i : Nat) (X : List (List Int)) (Y : Nat -> Prop), v = .int .i64 (i : Nat) /\ i <= S.length /\ X ++ Qax tst (S.drop i) = Qax tst S /\ J X Y wr /\ Qca Y0 none W Y wr /\ ∀ c, W.heap.size <= c -> c < W1.heap.size -> ¬ Y c /\ wr.heap[c]? = W1.heap[c]?) (fun v _ => S.length - (intOf v).toNat)
 case atStart => exact ⟨0, [], Y0, rfl, by omega, rfl, hJ1, hO1, fun c h1 h2 => ⟨fun h => by have := hlt c h; omega, rfl⟩⟩
 case round =>
  obtain ⟨i, X, Y, rfl, hi, hX, hj, ho, hk⟩ := hrel;obtain ⟨wo, hwo⟩ : ∃ wo, wo = wr := ⟨_, rfl⟩
  subst hwo;have hbk := hk b hbW hb;have hsr := hsa.kept hbk.2;have hwl := ho.ext.size;by_cases hiS : i < S.length
  ·obtain ⟨q1, q2⟩ := hsr i hiS;have hd := List.drop_eq_getElem_cons hiS;generalize hs : S[i] = s at *
   obtain ⟨s1, s2⟩ := s;have k1 : (i : Int) < (S.length : Int) := by omega
   have k2 : (0 : Int) <= (i : Int) := by omega
   have k3 : ((i : Int) + 1 <= (S.length : Int)) := by omega
   have k4 : ((S.length : Int) <= (cap : Int)) := by omega
   have hT : X ++ (((S.drop (i + 1 + 0)).filter (tst (s1, s2))).map (fun x => [s1, s2, x.1, x.2]) ++ Qax tst (S.drop (i + 1))) = Qax tst S := by rw [<- hX, hd]; rfl
   obtain ⟨wr2, hwr2⟩ : ∃ wr2, wr2 = wo.alloc (.cells #[.int .i64 s1, .int .i64 s2] 47) := ⟨_, rfl⟩
   have hb6 : wr2.heap[wo.heap.size]? = some (.cells #[.int .i64 s1, .int .i64 s2] 47 (0, 0)) := by rw [hwr2]; exact World.alloc_heap_new wo _
   have hj2 : J X Y wr2 := by rw [hwr2]; exact hJ.kept _ _ _ _ hj (Qq.alloc _ _ _)
   have ho2 : Qca Y0 none W Y wr2 := by rw [hwr2]; exact ⟨ho.own, ho.ext.trans (Ext.alloc' _ _ _)⟩
   have hYl := hJ.lt _ _ _ hj;have hs2 : wr2.heap.size = wo.heap.size + 1 := by rw [hwr2]; simp
   have hk2 : ∀ c, (W.heap.size <= c /\ c < W1.heap.size) ∨ c = wo.heap.size -> ¬ Y c := fun c hc => by
    rcases hc with ⟨h1, h2⟩ | rfl
    ·exact (hk c h1 h2).1
    ·exact fun h => Nat.lt_irrefl _ (hYl _ h)
   have hW1r : W1.heap.size <= wo.heap.size := by
    have h1 := (hk b hbW hb).2;rcases Nat.lt_or_ge (W1.heap.size - 1) wo.heap.size with h | h
    ·omega
    ·have h2 := (hk (W1.heap.size - 1) (by omega) (by omega)).2;rw [Array.getElem?_eq_none h] at h2;rw [Array.getElem?_eq_getElem (by omega)] at h2;cases h2
   have hsr2 : Qfn S b off wr2 := hsr.kept (by rw [hwr2]; exact Below.heap_alloc wo _ b (by omega));have hk1 : ∀ c, W.heap.size <= c -> c < W1.heap.size -> wr2.heap[c]? = W1.heap[c]? := fun c h1 h2 => by rw [hwr2]; exact (Below.heap_alloc wo _ c (by omega)).trans (hk c h1 h2).2
   gi_wp2
   ·rw [<- hwr2];clear hwr2;have hlen0 : S.length = i + 1 := by omega
    have hcap1 : cap = i + 1 := by omega
    subst hcap1
    gi_loopw [23] (fun v wq => v = .int .i64 0 /\ wq = wr2) (fun _ _ => 0)
    case atStart => exact ⟨rfl, rfl⟩
    case round =>
     obtain ⟨rfl, rfl⟩ := hrel;have e0 : S.length - (i + 1) = 0 := by omega
     have hd0 : S.drop (i + 1) = [] := List.drop_eq_nil_of_le (by omega)
     gi_wp2
     refine ⟨⟨i + 1, X, Y, rfl, by omega, ?_, hj2, ho2, fun c h1 h2 => ⟨hk2 c (.inl ⟨h1, h2⟩), hk1 c h1 h2⟩⟩, ?_⟩
     ·rw [<- hX, hd, Qax, hd0];simp [Qax]
     ·simp [intOf]; omega
   ·rw [<- hwr2];clear hwr2
    gi_loopw [23] (fun v wq => ∃ (j : Nat) (X' : List (List Int)) (Y' : Nat -> Prop), v = .int .i64 (j : Nat) /\ i + 1 + j <= S.length /\ X' ++ (((S.drop (i + 1 + j)).filter (tst (s1, s2))).map (fun x => [s1, s2, x.1, x.2]) ++ Qax tst (S.drop (i + 1))) = Qax tst S /\ J X' Y' wq /\ Qca Y0 none W Y' wq /\ (∀ c, (W.heap.size <= c /\ c < W1.heap.size) ∨ c = wo.heap.size -> ¬ Y' c /\ wq.heap[c]? = wr2.heap[c]?) /\ wr2.heap.size <= wq.heap.size) (fun v _ => S.length - (i + 1) - (intOf v).toNat)
    case atStart => exact ⟨0, X, Y, rfl, by omega, hT, hj2, ho2, fun c hc => ⟨hk2 c hc, rfl⟩, Nat.le_refl _⟩
    case round =>
     obtain ⟨j, X', Y', rfl, hjl, hX', hj', ho', hk', hsz'⟩ := hrel;obtain ⟨wq, hwq⟩ : ∃ wq, wq = wr := ⟨_, rfl⟩
     subst hwq;have hYl' := hJ.lt _ _ _ hj';have hwl' := ho'.ext.size;by_cases hjS : i + 1 + j < S.length
     ·have hd' := List.drop_eq_getElem_cons hjS;obtain ⟨x1, x2⟩ := (hsr2.kept (hk' b (.inl ⟨hbW, hb⟩)).2) (i + 1 + j) hjS;generalize ht' : S[i + 1 + j] = t at *
      obtain ⟨t1, t2⟩ := t;have w1 : wq.cell? ⟨b, off + (i + 1) * 2 + j * 2, none⟩ = some (.int .i64 t1) := by rw [show off + (i + 1) * 2 + j * 2 = off + (i + 1 + j) * 2 by omega]; exact x1
      have w2 : wq.cell? ⟨b, off + (i + 1) * 2 + j * 2 + 1, none⟩ = some (.int .i64 t2) := by rw [show off + (i + 1) * 2 + j * 2 + 1 = off + (i + 1 + j) * 2 + 1 by omega]; exact x2
      clear x1 x2;have hb6q : wq.heap[wo.heap.size]? = some (.cells #[.int .i64 s1, .int .i64 s2] 47 (0, 0)) := (hk' _ (.inr rfl)).2.trans hb6;have hbtq : Boxed wq bt 44 (.func (.func 11) #[] #[]) := (ho'.ext.block bt l2 (fun h => hY0 _ h (.inr rfl))).trans hbt;have p1 : (j : Int) < ((S.length - (i + 1) : Nat) : Int) := by omega
      have p2 : (0 : Int) <= (j : Int) := by omega
      obtain ⟨wa, hwa⟩ : ∃ wa, wa = wq.alloc (.cells #[.int .i64 t1, .int .i64 t2] 47) := ⟨_, rfl⟩
      have hs8 : wa.heap.size = wq.heap.size + 1 := by rw [hwa]; simp
      have hb8 : wa.heap[wq.heap.size]? = some (.cells #[.int .i64 t1, .int .i64 t2] 47 (0, 0)) := by rw [hwa]; exact World.alloc_heap_new wq _
      have ha6 : wa.heap[wo.heap.size]? = some (.cells #[.int .i64 s1, .int .i64 s2] 47 (0, 0)) := by rw [hwa]; exact (Below.heap_alloc wq _ _ (by omega)).trans hb6q
      have hat : Boxed wa bt 44 (.func (.func 11) #[] #[]) := by rw [hwa]; exact hbtq.alloc _
      have cc : ∀ {w : World} {b : Nat} {u v : Value} {t : TypeId}, w.heap[b]? = some (.cells #[u, v] t (0, 0)) -> w.cell? ⟨b, 0, none⟩ = some u /\ w.cell? ⟨b, 1, none⟩ = some v := fun h => ⟨by simp [World.cell?, h], by simp [World.cell?, h]⟩
      obtain ⟨z1, z2⟩ := cc hb8;obtain ⟨z3, z4⟩ := cc ha6;have z5 := hat.cell;have hba : ∀ Z, Ext Z wq wa := fun Z => by rw [hwa]; exact Ext.alloc' _ _ _
      have hbk' : ∀ Z, Qq Z wq wa := fun Z => by rw [hwa]; exact Qq.alloc _ _ _
      cases htst : tst (s1, s2) (t1, t2)
      ·have hX2 : X' ++ (((S.drop (i + 1 + (j + 1))).filter (tst (s1, s2))).map (fun x => [s1, s2, x.1, x.2]) ++ Qax tst (S.drop (i + 1))) = Qax tst S := by rw [<- hX', hd', List.filter_cons_of_neg (by rw [htst]; exact Bool.false_ne_true)]; rfl
       simp only [hwa] at z1 z2 z3 z4 z5
       gi_wp2_with (first | (refine ⟨trivial, hdd _, ?_⟩; rw [<- hwa]; refine (htc _ _ _ _ _ _).mono ?_; rw [htst]; rintro e w3 ⟨rfl, hE3⟩) | fail)
       refine ⟨fun _ h => (by cases h), ?_⟩
       gi_wp2
       go_roundw
       case rel => exact ⟨j + 1, X', Y', rfl, by omega, hX2, hJ.kept _ _ _ _ hj' ((hbk' _).trans (hE3.kept fun _ _ _ h => h)), ⟨ho'.own, (ho'.ext.trans (hba _)).trans (hE3.mono fun _ _ h => h.elim)⟩, fun c hc => ⟨(hk' c hc).1, (hE3.block c (by rcases hc with h | h <;> omega) id).trans (((hba Qm).block c (by rcases hc with h | h <;> omega) id).trans (hk' c hc).2)⟩, by have := hE3.size; omega⟩
       case measure => simp [intOf]; omega
      ·have hfc : (S.drop (i + 1 + j)).filter (tst (s1, s2)) = (t1, t2) :: (S.drop (i + 1 + (j + 1))).filter (tst (s1, s2)) := by rw [hd', List.filter_cons_of_pos htst]; rfl
       rw [hfc, List.map_cons, List.cons_append] at hX';simp only [hwa] at z1 z2 z3 z4 z5
       gi_wp2_with (first | (refine ⟨trivial, hdd _, ?_⟩; rw [<- hwa]; refine (htc _ _ _ _ _ _).mono ?_; rw [htst]; rintro e w3 ⟨rfl, hE3⟩; obtain ⟨y1, y2⟩ := cc ((hE3.block _ (by omega) id).trans hb8); obtain ⟨y3, y4⟩ := cc ((hE3.block _ (by omega) id).trans ha6)) | fail)
       obtain ⟨wb, hwb⟩ : ∃ wb, wb = w3.alloc (.cells #[.int .i64 s1, .int .i64 s2, .int .i64 t1, .int .i64 t2] 3) := ⟨_, rfl⟩
       have hs3 := hE3.size;have hsb : wb.heap.size = w3.heap.size + 1 := by rw [hwb]; simp
       have heb : ∀ Z, Ext Z w3 wb := fun Z => by rw [hwb]; exact Ext.alloc' _ _ _
       have hkb : ∀ Z, Qq Z w3 wb := fun Z => by rw [hwb]; exact Qq.alloc _ _ _
       have hSb : SlI eI (.slice (some ⟨w3.heap.size, 0, none⟩) 4 4) [s1, s2, t1, t2] wb := by rw [hwb]; exact ⟨rfl, .inr ⟨w3.heap.size, 4, _, rfl, Nat.zero_le _, World.alloc_heap_new _ _, Nat.le_refl _, by decide, rfl, rfl⟩⟩
       obtain ⟨fn, tmps, assign, body, hy, hR⟩ := hY (m - 1) X' [s1, s2, t1, t2] _ (.slice (some ⟨w3.heap.size, 0, none⟩) 4 4) Y' wb hX'.symm (hJ.kept _ _ _ _ hj' (((hbk' _).trans (hE3.kept fun _ _ _ h => h)).trans (hkb _))) hSb (fun c hc => ⟨fun h => (by simp [Value.ownBlock] at hc; have := hYl' c h; omega), (by simp [Value.ownBlock] at hc; omega)⟩);rw [<- hwb];clear hwb;rw [hy];refine ⟨hdd _, hR.mono ?_⟩;rintro e w5 ⟨rfl, Y5, hj5, ho5⟩;have hall : ∀ c, (W.heap.size <= c /\ c < W1.heap.size) ∨ c = wo.heap.size -> ¬ Y5 c /\ w5.heap[c]? = wr2.heap[c]? := fun c hc => by
        have hcl : c < wq.heap.size := by rcases hc with h | h <;> omega
        refine ⟨fun h =>?_, (ho5.ext.block c (by omega) (hk' c hc).1).trans (((heb Qm).block c (by omega) id).trans ((hE3.block c (by omega) id).trans (((hba Qm).block c hcl id).trans (hk' c hc).2)))⟩;rcases ho5.own c h with h | h | h
        ·exact (hk' c hc).1 h
        ·omega
        ·simp [Value.ownBlock] at h; omega
       have hO5 : Qca Y0 none W Y5 w5 := by
        refine ⟨fun c hc =>?_, ((((ho'.ext.trans (hba _)).trans (hE3.mono fun _ _ h => h.elim)).trans (heb _)).trans' ho5.ext fun c hc h =>?_)⟩
        ·rcases ho5.own c hc with h | h | h
         ·exact ho'.own c h
         ·exact .inr (.inl (by omega))
         ·simp [Value.ownBlock] at h; exact .inr (.inl (by omega))
        ·rcases ho'.own c h with h | h | h
         ·exact h
         ·omega
         ·cases h
       gi_wp2
       go_roundw
       case rel => exact ⟨j + 1, X' ++ [[s1, s2, t1, t2]], Y5, rfl, by omega, by rw [List.append_assoc]; exact hX', hj5, hO5, hall, by have := ho5.ext.size; omega⟩
       case measure => simp [intOf]; omega
     ·have hjS' : i + 1 + j = S.length := by omega
      rw [List.drop_eq_nil_of_le (by omega), List.filter_nil, List.map_nil, List.nil_append] at hX';have p1 : ((S.length - (i + 1) : Nat) : Int) <= (j : Int) := by omega
      gi_wp2
      go_roundw
      case rel => exact ⟨i + 1, X', Y', rfl, by omega, hX', hj', ho', fun c h1 h2 => ⟨(hk' c (.inl ⟨h1, h2⟩)).1, (hk' c (.inl ⟨h1, h2⟩)).2.trans (hk1 c h1 h2)⟩⟩
      case measure => simp [intOf]; omega
  ·have hiS' : i = S.length := by omega
   subst hiS'
   gi_wp2
   go_end0
   rw [List.drop_length, Qax, List.append_nil] at hX;subst hX;exact ⟨⟨_, rfl⟩, Y, hj, ho⟩
set_option maxHeartbeats 4000000 in
theorem Qlx (tst : Int × Int -> Int × Int -> Bool) (S : List (Int × Int)) (hsl : S.length <= 400) (n : Nat)
  (hsg : ∀ (m : Nat) (w : World), CallsIn Fence.wide m Try.prog 20 #[.int .i64 (n : Nat)] w fun e w' => ∃ a cap, e = .returned (.slice a S.length cap) /\ Ext Qm w w' /\
   ∀ i (h : i < S.length), ∃ b off, a = some ⟨b, off, none⟩ /\ b < w'.heap.size /\ w.heap.size <= b /\ S.length <= cap /\ w'.cell? ⟨b, off + i * 2, none⟩ = some (.int .i64 S[i].1) /\ w'.cell? ⟨b, off + i * 2 + 1, none⟩ = some (.int .i64 S[i].2))
  (htc : ∀ (m : Nat) (s1 s2 t1 t2 : Int) (w : World), CallsIn Fence.wide m Try.prog 12 #[.agg #[.int .i64 s1, .int .i64 s2], .agg #[.int .i64 t1, .int .i64 t2]] w fun e w' => e = .returned (.bool (tst (s1, s2) (t1, t2))) /\ Ext Qm w w')
  (bp bt : Nat) (w : World) (hp : Boxed w bp eI (.int .i64 (n : Nat))) (ht : Boxed w bt 44 (.func (.func 12) #[] #[])) :
  Qfl Fence.wide Try.prog 19 #[.pointer (some ⟨bp, 0, none⟩), .pointer (some ⟨bt, 0, none⟩)] eI (fun b => b = bp ∨ b = bt) (Qax tst S) w := by
 intro m l J Y0 W hW hJ hY0 hY h0;have hbp : Boxed W bp eI (.int .i64 (n : Nat)) := (hW.block bp hp.lt (.inl rfl)).trans hp;have hbt : Boxed W bt 44 (.func (.func 12) #[] #[]) := (hW.block bt ht.lt (.inr rfl)).trans ht;have l1 := hbp.lt;have l2 := hbt.lt;have hlt := hJ.lt _ _ _ h0;have hdec : S.length = 0 ∨ 0 < S.length := by omega
 refine callsIn_of_wp Try.func19 rfl trivial ?_ rfl;simp only [Try.ntmps19, List.size_toArray, List.length_cons, List.length_nil, Nat.reduceAdd, Nat.reduceSub, Array.replicate_succ, Array.replicate_zero, List.push_toArray, List.append_toArray, List.nil_append, List.cons_append];have c1 := hbp.cell
 gi_wp2_with (refine ⟨trivial, hdd _, ?_⟩; refine (hsg _ _).mono ?_; rintro e W1 ⟨ad, cap, rfl, hE, hcl⟩)
 have hW1 := hE.size;have hJ1 : J [] Y0 W1 := hJ.kept _ _ _ _ h0 (hE.kept fun _ _ _ h => h);have hE0 : Ext Y0 W W1 := hE.mono fun _ _ h => h.elim;have hO1 : Qca Y0 none W Y0 W1 := ⟨fun b hb =>.inl hb, hE0⟩
 rcases hdec with hS | hS
 ·gi_loopw [13] (fun v wr => v = .int .i64 0 /\ wr = W1) (fun _ _ => 0)
  case atStart => exact ⟨rfl, rfl⟩
  case round =>
   obtain ⟨rfl, rfl⟩ := hrel
   gi_wp2
   go_end0
   have : S = [] := List.length_eq_zero_iff.1 hS;subst this;exact ⟨⟨_, rfl⟩, Y0, hJ1, hO1⟩
 obtain ⟨b, off, rfl, hb, hbW, hcap, _⟩ := hcl 0 hS;have hsa : Qfn S b off W1 := fun i hi => by obtain ⟨b', off', e, _, _, _, h1, h2⟩ := hcl i hi;cases e;exact ⟨h1, h2⟩
 clear hcl
 gi_loopw [13] (fun v wr => ∃ (i : Nat) (X : List (List Int)) (Y : Nat -> Prop), v = .int .i64 (i : Nat) /\ i <= S.length /\ X ++ Qax tst (S.drop i) = Qax tst S /\ J X Y wr /\ Qca Y0 none W Y wr /\ ∀ c, W.heap.size <= c -> c < W1.heap.size -> ¬ Y c /\ wr.heap[c]? = W1.heap[c]?) (fun v _ => S.length - (intOf v).toNat)
 case atStart => exact ⟨0, [], Y0, rfl, by omega, rfl, hJ1, hO1, fun c h1 h2 => ⟨fun h => by have := hlt c h; omega, rfl⟩⟩
 case round =>
  obtain ⟨i, X, Y, rfl, hi, hX, hj, ho, hk⟩ := hrel;obtain ⟨wo, hwo⟩ : ∃ wo, wo = wr := ⟨_, rfl⟩
  subst hwo;have hbk := hk b hbW hb;have hsr := hsa.kept hbk.2;have hwl := ho.ext.size;by_cases hiS : i < S.length
  ·obtain ⟨q1, q2⟩ := hsr i hiS;have hd := List.drop_eq_getElem_cons hiS;generalize hs : S[i] = s at *
   obtain ⟨s1, s2⟩ := s;have k1 : (i : Int) < (S.length : Int) := by omega
   have k2 : (0 : Int) <= (i : Int) := by omega
   have k3 : ((i : Int) + 1 <= (S.length : Int)) := by omega
   have k4 : ((S.length : Int) <= (cap : Int)) := by omega
   have hT : X ++ (((S.drop (i + 1 + 0)).filter (tst (s1, s2))).map (fun x => [s1, s2, x.1, x.2]) ++ Qax tst (S.drop (i + 1))) = Qax tst S := by rw [<- hX, hd]; rfl
   obtain ⟨wr2, hwr2⟩ : ∃ wr2, wr2 = wo.alloc (.cells #[.int .i64 s1, .int .i64 s2] 47) := ⟨_, rfl⟩
   have hb6 : wr2.heap[wo.heap.size]? = some (.cells #[.int .i64 s1, .int .i64 s2] 47 (0, 0)) := by rw [hwr2]; exact World.alloc_heap_new wo _
   have hj2 : J X Y wr2 := by rw [hwr2]; exact hJ.kept _ _ _ _ hj (Qq.alloc _ _ _)
   have ho2 : Qca Y0 none W Y wr2 := by rw [hwr2]; exact ⟨ho.own, ho.ext.trans (Ext.alloc' _ _ _)⟩
   have hYl := hJ.lt _ _ _ hj;have hs2 : wr2.heap.size = wo.heap.size + 1 := by rw [hwr2]; simp
   have hk2 : ∀ c, (W.heap.size <= c /\ c < W1.heap.size) ∨ c = wo.heap.size -> ¬ Y c := fun c hc => by
    rcases hc with ⟨h1, h2⟩ | rfl
    ·exact (hk c h1 h2).1
    ·exact fun h => Nat.lt_irrefl _ (hYl _ h)
   have hW1r : W1.heap.size <= wo.heap.size := by
    have h1 := (hk b hbW hb).2;rcases Nat.lt_or_ge (W1.heap.size - 1) wo.heap.size with h | h
    ·omega
    ·have h2 := (hk (W1.heap.size - 1) (by omega) (by omega)).2;rw [Array.getElem?_eq_none h] at h2;rw [Array.getElem?_eq_getElem (by omega)] at h2;cases h2
   have hsr2 : Qfn S b off wr2 := hsr.kept (by rw [hwr2]; exact Below.heap_alloc wo _ b (by omega));have hk1 : ∀ c, W.heap.size <= c -> c < W1.heap.size -> wr2.heap[c]? = W1.heap[c]? := fun c h1 h2 => by rw [hwr2]; exact (Below.heap_alloc wo _ c (by omega)).trans (hk c h1 h2).2
   gi_wp2
   ·rw [<- hwr2];clear hwr2;have hlen0 : S.length = i + 1 := by omega
    have hcap1 : cap = i + 1 := by omega
    subst hcap1
    gi_loopw [23] (fun v wq => v = .int .i64 0 /\ wq = wr2) (fun _ _ => 0)
    case atStart => exact ⟨rfl, rfl⟩
    case round =>
     obtain ⟨rfl, rfl⟩ := hrel;have e0 : S.length - (i + 1) = 0 := by omega
     have hd0 : S.drop (i + 1) = [] := List.drop_eq_nil_of_le (by omega)
     gi_wp2
     refine ⟨⟨i + 1, X, Y, rfl, by omega, ?_, hj2, ho2, fun c h1 h2 => ⟨hk2 c (.inl ⟨h1, h2⟩), hk1 c h1 h2⟩⟩, ?_⟩
     ·rw [<- hX, hd, Qax, hd0];simp [Qax]
     ·simp [intOf]; omega
   ·rw [<- hwr2];clear hwr2
    gi_loopw [23] (fun v wq => ∃ (j : Nat) (X' : List (List Int)) (Y' : Nat -> Prop), v = .int .i64 (j : Nat) /\ i + 1 + j <= S.length /\ X' ++ (((S.drop (i + 1 + j)).filter (tst (s1, s2))).map (fun x => [s1, s2, x.1, x.2]) ++ Qax tst (S.drop (i + 1))) = Qax tst S /\ J X' Y' wq /\ Qca Y0 none W Y' wq /\ (∀ c, (W.heap.size <= c /\ c < W1.heap.size) ∨ c = wo.heap.size -> ¬ Y' c /\ wq.heap[c]? = wr2.heap[c]?) /\ wr2.heap.size <= wq.heap.size) (fun v _ => S.length - (i + 1) - (intOf v).toNat)
    case atStart => exact ⟨0, X, Y, rfl, by omega, hT, hj2, ho2, fun c hc => ⟨hk2 c hc, rfl⟩, Nat.le_refl _⟩
    case round =>
     obtain ⟨j, X', Y', rfl, hjl, hX', hj', ho', hk', hsz'⟩ := hrel;obtain ⟨wq, hwq⟩ : ∃ wq, wq = wr := ⟨_, rfl⟩
     subst hwq;have hYl' := hJ.lt _ _ _ hj';have hwl' := ho'.ext.size;by_cases hjS : i + 1 + j < S.length
     ·have hd' := List.drop_eq_getElem_cons hjS;obtain ⟨x1, x2⟩ := (hsr2.kept (hk' b (.inl ⟨hbW, hb⟩)).2) (i + 1 + j) hjS;generalize ht' : S[i + 1 + j] = t at *
      obtain ⟨t1, t2⟩ := t;have w1 : wq.cell? ⟨b, off + (i + 1) * 2 + j * 2, none⟩ = some (.int .i64 t1) := by rw [show off + (i + 1) * 2 + j * 2 = off + (i + 1 + j) * 2 by omega]; exact x1
      have w2 : wq.cell? ⟨b, off + (i + 1) * 2 + j * 2 + 1, none⟩ = some (.int .i64 t2) := by rw [show off + (i + 1) * 2 + j * 2 + 1 = off + (i + 1 + j) * 2 + 1 by omega]; exact x2
      clear x1 x2;have hb6q : wq.heap[wo.heap.size]? = some (.cells #[.int .i64 s1, .int .i64 s2] 47 (0, 0)) := (hk' _ (.inr rfl)).2.trans hb6;have hbtq : Boxed wq bt 44 (.func (.func 12) #[] #[]) := (ho'.ext.block bt l2 (fun h => hY0 _ h (.inr rfl))).trans hbt;have p1 : (j : Int) < ((S.length - (i + 1) : Nat) : Int) := by omega
      have p2 : (0 : Int) <= (j : Int) := by omega
      obtain ⟨wa, hwa⟩ : ∃ wa, wa = wq.alloc (.cells #[.int .i64 t1, .int .i64 t2] 47) := ⟨_, rfl⟩
      have hs8 : wa.heap.size = wq.heap.size + 1 := by rw [hwa]; simp
      have hb8 : wa.heap[wq.heap.size]? = some (.cells #[.int .i64 t1, .int .i64 t2] 47 (0, 0)) := by rw [hwa]; exact World.alloc_heap_new wq _
      have ha6 : wa.heap[wo.heap.size]? = some (.cells #[.int .i64 s1, .int .i64 s2] 47 (0, 0)) := by rw [hwa]; exact (Below.heap_alloc wq _ _ (by omega)).trans hb6q
      have hat : Boxed wa bt 44 (.func (.func 12) #[] #[]) := by rw [hwa]; exact hbtq.alloc _
      have cc : ∀ {w : World} {b : Nat} {u v : Value} {t : TypeId}, w.heap[b]? = some (.cells #[u, v] t (0, 0)) -> w.cell? ⟨b, 0, none⟩ = some u /\ w.cell? ⟨b, 1, none⟩ = some v := fun h => ⟨by simp [World.cell?, h], by simp [World.cell?, h]⟩
      obtain ⟨z1, z2⟩ := cc hb8;obtain ⟨z3, z4⟩ := cc ha6;have z5 := hat.cell;have hba : ∀ Z, Ext Z wq wa := fun Z => by rw [hwa]; exact Ext.alloc' _ _ _
      have hbk' : ∀ Z, Qq Z wq wa := fun Z => by rw [hwa]; exact Qq.alloc _ _ _
      cases htst : tst (s1, s2) (t1, t2)
      ·have hX2 : X' ++ (((S.drop (i + 1 + (j + 1))).filter (tst (s1, s2))).map (fun x => [s1, s2, x.1, x.2]) ++ Qax tst (S.drop (i + 1))) = Qax tst S := by rw [<- hX', hd', List.filter_cons_of_neg (by rw [htst]; exact Bool.false_ne_true)]; rfl
       simp only [hwa] at z1 z2 z3 z4 z5
       gi_wp2_with (first | (refine ⟨trivial, hdd _, ?_⟩; rw [<- hwa]; refine (htc _ _ _ _ _ _).mono ?_; rw [htst]; rintro e w3 ⟨rfl, hE3⟩) | fail)
       refine ⟨fun _ h => (by cases h), ?_⟩
       gi_wp2
       go_roundw
       case rel => exact ⟨j + 1, X', Y', rfl, by omega, hX2, hJ.kept _ _ _ _ hj' ((hbk' _).trans (hE3.kept fun _ _ _ h => h)), ⟨ho'.own, (ho'.ext.trans (hba _)).trans (hE3.mono fun _ _ h => h.elim)⟩, fun c hc => ⟨(hk' c hc).1, (hE3.block c (by rcases hc with h | h <;> omega) id).trans (((hba Qm).block c (by rcases hc with h | h <;> omega) id).trans (hk' c hc).2)⟩, by have := hE3.size; omega⟩
       case measure => simp [intOf]; omega
      ·have hfc : (S.drop (i + 1 + j)).filter (tst (s1, s2)) = (t1, t2) :: (S.drop (i + 1 + (j + 1))).filter (tst (s1, s2)) := by rw [hd', List.filter_cons_of_pos htst]; rfl
       rw [hfc, List.map_cons, List.cons_append] at hX';simp only [hwa] at z1 z2 z3 z4 z5
       gi_wp2_with (first | (refine ⟨trivial, hdd _, ?_⟩; rw [<- hwa]; refine (htc _ _ _ _ _ _).mono ?_; rw [htst]; rintro e w3 ⟨rfl, hE3⟩; obtain ⟨y1, y2⟩ := cc ((hE3.block _ (by omega) id).trans hb8); obtain ⟨y3, y4⟩ := cc ((hE3.block _ (by omega) id).trans ha6)) | fail)
       obtain ⟨wb, hwb⟩ : ∃ wb, wb = w3.alloc (.cells #[.int .i64 s1, .int .i64 s2, .int .i64 t1, .int .i64 t2] 3) := ⟨_, rfl⟩
       have hs3 := hE3.size;have hsb : wb.heap.size = w3.heap.size + 1 := by rw [hwb]; simp
       have heb : ∀ Z, Ext Z w3 wb := fun Z => by rw [hwb]; exact Ext.alloc' _ _ _
       have hkb : ∀ Z, Qq Z w3 wb := fun Z => by rw [hwb]; exact Qq.alloc _ _ _
       have hSb : SlI eI (.slice (some ⟨w3.heap.size, 0, none⟩) 4 4) [s1, s2, t1, t2] wb := by rw [hwb]; exact ⟨rfl, .inr ⟨w3.heap.size, 4, _, rfl, Nat.zero_le _, World.alloc_heap_new _ _, Nat.le_refl _, by decide, rfl, rfl⟩⟩
       obtain ⟨fn, tmps, assign, body, hy, hR⟩ := hY (m - 1) X' [s1, s2, t1, t2] _ (.slice (some ⟨w3.heap.size, 0, none⟩) 4 4) Y' wb hX'.symm (hJ.kept _ _ _ _ hj' (((hbk' _).trans (hE3.kept fun _ _ _ h => h)).trans (hkb _))) hSb (fun c hc => ⟨fun h => (by simp [Value.ownBlock] at hc; have := hYl' c h; omega), (by simp [Value.ownBlock] at hc; omega)⟩);rw [<- hwb];clear hwb;rw [hy];refine ⟨hdd _, hR.mono ?_⟩;rintro e w5 ⟨rfl, Y5, hj5, ho5⟩;have hall : ∀ c, (W.heap.size <= c /\ c < W1.heap.size) ∨ c = wo.heap.size -> ¬ Y5 c /\ w5.heap[c]? = wr2.heap[c]? := fun c hc => by
        have hcl : c < wq.heap.size := by rcases hc with h | h <;> omega
        refine ⟨fun h =>?_, (ho5.ext.block c (by omega) (hk' c hc).1).trans (((heb Qm).block c (by omega) id).trans ((hE3.block c (by omega) id).trans (((hba Qm).block c hcl id).trans (hk' c hc).2)))⟩;rcases ho5.own c h with h | h | h
        ·exact (hk' c hc).1 h
        ·omega
        ·simp [Value.ownBlock] at h; omega
       have hO5 : Qca Y0 none W Y5 w5 := by
        refine ⟨fun c hc =>?_, ((((ho'.ext.trans (hba _)).trans (hE3.mono fun _ _ h => h.elim)).trans (heb _)).trans' ho5.ext fun c hc h =>?_)⟩
        ·rcases ho5.own c hc with h | h | h
         ·exact ho'.own c h
         ·exact .inr (.inl (by omega))
         ·simp [Value.ownBlock] at h; exact .inr (.inl (by omega))
        ·rcases ho'.own c h with h | h | h
         ·exact h
         ·omega
         ·cases h
       gi_wp2
       go_roundw
       case rel => exact ⟨j + 1, X' ++ [[s1, s2, t1, t2]], Y5, rfl, by omega, by rw [List.append_assoc]; exact hX', hj5, hO5, hall, by have := ho5.ext.size; omega⟩
       case measure => simp [intOf]; omega
     ·have hjS' : i + 1 + j = S.length := by omega
      rw [List.drop_eq_nil_of_le (by omega), List.filter_nil, List.map_nil, List.nil_append] at hX';have p1 : ((S.length - (i + 1) : Nat) : Int) <= (j : Int) := by omega
      gi_wp2
      go_roundw
      case rel => exact ⟨i + 1, X', Y', rfl, by omega, hX', hj', ho', fun c h1 h2 => ⟨(hk' c (.inl ⟨h1, h2⟩)).1, (hk' c (.inl ⟨h1, h2⟩)).2.trans (hk1 c h1 h2)⟩⟩
      case measure => simp [intOf]; omega
  ·have hiS' : i = S.length := by omega
   subst hiS'
   gi_wp2
   go_end0
   rw [List.drop_length, Qax, List.append_nil] at hX;subst hX;exact ⟨⟨_, rfl⟩, Y, hj, ho⟩
end Go.Proofs.Ytohmbopehhgacaa
namespace Go.Proofs.Ytohmbopehhgacaa
open Go Go.FW Go.RowKit Go.Shelf
attribute [local go_sem] Oper.semAt_some
theorem Qf {t : Array Value} {k : Nat} {b : Bool} (h : t[k]?.getD undef = .bool b) : t[k]? = some (.bool b) := by
 cases hk : t[k]? with
 | none => rw [hk] at h; cases h
 | some v => rw [hk] at h; exact congrArg some h
def Qbk (m : Nat) (s : List Int) : Option (List Int) := match s with
 | [a, b] => if a ≠ m /\ b ≠ m then some [(m : Int), a, b] else none
 | _ => none
theorem Qjb (m : Nat) (w : World) (a : Int) : CallsIn Fence.wide m Try.prog 13 #[.int .i64 a] w fun e w' =>
  e = .returned (.func (.func 21) #[] #[.pointer (some ⟨w.heap.size, 0, none⟩)]) /\ w' = w.alloc (.cells #[.int .i64 a] 3) := by
 refine callsIn_of_wp Try.func13 rfl trivial ?_ rfl;simp only [Try.ntmps13, List.size_toArray, List.length_cons, List.length_nil, Nat.reduceAdd, Nat.reduceSub, Array.replicate_succ, Array.replicate_zero, List.push_toArray, List.append_toArray, List.nil_append, List.cons_append]
 gi_wp2
 go_ret
 exact ⟨rfl, rfl⟩
structure Qwy (n : Nat) (W : World) (J : List (List Int) -> (Nat -> Prop) -> World -> Prop) (Y0 : Nat -> Prop) (yv : Value) (ds : List Deferred) (Y : Nat -> Prop) (i : Nat) (W' : World) : Prop where
 j : J ((List.range' 0 i).flatMap fun m => (Qa3 n 2 0).filterMap (Qbk m)) Y W'
 o : Qca Y0 none W Y W'
 bx : Boxed W' W.heap.size 56 yv
 nb : ¬ Y W.heap.size
 ms : Mks W.heap.size ds W'.heap.size W'
 nm : ∀ b, Mks.blk ds b -> ¬ Y b
set_option maxHeartbeats 4000000 in
theorem Qpw (n : Nat) (hn : n < 100) (bp : Nat) (w : World) (hp : Boxed w bp eI (.int .i64 (n : Nat))) :
  Qfl Fence.wide Try.prog 21 #[.pointer (some ⟨bp, 0, none⟩)] eI (fun b => b = bp) ((List.range' 0 n).flatMap fun m => (Qa3 n 2 0).filterMap (Qbk m)) w := by
 intro m l J Y0 W hW hJ hY0 hY h0;have hbp : Boxed W bp eI (.int .i64 (n : Nat)) := (hW.block bp hp.lt rfl).trans hp;have l3 := hbp.lt;have hlt := hJ.lt _ _ _ h0;refine callsIn_of_wp_marks Try.func21 rfl trivial ?_ rfl;simp only [Try.ntmps21, List.size_toArray, List.length_cons, List.length_nil, Nat.reduceAdd, Nat.reduceSub, Array.replicate_succ, Array.replicate_zero, List.push_toArray, List.append_toArray, List.nil_append, List.cons_append];have c1 := (hbp.alloc (.cells #[.func (.yield l) #[] #[]] 56)).cell;obtain ⟨yv, hyv⟩ : ∃ yv, yv = Value.func (.yield l) #[] #[] := ⟨_, rfl⟩
 gi_wp2
 refine wpIn_loop (fun a' W' => ∃ (i : Nat) (ds : List Deferred) (Y : Nat -> Prop) (u3 u4 u7 u8 u9 u10 u11 u12 u13 u14 u15 u16 u17 u18 u19 u20 u21 u22 u23 u24 u25 u26 u27 u28 u29 u30 u31 u32 u33 u34 u35 u36 u37 : Value), (i <= n /\ Qwy n W J Y0 yv ds Y i W') /\ a' = ⟨#[.func (.yield l) #[] #[], .pointer (some ⟨bp, 0, none⟩), .pointer (some ⟨W.heap.size, 0, none⟩), u3, u4, .int .i64 (n : Int), .int .i64 (i : Int), u7, u8, u9, u10, u11, u12, u13, u14, u15, u16, u17, u18, u19, u20, u21, u22, u23, u24, u25, u26, u27, u28, u29, u30, u31, u32, u33, u34, u35, u36, u37], ds⟩)
  (fun a' _ => n - (intOf (a'.tmps.getD 6 undef)).toNat) ?_ ?_
 ·refine ⟨0, [], Y0, ?_⟩
  (repeat apply Exists.intro)
  refine ⟨⟨Nat.zero_le _, ?_⟩, rfl⟩;subst hyv;exact ⟨hJ.kept _ _ _ _ h0 (Qq.alloc Y0 W _), ⟨fun b hb =>.inl hb, Ext.alloc' Y0 W _⟩, Boxed.new W _ _, fun h => by have := hlt _ h; omega, trivial, fun _ h => h.elim⟩
 ·rintro a' W' ⟨i, ds, Y, u3, u4, u7, u8, u9, u10, u11, u12, u13, u14, u15, u16, u17, u18, u19, u20, u21, u22, u23, u24, u25, u26, u27, u28, u29, u30, u31, u32, u33, u34, u35, u36, u37, ⟨hi, hI⟩, rfl⟩
  try dsimp only
  have hbp2 : Boxed W' bp eI (.int .i64 (n : Nat)) := (hI.o.ext.block bp l3 (fun h => hY0 _ h rfl)).trans hbp;have q2 := (hbp2.alloc (.cells #[.int .i64 (i : Int)] 3)).cell;have hwl := hI.o.ext.size;by_cases hin : i < n
  ·have hin' : (i : Int) < (n : Int) := by omega
   gi_wp2_with (first | (refine ⟨trivial, hdd _, ?_⟩; refine (Qd7 _ _ _ _ _).mono ?_; rintro e w' ⟨rfl, rfl⟩) | fail)
   obtain ⟨W2, hW2⟩ : ∃ W2, W2 = (((W'.alloc (.cells #[.int .i64 (i : Int)] 3)).alloc (.cells #[.int .i64 0] 3)).alloc (.cells #[.int .i64 (n : Int)] 3)).alloc (.cells #[.int .i64 2] 3) := ⟨_, rfl⟩
   have hb0 : Boxed W2 W'.heap.size eI (.int .i64 (i : Nat)) := by rw [hW2]; exact (((Boxed.new W' 3 _).alloc _).alloc _).alloc _
   have hb4 : Boxed W2 (W'.heap.size + 1) eI (.int .i64 (0 : Nat)) := by have := Boxed.new (W'.alloc (.cells #[.int .i64 (i : Int)] 3)) 3 (.int .i64 0);simp only [World.size_alloc] at this;rw [hW2]; exact (this.alloc _).alloc _
   have hb5 : Boxed W2 (W'.heap.size + 1 + 1) eI (.int .i64 (n : Nat)) := by have := Boxed.new ((W'.alloc (.cells #[.int .i64 (i : Int)] 3)).alloc (.cells #[.int .i64 0] 3)) 3 (.int .i64 (n : Int));simp only [World.size_alloc] at this;rw [hW2]; exact this.alloc _
   have hb3 : Boxed W2 (W'.heap.size + 1 + 1 + 1) eI (.int .i64 (2 : Nat)) := by have := Boxed.new (((W'.alloc (.cells #[.int .i64 (i : Int)] 3)).alloc (.cells #[.int .i64 0] 3)).alloc (.cells #[.int .i64 (n : Int)] 3)) 3 (.int .i64 2);simp only [World.size_alloc] at this;rw [hW2]; exact this
   have hk2 : ∀ Z, Qq Z W' W2 := fun Z => by rw [hW2]; exact (((Qq.alloc Z _ _).trans (Qq.alloc Z _ _)).trans (Qq.alloc Z _ _)).trans (Qq.alloc Z _ _)
   have he2 : ∀ Z, Ext Z W' W2 := fun Z => by rw [hW2]; exact (((Ext.alloc' Z _ _).trans (Ext.alloc' Z _ _)).trans (Ext.alloc' Z _ _)).trans (Ext.alloc' Z _ _)
   have hs2 : W2.heap.size = W'.heap.size + 4 := by rw [hW2]; simp
   rw [<- hW2];clear hW2;have hYlt := hJ.lt _ _ _ hI.j;obtain ⟨D0, hD0⟩ : ∃ D0, D0 = (List.range' 0 i).flatMap fun m => (Qa3 n 2 0).filterMap (Qbk m) := ⟨_, rfl⟩
   have hIj := hI.j;rw [<- hD0] at hIj;obtain ⟨Ob, hOb⟩ : ∃ Ob : Nat -> Prop, ∀ b, Ob b ↔ b = W'.heap.size ∨ b = W.heap.size ∨ Mks.blk ds b := ⟨_, fun _ => Iff.rfl⟩
   have hby2 : Boxed W2 W.heap.size 56 yv := ((hk2 (· = W.heap.size)).block _ hI.bx.lt rfl).trans hI.bx;have hms2 : Mks W.heap.size ds W'.heap.size W2 := hI.ms.kept fun b hb => (hk2 (Mks.blk ds)).block _ (hI.ms.lt hb).2.1 hb;have hOlt : ∀ b, Ob b -> b < W'.heap.size + 1 := fun b hb => by
    rcases (hOb b).1 hb with rfl | rfl | h
    ·omega
    ·have := hI.bx.lt; omega
    ·have := (hI.ms.lt h).2.1; omega
   have hOY : ∀ b, Ob b -> ¬ Y b := fun b hb => by
    rcases (hOb b).1 hb with rfl | rfl | h
    ·exact fun h => Nat.lt_irrefl _ (hYlt _ h)
    ·exact hI.nb
    ·exact hI.nm b h
   refine Qh3 rfl rfl (gf := 18) (lb := #[.pointer (some ⟨W'.heap.size + 1 + 1 + 1, 0, none⟩), .pointer (some ⟨W'.heap.size + 1, 0, none⟩), .pointer (some ⟨W'.heap.size + 1 + 1, 0, none⟩)]) rfl trivial (enters_of Try.func18 (by kernel_rfl) rfl)
    (Qgx n hn 2 0 _ _ _ W2 (by omega) hb3 hb4 hb5 (by omega)) (Qq.refl _ _) (fun b hb => by rcases hb with rfl | rfl | rfl <;> omega) rfl
    (fun pre Yi X => ∃ Y1, (∀ b, Yi b ↔ Y1 b ∨ Ob b) /\ (∀ b, Ob b -> ¬ Y1 b) /\ (∀ b, Ob b -> b < X.heap.size) /\ J (D0 ++ pre.filterMap (Qbk i)) Y1 X /\ Boxed X W'.heap.size eI (.int .i64 (i : Nat)) /\ Boxed X W.heap.size 56 yv /\ Mks W.heap.size ds W'.heap.size X)
    ⟨?_, ?_⟩ (fun b => Y b ∨ Ob b) (fun b hb hB =>?_) ⟨Y, fun _ => Iff.rfl, hOY, fun b hb => (by have := hOlt b hb; omega), ?_, hb0, hby2, hms2⟩
    (fun v => { tmps := #[.func (.yield l) #[] #[], .pointer (some ⟨bp, 0, none⟩), .pointer (some ⟨W.heap.size, 0, none⟩), .pointer (some ⟨W'.heap.size, 0, none⟩), v, .int .i64 (n : Int), .int .i64 (i : Int), .bool true, .int .i64 (i : Int), .int .i64 (n : Int), .func (.func 18) #[] #[.pointer (some ⟨W'.heap.size + 1 + 1 + 1, 0, none⟩), .pointer (some ⟨W'.heap.size + 1, 0, none⟩), .pointer (some ⟨W'.heap.size + 1 + 1, 0, none⟩)], v, u12, u13, u14, u15, u16, u17, u18, u19, u20, u21, u22, u23, u24, u25, u26, u27, u28, u29, u30, u31, u32, u33, u34, u35, u36, u37], defers := [] }) ?assign ?body ?done
   ·rintro s Yi X X' ⟨Y1, h1, h2, h3, h4, h5, h6, h7⟩ hk;have hkO : ∀ b, Ob b -> X'.heap[b]? = X.heap[b]? := fun b hb => hk.block b (h3 b hb) ((h1 b).2 (.inr hb));exact ⟨Y1, h1, h2, fun b hb => Nat.lt_of_lt_of_le (h3 b hb) hk.size, hJ.kept _ _ _ _ h4 (hk.mono fun b _ hb => (h1 b).2 (.inl hb)), (hkO _ ((hOb _).2 (.inl rfl))).trans h5, (hkO _ ((hOb _).2 (.inr (.inl rfl)))).trans h6, h7.kept fun b hb => hkO b ((hOb b).2 (.inr (.inr hb)))⟩
   ·rintro s Yi X ⟨Y1, h1, h2, h3, h4, h5, h6, h7⟩ b hb;rcases (h1 b).1 hb with h | h
    ·exact hJ.lt _ _ _ h4 b h
    ·exact h3 b h
   ·have hbl : b < W'.heap.size + 1 := by
     rcases hb with h | h
     ·have := hYlt b h; omega
     ·exact hOlt b h
    rcases hB with rfl | rfl | rfl <;> omega
   ·simp only [List.filterMap_nil, List.append_nil];exact hJ.kept _ _ _ _ hIj (hk2 _)
   case assign =>
    intro l2 v X K hK
    gi_wp2
    exact hK
   case body =>
    rintro l2 pre c suf v Yi X hxs hsX ⟨Y1, h1, h2, h3, h4, h5, h6, h7⟩ hv hvY;have hcl : c.length = 2 := Qgw n 2 0 c (by rw [hxs]; simp);obtain ⟨ca, cb, rfl⟩ : ∃ ca cb, c = [ca, cb] := by
     match c, hcl with
     | [ca, cb], _ => exact ⟨ca, cb, rfl⟩
    have hvl : ∀ b, v.ownBlock = some b -> b < X.heap.size := fun b hb => by obtain ⟨cur, h⟩ := hv.lt hb;exact (Array.getElem?_eq_some_iff.1 h).1
    rcases hv.2 with ⟨rfl, h0'⟩ | ⟨g, cap, cur, rfl, _, hg, hg2, hg3, hg4, hg5⟩
    ·cases h0'
    have hcx : X.cell? ⟨g, 0, none⟩ = some (.int .i64 ca) /\ X.cell? ⟨g, 1, none⟩ = some (.int .i64 cb) := by have := hv.cells (g := g) rfl;exact ⟨this 0 _ rfl, this 1 _ rfl⟩
    have hgl := hvl g rfl
    gi_wp2
    rename_i K0 hK0;have hb1d : Boxed X.drew W.heap.size 56 yv := h6;have hb2d : Boxed X.drew W'.heap.size eI (.int .i64 (i : Nat)) := h5;have hcX : X.drew.cell? ⟨W.heap.size, 0, none⟩ = some yv /\ X.drew.cell? ⟨W'.heap.size, 0, none⟩ = some (.int .i64 (i : Int)) /\ X.drew.cell? ⟨g, 0, none⟩ = some (.int .i64 ca) /\ X.drew.cell? ⟨g, 1, none⟩ = some (.int .i64 cb) := ⟨hb1d.cell, hb2d.cell, hcx.1, hcx.2⟩
    have hYl := hJ.lt _ _ _ h4;have hfm : (pre ++ [[ca, cb]]).filterMap (Qbk i) = pre.filterMap (Qbk i) ++ (if ca ≠ i /\ cb ≠ i then [[(i : Int), ca, cb]] else []) := by rw [List.filterMap_append];congr 1;simp only [List.filterMap_cons, List.filterMap_nil, Qbk];split <;> simp_all
    have hskip : ¬ (ca ≠ i /\ cb ≠ i) -> Qhb (fun pre Yi X => ∃ Y1, (∀ b, Yi b ↔ Y1 b ∨ Ob b) /\ (∀ b, Ob b -> ¬ Y1 b) /\ (∀ b, Ob b -> b < X.heap.size) /\ J (D0 ++ pre.filterMap (Qbk i)) Y1 X /\ Boxed X W'.heap.size eI (.int .i64 (i : Nat)) /\ Boxed X W.heap.size 56 yv /\ Mks W.heap.size ds W'.heap.size X) (pre ++ [[ca, cb]]) Yi (some g) X .normal { tmps := #[], defers := [] } X.drew := fun hno => by
     have hkd : ∀ Z, Qq Z X X.drew := fun Z => ⟨rfl, rfl, rfl, Nat.le_refl _, fun _ _ _ => rfl⟩
     refine ⟨Yi, ⟨Y1, h1, h2, h3, ?_, h5, h6, h7.kept fun _ _ => rfl⟩, fun b hb =>.inl hb, ⟨rfl, rfl, rfl, Nat.le_refl _, fun _ _ _ => rfl⟩⟩;rw [hfm, if_neg hno, List.append_nil];exact hJ.kept _ _ _ _ h4 (hkd _)
    by_cases hA : ca = i
    ·have hca : decide (ca = (i : Int)) = true := decide_eq_true hA;have hend := hskip (fun h => h.1 hA);refine Qfm Qlv 38 (fun j => match j with | 0 =>.slice (some ⟨g, 0, none⟩) 2 cap | 1 =>.pointer (some ⟨g, 0, none⟩) | 2 =>.int .i64 ca | 3 =>.int .i64 (i : Int) | 4 =>.bool false | 5 =>.bool false | 6 => undef | 7 => undef | 8 => undef | 9 => undef | 10 => undef | 11 =>.bool false | 12 =>.bool false | 13 => undef | 14 => undef | 15 => undef | 16 => undef | 17 => undef | 18 => undef | 19 => undef | 20 => undef | 21 => undef | 22 => undef | 23 => undef | 24 =>.bool false | _ => undef) [(2, .pointer (some ⟨W.heap.size, 0, none⟩)), (3, .pointer (some ⟨W'.heap.size, 0, none⟩)), (4, .slice (some ⟨g, 0, none⟩) 2 cap)] (fun q w => w = X.drew) (by decide) ?_ ?_ ?_
     ·exact ⟨rfl, rfl, by simp, fun _ _ _ h => (by cases h), fun _ h => (by cases h), rfl⟩
     ·intro q j hj hq hpr a3 w3 hT;have f2 := hT.fixed (2, .pointer (some ⟨W.heap.size, 0, none⟩)) (by simp);have f3 := hT.fixed (3, .pointer (some ⟨W'.heap.size, 0, none⟩)) (by simp);have f4 := hT.fixed (4, .slice (some ⟨g, 0, none⟩) 2 cap) (by simp);simp only at f2 f3 f4;have g0 : q 0 = true -> a3.tmps[12]?.getD undef = .slice (some ⟨g, 0, none⟩) 2 cap := fun h => hT.slot 0 _ 12 h rfl rfl;have g1 : q 1 = true -> a3.tmps[13]?.getD undef = .pointer (some ⟨g, 0, none⟩) := fun h => hT.slot 1 _ 13 h rfl rfl;have g2 : q 2 = true -> a3.tmps[14]?.getD undef = .int .i64 ca := fun h => hT.slot 2 _ 14 h rfl rfl;have g3 : q 3 = true -> a3.tmps[15]?.getD undef = .int .i64 (i : Int) := fun h => hT.slot 3 _ 15 h rfl rfl;have g4 : q 4 = true -> a3.tmps[16]?.getD undef = .bool false := fun h => hT.slot 4 _ 16 h rfl rfl;have g5 : q 5 = true -> a3.tmps[17]?.getD undef = .bool false := fun h => hT.slot 5 _ 17 h rfl rfl;have g6 : q 6 = true -> a3.tmps[18]?.getD undef = undef := fun h => hT.slot 6 _ 18 h rfl rfl;have g7 : q 7 = true -> a3.tmps[19]?.getD undef = undef := fun h => hT.slot 7 _ 19 h rfl rfl;have g8 : q 8 = true -> a3.tmps[20]?.getD undef = undef := fun h => hT.slot 8 _ 20 h rfl rfl;have g9 : q 9 = true -> a3.tmps[21]?.getD undef = undef := fun h => hT.slot 9 _ 21 h rfl rfl;have g10 : q 10 = true -> a3.tmps[22]?.getD undef = undef := fun h => hT.slot 10 _ 22 h rfl rfl;have g11 : q 11 = true -> a3.tmps[23]?.getD undef = .bool false := fun h => hT.slot 11 _ 23 h rfl rfl;have g12 : q 12 = true -> a3.tmps[24]?.getD undef = .bool false := fun h => hT.slot 12 _ 24 h rfl rfl;have g13 : q 13 = true -> a3.tmps[25]?.getD undef = undef := fun h => hT.slot 13 _ 25 h rfl rfl;have g14 : q 14 = true -> a3.tmps[26]?.getD undef = undef := fun h => hT.slot 14 _ 26 h rfl rfl;have g15 : q 15 = true -> a3.tmps[27]?.getD undef = undef := fun h => hT.slot 15 _ 27 h rfl rfl;have g16 : q 16 = true -> a3.tmps[28]?.getD undef = undef := fun h => hT.slot 16 _ 28 h rfl rfl;have g17 : q 17 = true -> a3.tmps[29]?.getD undef = undef := fun h => hT.slot 17 _ 29 h rfl rfl;have g18 : q 18 = true -> a3.tmps[30]?.getD undef = undef := fun h => hT.slot 18 _ 30 h rfl rfl;have g19 : q 19 = true -> a3.tmps[31]?.getD undef = undef := fun h => hT.slot 19 _ 31 h rfl rfl;have g20 : q 20 = true -> a3.tmps[32]?.getD undef = undef := fun h => hT.slot 20 _ 32 h rfl rfl;have g21 : q 21 = true -> a3.tmps[33]?.getD undef = undef := fun h => hT.slot 21 _ 33 h rfl rfl;have g22 : q 22 = true -> a3.tmps[34]?.getD undef = undef := fun h => hT.slot 22 _ 34 h rfl rfl;have g23 : q 23 = true -> a3.tmps[35]?.getD undef = undef := fun h => hT.slot 23 _ 35 h rfl rfl;have g24 : q 24 = true -> a3.tmps[36]?.getD undef = .bool false := fun h => hT.slot 24 _ 36 h rfl rfl;have hw3 : w3 = X.drew := hT.wd;subst hw3;obtain ⟨ce0, ce1, ce2, ce3⟩ := hcX
      match j, hj with
      | 0, _ =>refine hT.val (w' := X.drew) hpr (by rfl) rfl rfl rfl (fun c h => by cases h) ?_ rfl;simp [execOp, go_sem, f4]
      | 1, _ =>have k0 := g0 (hpr 0 (by decide));refine hT.val (w' := X.drew) hpr (by rfl) rfl rfl rfl (fun c h => by cases h) ?_ rfl;simp [execOp, go_sem, k0]
      | 2, _ =>have k1 := g1 (hpr 1 (by decide));refine hT.val (w' := X.drew) hpr (by rfl) rfl rfl rfl (fun c h => by cases h) ?_ rfl;simp [execOp, go_sem, k1, ce2]
      | 3, _ =>refine hT.val (w' := X.drew) hpr (by rfl) rfl rfl rfl (fun c h => by cases h) ?_ rfl;simp [execOp, go_sem, f3, ce1]
      | 4, _ =>have k2 := g2 (hpr 2 (by decide));have k3 := g3 (hpr 3 (by decide));refine hT.val (w' := X.drew) hpr (by rfl) rfl rfl rfl (fun c h => by cases h) ?_ rfl;simp [execOp, go_sem, k2, k3, hA]
      | 5, _ =>have k4 := g4 (hpr 4 (by decide));refine hT.val (w' := X.drew) hpr (by rfl) rfl rfl rfl (fun c h => by cases h) ?_ rfl;simp [execOp, go_sem, k4]
      | 6, _ =>have hy6 := Qf (g5 (hpr 5 (by decide)));exact hT.skip hpr (by rfl) rfl (by simp [Region.wanted, yielded, hy6]) (fun _ _ => trivial) rfl rfl
      | 7, _ =>have hy7 := Qf (g5 (hpr 5 (by decide)));exact hT.skip hpr (by rfl) rfl (by simp [Region.wanted, yielded, hy7]) (fun _ _ => trivial) rfl rfl
      | 8, _ =>have hy8 := Qf (g5 (hpr 5 (by decide)));exact hT.skip hpr (by rfl) rfl (by simp [Region.wanted, yielded, hy8]) (fun _ _ => trivial) rfl rfl
      | 9, _ =>have hy9 := Qf (g5 (hpr 5 (by decide)));exact hT.skip hpr (by rfl) rfl (by simp [Region.wanted, yielded, hy9]) (fun _ _ => trivial) rfl rfl
      | 10, _ =>have hy10 := Qf (g5 (hpr 5 (by decide)));exact hT.skip hpr (by rfl) rfl (by simp [Region.wanted, yielded, hy10]) (fun _ _ => trivial) rfl rfl
      | 11, _ =>have k5 := g5 (hpr 5 (by decide));have k10 := g10 (hpr 10 (by decide));refine hT.val (w' := X.drew) hpr (by rfl) rfl rfl rfl (fun c h => by cases h) ?_ rfl;simp [execOp, go_sem, k5, k10]
      | 12, _ =>have k11 := g11 (hpr 11 (by decide));refine hT.val (w' := X.drew) hpr (by rfl) rfl rfl rfl (fun c h => by cases h) ?_ rfl;simp [execOp, go_sem, k11]
      | 13, _ =>have hy13 := Qf (g12 (hpr 12 (by decide)));exact hT.skip hpr (by rfl) rfl (by simp [Region.wanted, yielded, hy13]) (fun _ _ => trivial) rfl rfl
      | 14, _ =>have hy14 := Qf (g12 (hpr 12 (by decide)));exact hT.skip hpr (by rfl) rfl (by simp [Region.wanted, yielded, hy14]) (fun _ _ => trivial) rfl rfl
      | 15, _ =>have hy15 := Qf (g12 (hpr 12 (by decide)));exact hT.skip hpr (by rfl) rfl (by simp [Region.wanted, yielded, hy15]) (fun _ _ => trivial) rfl rfl
      | 16, _ =>have hy16 := Qf (g12 (hpr 12 (by decide)));exact hT.skip hpr (by rfl) rfl (by simp [Region.wanted, yielded, hy16]) (fun _ _ => trivial) rfl rfl
      | 17, _ =>have hy17 := Qf (g12 (hpr 12 (by decide)));exact hT.skip hpr (by rfl) rfl (by simp [Region.wanted, yielded, hy17]) (fun _ _ => trivial) rfl rfl
      | 18, _ =>have hy18 := Qf (g12 (hpr 12 (by decide)));exact hT.skip hpr (by rfl) rfl (by simp [Region.wanted, yielded, hy18]) (fun _ _ => trivial) rfl rfl
      | 19, _ =>have hy19 := Qf (g12 (hpr 12 (by decide)));exact hT.skip hpr (by rfl) rfl (by simp [Region.wanted, yielded, hy19]) (fun _ _ => trivial) rfl rfl
      | 20, _ =>have hy20 := Qf (g12 (hpr 12 (by decide)));exact hT.skip hpr (by rfl) rfl (by simp [Region.wanted, yielded, hy20]) (fun _ _ => trivial) rfl rfl
      | 21, _ =>have hy21 := Qf (g12 (hpr 12 (by decide)));exact hT.skip hpr (by rfl) rfl (by simp [Region.wanted, yielded, hy21]) (fun _ _ => trivial) rfl rfl
      | 22, _ =>have hy22 := Qf (g12 (hpr 12 (by decide)));exact hT.skip hpr (by rfl) rfl (by simp [Region.wanted, yielded, hy22]) (fun _ _ => trivial) rfl rfl
      | 23, _ =>have hy23 := Qf (g12 (hpr 12 (by decide)));exact hT.skip hpr (by rfl) rfl (by simp [Region.wanted, yielded, hy23]) (fun _ _ => trivial) rfl rfl
      | 24, _ =>have k12 := g12 (hpr 12 (by decide));have k23 := g23 (hpr 23 (by decide));refine hT.val (w' := X.drew) hpr (by rfl) rfl rfl rfl (fun c h => by cases h) ?_ rfl;simp [execOp, go_sem, k12, k23]
      | j + 25, hj => exact absurd hj (by simp)
     ·intro q a3 w3 hq hT;have g24 : a3.tmps[36]?.getD undef = .bool false := hT.slot 24 _ 36 (hq 24 (by decide)) rfl rfl;refine hK0 a3 w3 (wpIn_cond_false (show a3.eval (.tmp 36) = .bool false by simp [Act.eval, g24]) (wpIn_skip ?_));have hw3 : w3 = X.drew := hT.wd;subst hw3;exact hend
    by_cases hB : cb = i
    ·have hca : ¬ ca = (i : Int) := hA;have hcb : decide (cb = (i : Int)) = true := decide_eq_true hB;have hend := hskip (fun h => h.2 hB);refine Qfm Qlv 38 (fun j => match j with | 0 =>.slice (some ⟨g, 0, none⟩) 2 cap | 1 =>.pointer (some ⟨g, 0, none⟩) | 2 =>.int .i64 ca | 3 =>.int .i64 (i : Int) | 4 =>.bool true | 5 =>.bool true | 6 =>.slice (some ⟨g, 0, none⟩) 2 cap | 7 =>.pointer (some ⟨g, 1, none⟩) | 8 =>.int .i64 cb | 9 =>.int .i64 (i : Int) | 10 =>.bool false | 11 =>.bool false | 12 =>.bool false | 13 => undef | 14 => undef | 15 => undef | 16 => undef | 17 => undef | 18 => undef | 19 => undef | 20 => undef | 21 => undef | 22 => undef | 23 => undef | 24 =>.bool false | _ => undef) [(2, .pointer (some ⟨W.heap.size, 0, none⟩)), (3, .pointer (some ⟨W'.heap.size, 0, none⟩)), (4, .slice (some ⟨g, 0, none⟩) 2 cap)] (fun q w => w = X.drew) (by decide) ?_ ?_ ?_
     ·exact ⟨rfl, rfl, by simp, fun _ _ _ h => (by cases h), fun _ h => (by cases h), rfl⟩
     ·intro q j hj hq hpr a3 w3 hT;have f2 := hT.fixed (2, .pointer (some ⟨W.heap.size, 0, none⟩)) (by simp);have f3 := hT.fixed (3, .pointer (some ⟨W'.heap.size, 0, none⟩)) (by simp);have f4 := hT.fixed (4, .slice (some ⟨g, 0, none⟩) 2 cap) (by simp);simp only at f2 f3 f4;have g0 : q 0 = true -> a3.tmps[12]?.getD undef = .slice (some ⟨g, 0, none⟩) 2 cap := fun h => hT.slot 0 _ 12 h rfl rfl;have g1 : q 1 = true -> a3.tmps[13]?.getD undef = .pointer (some ⟨g, 0, none⟩) := fun h => hT.slot 1 _ 13 h rfl rfl;have g2 : q 2 = true -> a3.tmps[14]?.getD undef = .int .i64 ca := fun h => hT.slot 2 _ 14 h rfl rfl;have g3 : q 3 = true -> a3.tmps[15]?.getD undef = .int .i64 (i : Int) := fun h => hT.slot 3 _ 15 h rfl rfl;have g4 : q 4 = true -> a3.tmps[16]?.getD undef = .bool true := fun h => hT.slot 4 _ 16 h rfl rfl;have g5 : q 5 = true -> a3.tmps[17]?.getD undef = .bool true := fun h => hT.slot 5 _ 17 h rfl rfl;have g6 : q 6 = true -> a3.tmps[18]?.getD undef = .slice (some ⟨g, 0, none⟩) 2 cap := fun h => hT.slot 6 _ 18 h rfl rfl;have g7 : q 7 = true -> a3.tmps[19]?.getD undef = .pointer (some ⟨g, 1, none⟩) := fun h => hT.slot 7 _ 19 h rfl rfl;have g8 : q 8 = true -> a3.tmps[20]?.getD undef = .int .i64 cb := fun h => hT.slot 8 _ 20 h rfl rfl;have g9 : q 9 = true -> a3.tmps[21]?.getD undef = .int .i64 (i : Int) := fun h => hT.slot 9 _ 21 h rfl rfl;have g10 : q 10 = true -> a3.tmps[22]?.getD undef = .bool false := fun h => hT.slot 10 _ 22 h rfl rfl;have g11 : q 11 = true -> a3.tmps[23]?.getD undef = .bool false := fun h => hT.slot 11 _ 23 h rfl rfl;have g12 : q 12 = true -> a3.tmps[24]?.getD undef = .bool false := fun h => hT.slot 12 _ 24 h rfl rfl;have g13 : q 13 = true -> a3.tmps[25]?.getD undef = undef := fun h => hT.slot 13 _ 25 h rfl rfl;have g14 : q 14 = true -> a3.tmps[26]?.getD undef = undef := fun h => hT.slot 14 _ 26 h rfl rfl;have g15 : q 15 = true -> a3.tmps[27]?.getD undef = undef := fun h => hT.slot 15 _ 27 h rfl rfl;have g16 : q 16 = true -> a3.tmps[28]?.getD undef = undef := fun h => hT.slot 16 _ 28 h rfl rfl;have g17 : q 17 = true -> a3.tmps[29]?.getD undef = undef := fun h => hT.slot 17 _ 29 h rfl rfl;have g18 : q 18 = true -> a3.tmps[30]?.getD undef = undef := fun h => hT.slot 18 _ 30 h rfl rfl;have g19 : q 19 = true -> a3.tmps[31]?.getD undef = undef := fun h => hT.slot 19 _ 31 h rfl rfl;have g20 : q 20 = true -> a3.tmps[32]?.getD undef = undef := fun h => hT.slot 20 _ 32 h rfl rfl;have g21 : q 21 = true -> a3.tmps[33]?.getD undef = undef := fun h => hT.slot 21 _ 33 h rfl rfl;have g22 : q 22 = true -> a3.tmps[34]?.getD undef = undef := fun h => hT.slot 22 _ 34 h rfl rfl;have g23 : q 23 = true -> a3.tmps[35]?.getD undef = undef := fun h => hT.slot 23 _ 35 h rfl rfl;have g24 : q 24 = true -> a3.tmps[36]?.getD undef = .bool false := fun h => hT.slot 24 _ 36 h rfl rfl;have hw3 : w3 = X.drew := hT.wd;subst hw3;obtain ⟨ce0, ce1, ce2, ce3⟩ := hcX
      match j, hj with
      | 0, _ =>refine hT.val (w' := X.drew) hpr (by rfl) rfl rfl rfl (fun c h => by cases h) ?_ rfl;simp [execOp, go_sem, f4]
      | 1, _ =>have k0 := g0 (hpr 0 (by decide));refine hT.val (w' := X.drew) hpr (by rfl) rfl rfl rfl (fun c h => by cases h) ?_ rfl;simp [execOp, go_sem, k0]
      | 2, _ =>have k1 := g1 (hpr 1 (by decide));refine hT.val (w' := X.drew) hpr (by rfl) rfl rfl rfl (fun c h => by cases h) ?_ rfl;simp [execOp, go_sem, k1, ce2]
      | 3, _ =>refine hT.val (w' := X.drew) hpr (by rfl) rfl rfl rfl (fun c h => by cases h) ?_ rfl;simp [execOp, go_sem, f3, ce1]
      | 4, _ =>have k2 := g2 (hpr 2 (by decide));have k3 := g3 (hpr 3 (by decide));refine hT.val (w' := X.drew) hpr (by rfl) rfl rfl rfl (fun c h => by cases h) ?_ rfl;simp [execOp, go_sem, k2, k3, hA]
      | 5, _ =>have k4 := g4 (hpr 4 (by decide));refine hT.val (w' := X.drew) hpr (by rfl) rfl rfl rfl (fun c h => by cases h) ?_ rfl;simp [execOp, go_sem, k4]
      | 6, _ =>have hy6 := Qf (g5 (hpr 5 (by decide)));refine hT.val (w' := X.drew) hpr (by rfl) rfl (by simp [Region.wanted, yielded, hy6]) rfl (fun c h => by cases h) ?_ rfl;simp [execOp, go_sem, f4]
      | 7, _ =>have hy7 := Qf (g5 (hpr 5 (by decide)));have k6 := g6 (hpr 6 (by decide));refine hT.val (w' := X.drew) hpr (by rfl) rfl (by simp [Region.wanted, yielded, hy7]) rfl (fun c h => by cases h) ?_ rfl;simp [execOp, go_sem, k6]
      | 8, _ =>have hy8 := Qf (g5 (hpr 5 (by decide)));have k7 := g7 (hpr 7 (by decide));refine hT.val (w' := X.drew) hpr (by rfl) rfl (by simp [Region.wanted, yielded, hy8]) rfl (fun c h => by cases h) ?_ rfl;simp [execOp, go_sem, k7, ce3]
      | 9, _ =>have hy9 := Qf (g5 (hpr 5 (by decide)));refine hT.val (w' := X.drew) hpr (by rfl) rfl (by simp [Region.wanted, yielded, hy9]) rfl (fun c h => by cases h) ?_ rfl;simp [execOp, go_sem, f3, ce1]
      | 10, _ =>have hy10 := Qf (g5 (hpr 5 (by decide)));have k8 := g8 (hpr 8 (by decide));have k9 := g9 (hpr 9 (by decide));refine hT.val (w' := X.drew) hpr (by rfl) rfl (by simp [Region.wanted, yielded, hy10]) rfl (fun c h => by cases h) ?_ rfl;simp [execOp, go_sem, k8, k9, hB]
      | 11, _ =>have k5 := g5 (hpr 5 (by decide));have k10 := g10 (hpr 10 (by decide));refine hT.val (w' := X.drew) hpr (by rfl) rfl rfl rfl (fun c h => by cases h) ?_ rfl;simp [execOp, go_sem, k5, k10]
      | 12, _ =>have k11 := g11 (hpr 11 (by decide));refine hT.val (w' := X.drew) hpr (by rfl) rfl rfl rfl (fun c h => by cases h) ?_ rfl;simp [execOp, go_sem, k11]
      | 13, _ =>have hy13 := Qf (g12 (hpr 12 (by decide)));exact hT.skip hpr (by rfl) rfl (by simp [Region.wanted, yielded, hy13]) (fun _ _ => trivial) rfl rfl
      | 14, _ =>have hy14 := Qf (g12 (hpr 12 (by decide)));exact hT.skip hpr (by rfl) rfl (by simp [Region.wanted, yielded, hy14]) (fun _ _ => trivial) rfl rfl
      | 15, _ =>have hy15 := Qf (g12 (hpr 12 (by decide)));exact hT.skip hpr (by rfl) rfl (by simp [Region.wanted, yielded, hy15]) (fun _ _ => trivial) rfl rfl
      | 16, _ =>have hy16 := Qf (g12 (hpr 12 (by decide)));exact hT.skip hpr (by rfl) rfl (by simp [Region.wanted, yielded, hy16]) (fun _ _ => trivial) rfl rfl
      | 17, _ =>have hy17 := Qf (g12 (hpr 12 (by decide)));exact hT.skip hpr (by rfl) rfl (by simp [Region.wanted, yielded, hy17]) (fun _ _ => trivial) rfl rfl
      | 18, _ =>have hy18 := Qf (g12 (hpr 12 (by decide)));exact hT.skip hpr (by rfl) rfl (by simp [Region.wanted, yielded, hy18]) (fun _ _ => trivial) rfl rfl
      | 19, _ =>have hy19 := Qf (g12 (hpr 12 (by decide)));exact hT.skip hpr (by rfl) rfl (by simp [Region.wanted, yielded, hy19]) (fun _ _ => trivial) rfl rfl
      | 20, _ =>have hy20 := Qf (g12 (hpr 12 (by decide)));exact hT.skip hpr (by rfl) rfl (by simp [Region.wanted, yielded, hy20]) (fun _ _ => trivial) rfl rfl
      | 21, _ =>have hy21 := Qf (g12 (hpr 12 (by decide)));exact hT.skip hpr (by rfl) rfl (by simp [Region.wanted, yielded, hy21]) (fun _ _ => trivial) rfl rfl
      | 22, _ =>have hy22 := Qf (g12 (hpr 12 (by decide)));exact hT.skip hpr (by rfl) rfl (by simp [Region.wanted, yielded, hy22]) (fun _ _ => trivial) rfl rfl
      | 23, _ =>have hy23 := Qf (g12 (hpr 12 (by decide)));exact hT.skip hpr (by rfl) rfl (by simp [Region.wanted, yielded, hy23]) (fun _ _ => trivial) rfl rfl
      | 24, _ =>have k12 := g12 (hpr 12 (by decide));have k23 := g23 (hpr 23 (by decide));refine hT.val (w' := X.drew) hpr (by rfl) rfl rfl rfl (fun c h => by cases h) ?_ rfl;simp [execOp, go_sem, k12, k23]
      | j + 25, hj => exact absurd hj (by simp)
     ·intro q a3 w3 hq hT;have g24 : a3.tmps[36]?.getD undef = .bool false := hT.slot 24 _ 36 (hq 24 (by decide)) rfl rfl;refine hK0 a3 w3 (wpIn_cond_false (show a3.eval (.tmp 36) = .bool false by simp [Act.eval, g24]) (wpIn_skip ?_));have hw3 : w3 = X.drew := hT.wd;subst hw3;exact hend
    obtain ⟨Xa, hXa⟩ : ∃ Xa, Xa = X.drew.alloc (.cells #[.int .i64 (i : Int), .int .i64 ca, .int .i64 cb] eI) := ⟨_, rfl⟩
    have hka : ∀ Z, Qq Z X Xa := fun Z => by rw [hXa]; exact (show Qq Z X X.drew from ⟨rfl, rfl, rfl, Nat.le_refl _, fun _ _ _ => rfl⟩).trans (Qq.alloc _ _ _)
    have hea : ∀ Z, Ext Z X Xa := fun Z => by rw [hXa]; exact (show Ext Z X X.drew from ⟨rfl, rfl, rfl, Nat.le_refl _, fun _ _ _ => rfl⟩).trans (Ext.alloc' _ _ _)
    have hsa : Xa.heap.size = X.heap.size + 1 := by rw [hXa]; simp
    have hcA : Xa.cell? ⟨W.heap.size, 0, none⟩ = some yv /\ Xa.cell? ⟨W'.heap.size, 0, none⟩ = some (.int .i64 (i : Int)) /\ Xa.cell? ⟨g, 0, none⟩ = some (.int .i64 ca) /\ Xa.cell? ⟨g, 1, none⟩ = some (.int .i64 cb) := by
     rw [hXa];refine ⟨(hb1d.alloc _).cell, (hb2d.alloc _).cell, ?_, ?_⟩
     ·exact (World.cell?_of_block (w := X.drew) (a := ⟨g, 0, none⟩) (Below.heap_alloc X.drew _ g hgl)).trans hcx.1
     ·exact (World.cell?_of_block (w := X.drew) (a := ⟨g, 1, none⟩) (Below.heap_alloc X.drew _ g hgl)).trans hcx.2
    have hSa : SlI eI (.slice (some ⟨X.heap.size, 0, none⟩) 3 3) [(i : Int), ca, cb] Xa := by rw [hXa]; exact ⟨rfl, .inr ⟨X.heap.size, 3, _, rfl, Nat.zero_le _, World.alloc_heap_new _ _, Nat.le_refl _, by decide, rfl, rfl⟩⟩
    have hJa := hJ.kept _ _ _ _ h4 (hka Y1);have hvYa : ∀ b, Value.ownBlock (.slice (some ⟨X.heap.size, 0, none⟩) 3 3) = some b -> ¬ Y1 b /\ W.heap.size <= b := fun b hb => ⟨fun h => (by simp [Value.ownBlock] at hb; have := hYl b h; omega), (by simp [Value.ownBlock] at hb; omega)⟩
    have hfa : ∀ (pre suf : List (List Int)), (pre ++ [ca, cb] :: suf).filterMap (Qbk i) = pre.filterMap (Qbk i) ++ [(i : Int), ca, cb] :: suf.filterMap (Qbk i) := fun pre suf => by rw [List.filterMap_append, List.filterMap_cons];simp [Qbk, hA, hB]
    have hsplit : ((List.range' 0 n).flatMap fun m => (Qa3 n 2 0).filterMap (Qbk m)) = (D0 ++ pre.filterMap (Qbk i)) ++ [(i : Int), ca, cb] :: (suf.filterMap (Qbk i) ++ (List.range' (i + 1) (n - i - 1)).flatMap fun m => (Qa3 n 2 0).filterMap (Qbk m)) := by
     have e1 : List.range' 0 n = List.range' 0 i ++ i :: List.range' (i + 1) (n - i - 1) := by
      conv => lhs; rw [show n = i + ((n - i - 1) + 1) by omega]
      rw [<- List.range'_append_1, Nat.zero_add, List.range'_succ]
     rw [e1, List.flatMap_append, List.flatMap_cons, <- hD0];have hq : (Qa3 n 2 0).filterMap (Qbk i) = pre.filterMap (Qbk i) ++ [(i : Int), ca, cb] :: suf.filterMap (Qbk i) := by rw [hxs]; exact hfa _ _
     rw [hq];simp [List.append_assoc]
    have hend : ∀ Y' w, J ((D0 ++ pre.filterMap (Qbk i)) ++ [[(i : Int), ca, cb]]) Y' w -> Qca Y1 (some X.heap.size) Xa Y' w -> Qhb (fun pre Yi X => ∃ Y1, (∀ b, Yi b ↔ Y1 b ∨ Ob b) /\ (∀ b, Ob b -> ¬ Y1 b) /\ (∀ b, Ob b -> b < X.heap.size) /\ J (D0 ++ pre.filterMap (Qbk i)) Y1 X /\ Boxed X W'.heap.size eI (.int .i64 (i : Nat)) /\ Boxed X W.heap.size 56 yv /\ Mks W.heap.size ds W'.heap.size X) (pre ++ [[ca, cb]]) Yi (some g) X .normal { tmps := #[], defers := [] } w := fun Y' w hj' ho' => by
     have hall : ∀ b, Ob b -> w.heap[b]? = X.heap[b]? := fun b hb => (ho'.ext.block b (by have := h3 b hb; omega) (h2 b hb)).trans ((hea Qm).block b (h3 b hb) id);have hY' : ∀ b, Y' b -> Y1 b ∨ X.heap.size <= b := fun b hb => by
      rcases ho'.own b hb with h | h | h
      ·exact .inl h
      ·exact .inr (by omega)
      ·cases h; exact .inr (Nat.le_refl _)
     refine ⟨fun b => Y' b ∨ Ob b, ⟨Y', fun _ => Iff.rfl, fun b hb h =>?_, fun b hb => (by have := h3 b hb; have := ho'.ext.size; omega), ?_, (hall _ ((hOb _).2 (.inl rfl))).trans h5, (hall _ ((hOb _).2 (.inr (.inl rfl)))).trans h6, h7.kept fun b hb => hall b ((hOb b).2 (.inr (.inr hb)))⟩, ⟨fun b hb =>?_, ?_⟩⟩
     ·rcases hY' b h with h | h
      ·exact h2 b hb h
      ·have := h3 b hb; omega
     ·rw [hfm, if_pos ⟨hA, hB⟩, <- List.append_assoc];exact hj'
     ·rcases hb with h | h
      ·rcases hY' b h with h | h
       ·exact .inl ((h1 b).2 (.inl h))
       ·exact .inr (.inl h)
      ·exact .inl ((h1 b).2 (.inr h))
     ·exact (hea _).trans (ho'.ext.mono fun b _ h => (h1 b).2 (.inl h))
    refine Qfm Qlv 38 (fun j => match j with | 0 =>.slice (some ⟨g, 0, none⟩) 2 cap | 1 =>.pointer (some ⟨g, 0, none⟩) | 2 =>.int .i64 ca | 3 =>.int .i64 (i : Int) | 4 =>.bool true | 5 =>.bool true | 6 =>.slice (some ⟨g, 0, none⟩) 2 cap | 7 =>.pointer (some ⟨g, 1, none⟩) | 8 =>.int .i64 cb | 9 =>.int .i64 (i : Int) | 10 =>.bool true | 11 =>.bool true | 12 =>.bool true | 13 => yv | 14 =>.int .i64 (i : Int) | 15 =>.slice (some ⟨g, 0, none⟩) 2 cap | 16 =>.pointer (some ⟨g, 0, none⟩) | 17 =>.int .i64 ca | 18 =>.slice (some ⟨g, 0, none⟩) 2 cap | 19 =>.pointer (some ⟨g, 1, none⟩) | 20 =>.int .i64 cb | 21 =>.slice (some ⟨X.heap.size, 0, none⟩) 3 3 | 22 =>.bool true | 23 =>.bool false | 24 =>.bool false | _ => undef) [(2, .pointer (some ⟨W.heap.size, 0, none⟩)), (3, .pointer (some ⟨W'.heap.size, 0, none⟩)), (4, .slice (some ⟨g, 0, none⟩) 2 cap)] (fun q w => (q 22 = true /\ ∃ Y', J ((D0 ++ pre.filterMap (Qbk i)) ++ [[(i : Int), ca, cb]]) Y' w /\ Qca Y1 (some X.heap.size) Xa Y' w) ∨ (q 22 = false /\ ((q 21 = true /\ w = Xa) ∨ (q 21 = false /\ w = X.drew)))) (by decide) ?_ ?_ ?_
    ·exact ⟨rfl, rfl, by simp, fun _ _ _ h => (by cases h), fun _ h => (by cases h), .inr ⟨rfl, .inr ⟨rfl, rfl⟩⟩⟩
    ·intro q j hj hq hpr a3 w3 hT;have f2 := hT.fixed (2, .pointer (some ⟨W.heap.size, 0, none⟩)) (by simp);have f3 := hT.fixed (3, .pointer (some ⟨W'.heap.size, 0, none⟩)) (by simp);have f4 := hT.fixed (4, .slice (some ⟨g, 0, none⟩) 2 cap) (by simp);simp only at f2 f3 f4;have g0 : q 0 = true -> a3.tmps[12]?.getD undef = .slice (some ⟨g, 0, none⟩) 2 cap := fun h => hT.slot 0 _ 12 h rfl rfl;have g1 : q 1 = true -> a3.tmps[13]?.getD undef = .pointer (some ⟨g, 0, none⟩) := fun h => hT.slot 1 _ 13 h rfl rfl;have g2 : q 2 = true -> a3.tmps[14]?.getD undef = .int .i64 ca := fun h => hT.slot 2 _ 14 h rfl rfl;have g3 : q 3 = true -> a3.tmps[15]?.getD undef = .int .i64 (i : Int) := fun h => hT.slot 3 _ 15 h rfl rfl;have g4 : q 4 = true -> a3.tmps[16]?.getD undef = .bool true := fun h => hT.slot 4 _ 16 h rfl rfl;have g5 : q 5 = true -> a3.tmps[17]?.getD undef = .bool true := fun h => hT.slot 5 _ 17 h rfl rfl;have g6 : q 6 = true -> a3.tmps[18]?.getD undef = .slice (some ⟨g, 0, none⟩) 2 cap := fun h => hT.slot 6 _ 18 h rfl rfl;have g7 : q 7 = true -> a3.tmps[19]?.getD undef = .pointer (some ⟨g, 1, none⟩) := fun h => hT.slot 7 _ 19 h rfl rfl;have g8 : q 8 = true -> a3.tmps[20]?.getD undef = .int .i64 cb := fun h => hT.slot 8 _ 20 h rfl rfl;have g9 : q 9 = true -> a3.tmps[21]?.getD undef = .int .i64 (i : Int) := fun h => hT.slot 9 _ 21 h rfl rfl;have g10 : q 10 = true -> a3.tmps[22]?.getD undef = .bool true := fun h => hT.slot 10 _ 22 h rfl rfl;have g11 : q 11 = true -> a3.tmps[23]?.getD undef = .bool true := fun h => hT.slot 11 _ 23 h rfl rfl;have g12 : q 12 = true -> a3.tmps[24]?.getD undef = .bool true := fun h => hT.slot 12 _ 24 h rfl rfl;have g13 : q 13 = true -> a3.tmps[25]?.getD undef = yv := fun h => hT.slot 13 _ 25 h rfl rfl;have g14 : q 14 = true -> a3.tmps[26]?.getD undef = .int .i64 (i : Int) := fun h => hT.slot 14 _ 26 h rfl rfl;have g15 : q 15 = true -> a3.tmps[27]?.getD undef = .slice (some ⟨g, 0, none⟩) 2 cap := fun h => hT.slot 15 _ 27 h rfl rfl;have g16 : q 16 = true -> a3.tmps[28]?.getD undef = .pointer (some ⟨g, 0, none⟩) := fun h => hT.slot 16 _ 28 h rfl rfl;have g17 : q 17 = true -> a3.tmps[29]?.getD undef = .int .i64 ca := fun h => hT.slot 17 _ 29 h rfl rfl;have g18 : q 18 = true -> a3.tmps[30]?.getD undef = .slice (some ⟨g, 0, none⟩) 2 cap := fun h => hT.slot 18 _ 30 h rfl rfl;have g19 : q 19 = true -> a3.tmps[31]?.getD undef = .pointer (some ⟨g, 1, none⟩) := fun h => hT.slot 19 _ 31 h rfl rfl;have g20 : q 20 = true -> a3.tmps[32]?.getD undef = .int .i64 cb := fun h => hT.slot 20 _ 32 h rfl rfl;have g21 : q 21 = true -> a3.tmps[33]?.getD undef = .slice (some ⟨X.heap.size, 0, none⟩) 3 3 := fun h => hT.slot 21 _ 33 h rfl rfl;have g22 : q 22 = true -> a3.tmps[34]?.getD undef = .bool true := fun h => hT.slot 22 _ 34 h rfl rfl;have g23 : q 23 = true -> a3.tmps[35]?.getD undef = .bool false := fun h => hT.slot 23 _ 35 h rfl rfl;have g24 : q 24 = true -> a3.tmps[36]?.getD undef = .bool false := fun h => hT.slot 24 _ 36 h rfl rfl;have c22 : q 22 = true -> q 12 = true /\ q 13 = true /\ q 21 = true := fun h => ⟨hT.cl 22 h 12 (by decide), hT.cl 22 h 13 (by decide), hT.cl 22 h 21 (by decide)⟩
     have c21 : q 21 = true -> q 12 = true /\ q 14 = true /\ q 17 = true /\ q 20 = true := fun h => ⟨hT.cl 21 h 12 (by decide), hT.cl 21 h 14 (by decide), hT.cl 21 h 17 (by decide), hT.cl 21 h 20 (by decide)⟩
     have c12 : q 12 = true -> q 5 = true /\ q 11 = true := fun h => ⟨hT.cl 12 h 5 (by decide), hT.cl 12 h 11 (by decide)⟩
     have c11 : q 11 = true -> q 5 = true /\ q 10 = true := fun h => ⟨hT.cl 11 h 5 (by decide), hT.cl 11 h 10 (by decide)⟩
     have c5 : q 5 = true -> q 4 = true := fun h => hT.cl 5 h 4 (by decide);have c4 : q 4 = true -> q 2 = true /\ q 3 = true := fun h => ⟨hT.cl 4 h 2 (by decide), hT.cl 4 h 3 (by decide)⟩
     have c10 : q 10 = true -> q 5 = true /\ q 8 = true /\ q 9 = true := fun h => ⟨hT.cl 10 h 5 (by decide), hT.cl 10 h 8 (by decide), hT.cl 10 h 9 (by decide)⟩
     have hw22 : q 22 = false -> w3.cell? ⟨W.heap.size, 0, none⟩ = some yv /\ w3.cell? ⟨W'.heap.size, 0, none⟩ = some (.int .i64 (i : Int)) /\ w3.cell? ⟨g, 0, none⟩ = some (.int .i64 ca) /\ w3.cell? ⟨g, 1, none⟩ = some (.int .i64 cb) := fun h => by
      rcases hT.wd with ⟨h', _⟩ | ⟨_, ⟨_, rfl⟩ | ⟨_, rfl⟩⟩
      ·rw [h] at h'; cases h'
      ·exact hcA
      ·exact hcX
     match j, hj with
     | 0, _ =>refine hT.val (w' := w3) hpr (by rfl) rfl rfl rfl (fun c h => by cases h) ?_ (by simpa using hT.wd);simp [execOp, go_sem, f4]
     | 1, _ =>have k0 := g0 (hpr 0 (by decide));refine hT.val (w' := w3) hpr (by rfl) rfl rfl rfl (fun c h => by cases h) ?_ (by simpa using hT.wd);simp [execOp, go_sem, k0]
     | 2, _ =>
      have k1 := g1 (hpr 1 (by decide));have e22 : q 22 = false := by cases h : q 22 with | true => rw [(c4 (c5 (c11 (c12 (c22 h).1).2).1)).1] at hq; cases hq | false => rfl
      obtain ⟨ce0, ce1, ce2, ce3⟩ := hw22 e22;refine hT.val (w' := w3) hpr (by rfl) rfl rfl rfl (fun c h => by cases h) ?_ (by simpa using hT.wd);simp [execOp, go_sem, k1, ce2]
     | 3, _ =>
      have e22 : q 22 = false := by cases h : q 22 with | true => rw [(c4 (c5 (c11 (c12 (c22 h).1).2).1)).2] at hq; cases hq | false => rfl
      obtain ⟨ce0, ce1, ce2, ce3⟩ := hw22 e22;refine hT.val (w' := w3) hpr (by rfl) rfl rfl rfl (fun c h => by cases h) ?_ (by simpa using hT.wd);simp [execOp, go_sem, f3, ce1]
     | 4, _ =>have k2 := g2 (hpr 2 (by decide));have k3 := g3 (hpr 3 (by decide));refine hT.val (w' := w3) hpr (by rfl) rfl rfl rfl (fun c h => by cases h) ?_ (by simpa using hT.wd);simp [execOp, go_sem, k2, k3, hA]
     | 5, _ =>have k4 := g4 (hpr 4 (by decide));refine hT.val (w' := w3) hpr (by rfl) rfl rfl rfl (fun c h => by cases h) ?_ (by simpa using hT.wd);simp [execOp, go_sem, k4]
     | 6, _ =>have hy6 := Qf (g5 (hpr 5 (by decide)));refine hT.val (w' := w3) hpr (by rfl) rfl (by simp [Region.wanted, yielded, hy6]) rfl (fun c h => by cases h) ?_ (by simpa using hT.wd);simp [execOp, go_sem, f4]
     | 7, _ =>have hy7 := Qf (g5 (hpr 5 (by decide)));have k6 := g6 (hpr 6 (by decide));refine hT.val (w' := w3) hpr (by rfl) rfl (by simp [Region.wanted, yielded, hy7]) rfl (fun c h => by cases h) ?_ (by simpa using hT.wd);simp [execOp, go_sem, k6]
     | 8, _ =>
      have hy8 := Qf (g5 (hpr 5 (by decide)));have k7 := g7 (hpr 7 (by decide));have e22 : q 22 = false := by cases h : q 22 with | true => rw [(c10 (c11 (c12 (c22 h).1).2).2).2.1] at hq; cases hq | false => rfl
      obtain ⟨ce0, ce1, ce2, ce3⟩ := hw22 e22;refine hT.val (w' := w3) hpr (by rfl) rfl (by simp [Region.wanted, yielded, hy8]) rfl (fun c h => by cases h) ?_ (by simpa using hT.wd);simp [execOp, go_sem, k7, ce3]
     | 9, _ =>
      have hy9 := Qf (g5 (hpr 5 (by decide)));have e22 : q 22 = false := by cases h : q 22 with | true => rw [(c10 (c11 (c12 (c22 h).1).2).2).2.2] at hq; cases hq | false => rfl
      obtain ⟨ce0, ce1, ce2, ce3⟩ := hw22 e22;refine hT.val (w' := w3) hpr (by rfl) rfl (by simp [Region.wanted, yielded, hy9]) rfl (fun c h => by cases h) ?_ (by simpa using hT.wd);simp [execOp, go_sem, f3, ce1]
     | 10, _ =>have hy10 := Qf (g5 (hpr 5 (by decide)));have k8 := g8 (hpr 8 (by decide));have k9 := g9 (hpr 9 (by decide));refine hT.val (w' := w3) hpr (by rfl) rfl (by simp [Region.wanted, yielded, hy10]) rfl (fun c h => by cases h) ?_ (by simpa using hT.wd);simp [execOp, go_sem, k8, k9, hB]
     | 11, _ =>have k5 := g5 (hpr 5 (by decide));have k10 := g10 (hpr 10 (by decide));refine hT.val (w' := w3) hpr (by rfl) rfl rfl rfl (fun c h => by cases h) ?_ (by simpa using hT.wd);simp [execOp, go_sem, k5, k10]
     | 12, _ =>have k11 := g11 (hpr 11 (by decide));refine hT.val (w' := w3) hpr (by rfl) rfl rfl rfl (fun c h => by cases h) ?_ (by simpa using hT.wd);simp [execOp, go_sem, k11]
     | 13, _ =>
      have hy13 := Qf (g12 (hpr 12 (by decide)));have e22 : q 22 = false := by cases h : q 22 with | true => rw [(c22 h).2.1] at hq; cases hq | false => rfl
      obtain ⟨ce0, ce1, ce2, ce3⟩ := hw22 e22;refine hT.val (w' := w3) hpr (by rfl) rfl (by simp [Region.wanted, yielded, hy13]) rfl (fun c h => by cases h) ?_ (by simpa using hT.wd);simp [execOp, go_sem, f2, ce0]
     | 14, _ =>
      have hy14 := Qf (g12 (hpr 12 (by decide)));have e22 : q 22 = false := by cases h : q 22 with | true => rw [(c21 (c22 h).2.2).2.1] at hq; cases hq | false => rfl
      obtain ⟨ce0, ce1, ce2, ce3⟩ := hw22 e22;refine hT.val (w' := w3) hpr (by rfl) rfl (by simp [Region.wanted, yielded, hy14]) rfl (fun c h => by cases h) ?_ (by simpa using hT.wd);simp [execOp, go_sem, f3, ce1]
     | 15, _ =>have hy15 := Qf (g12 (hpr 12 (by decide)));refine hT.val (w' := w3) hpr (by rfl) rfl (by simp [Region.wanted, yielded, hy15]) rfl (fun c h => by cases h) ?_ (by simpa using hT.wd);simp [execOp, go_sem, f4]
     | 16, _ =>have hy16 := Qf (g12 (hpr 12 (by decide)));have k15 := g15 (hpr 15 (by decide));refine hT.val (w' := w3) hpr (by rfl) rfl (by simp [Region.wanted, yielded, hy16]) rfl (fun c h => by cases h) ?_ (by simpa using hT.wd);simp [execOp, go_sem, k15]
     | 17, _ =>
      have hy17 := Qf (g12 (hpr 12 (by decide)));have k16 := g16 (hpr 16 (by decide));have e22 : q 22 = false := by cases h : q 22 with | true => rw [(c21 (c22 h).2.2).2.2.1] at hq; cases hq | false => rfl
      obtain ⟨ce0, ce1, ce2, ce3⟩ := hw22 e22;refine hT.val (w' := w3) hpr (by rfl) rfl (by simp [Region.wanted, yielded, hy17]) rfl (fun c h => by cases h) ?_ (by simpa using hT.wd);simp [execOp, go_sem, k16, ce2]
     | 18, _ =>have hy18 := Qf (g12 (hpr 12 (by decide)));refine hT.val (w' := w3) hpr (by rfl) rfl (by simp [Region.wanted, yielded, hy18]) rfl (fun c h => by cases h) ?_ (by simpa using hT.wd);simp [execOp, go_sem, f4]
     | 19, _ =>have hy19 := Qf (g12 (hpr 12 (by decide)));have k18 := g18 (hpr 18 (by decide));refine hT.val (w' := w3) hpr (by rfl) rfl (by simp [Region.wanted, yielded, hy19]) rfl (fun c h => by cases h) ?_ (by simpa using hT.wd);simp [execOp, go_sem, k18]
     | 20, _ =>
      have hy20 := Qf (g12 (hpr 12 (by decide)));have k19 := g19 (hpr 19 (by decide));have e22 : q 22 = false := by cases h : q 22 with | true => rw [(c21 (c22 h).2.2).2.2.2] at hq; cases hq | false => rfl
      obtain ⟨ce0, ce1, ce2, ce3⟩ := hw22 e22;refine hT.val (w' := w3) hpr (by rfl) rfl (by simp [Region.wanted, yielded, hy20]) rfl (fun c h => by cases h) ?_ (by simpa using hT.wd);simp [execOp, go_sem, k19, ce3]
     | 21, _ =>
      have hy21 := Qf (g12 (hpr 12 (by decide)));have k14 := g14 (hpr 14 (by decide));have k17 := g17 (hpr 17 (by decide));have k20 := g20 (hpr 20 (by decide));have e22 : q 22 = false := by cases h : q 22 with | true => rw [(c22 h).2.2] at hq; cases hq | false => rfl
      have hw : w3 = X.drew := by
       rcases hT.wd with ⟨h', _⟩ | ⟨_, ⟨h', _⟩ | ⟨_, h'⟩⟩
       ·rw [e22] at h'; cases h'
       ·rw [hq] at h'; cases h'
       ·exact h'
      subst hw;refine hT.val (w' := Xa) hpr (by rfl) rfl (by simp [Region.wanted, yielded, hy21]) rfl (fun c h => by cases h) ?_ (.inr ⟨by simp [e22], .inl ⟨by simp, rfl⟩⟩);simp [execOp, go_sem, k14, k17, k20, hXa]
     | 22, _ =>
      have hy22 := Qf (g12 (hpr 12 (by decide)));have q21 := hpr 21 (by decide);have hw : w3 = Xa := by
       rcases hT.wd with ⟨h', _⟩ | ⟨_, ⟨_, h'⟩ | ⟨h', _⟩⟩
       ·rw [hq] at h'; cases h'
       ·exact h'
       ·rw [q21] at h'; cases h'
      subst hw;have x1 : a3.eval (.tmp 25) = .func (.yield l) #[] #[] := by rw [<- hyv, <- g13 (hpr 13 (by decide))]; simp [Act.eval]
      have x2 : a3.eval (.tmp 33) = .slice (some ⟨X.heap.size, 0, none⟩) 3 3 := by rw [<- g21 q21]; simp [Act.eval]
      refine hT.yld hpr rfl (by rfl) rfl (by simp [Region.wanted, yielded, hy22]) rfl rfl x1 x2 (hY 0 _ _ _ (.slice (some ⟨X.heap.size, 0, none⟩) 3 3) Y1 w3 hsplit hJa hSa hvYa) fun e w' he =>?_;exact ⟨he.1, .inl ⟨by simp, he.2⟩⟩
     | 23, _ =>have hy23 := Qf (g12 (hpr 12 (by decide)));have k22 := g22 (hpr 22 (by decide));refine hT.val (w' := w3) hpr (by rfl) rfl (by simp [Region.wanted, yielded, hy23]) rfl (fun c h => by cases h) ?_ (by simpa using hT.wd);simp [execOp, go_sem, k22]
     | 24, _ =>have k12 := g12 (hpr 12 (by decide));have k23 := g23 (hpr 23 (by decide));refine hT.val (w' := w3) hpr (by rfl) rfl rfl rfl (fun c h => by cases h) ?_ (by simpa using hT.wd);simp [execOp, go_sem, k12, k23]
     | j + 25, hj => exact absurd hj (by simp)
    ·intro q a3 w3 hq hT;have g24 : a3.tmps[36]?.getD undef = .bool false := hT.slot 24 _ 36 (hq 24 (by decide)) rfl rfl;refine hK0 a3 w3 (wpIn_cond_false (show a3.eval (.tmp 36) = .bool false by simp [Act.eval, g24]) (wpIn_skip ?_));obtain ⟨Y', hj', ho'⟩ := hT.wd.elim (fun h => h.2) (fun h => by rw [hq 22 (by decide)] at h; cases h.1);exact hend Y' w3 hj' ho'
   case done =>
    rintro D Yi X hD hDY ⟨Y1, h1, h2, h3, h4, h5, h6, h7⟩ hown hDd;have q5 := hown.ext.size
    gi_wp2
    have hYlt1 := hJ.lt _ _ _ h4;refine ⟨⟨i + 1, { target :=.collected D, args := #[] } :: ds, Y1, ?_⟩, ?_⟩
    ·(repeat apply Exists.intro)
     refine ⟨⟨by omega, ⟨?_, ⟨fun b hb =>?_, ?_⟩, h6, h2 _ ((hOb _).2 (.inr (.inl rfl))), ⟨D, rfl, (by have := hI.o.ext.size; omega), (Array.getElem?_eq_some_iff.1 hDd).1, hDd, h7.hi (by omega)⟩, ?_⟩⟩, rfl⟩
     ·rw [List.range'_1_concat, List.flatMap_append, <- hD0, Nat.zero_add];simp only [List.flatMap_cons, List.flatMap_nil, List.append_nil];exact h4
     ·rcases hown.own b ((h1 b).2 (.inl hb)) with (h | h) | h | h
      ·exact hI.o.own b h
      ·exact absurd hb (h2 b h)
      ·have := hI.o.ext.size;exact .inr (.inl (by omega))
      ·cases h
     ·refine (hI.o.ext.trans (he2 _)).trans' hown.ext fun b hb h =>?_;rcases h with h | h
      ·rcases hI.o.own b h with h | h | h
       ·exact h
       ·omega
       ·cases h
      ·rcases (hOb b).1 h with rfl | rfl | h
       ·have := hI.o.ext.size; omega
       ·omega
       ·have := (hI.ms.lt h).1; omega
     ·rintro b (hb | hb)
      ·cases hb; exact fun h => hDY ((h1 D).2 (.inl h))
      ·exact h2 b ((hOb b).2 (.inr (.inr hb)))
    ·simp [intOf]; omega
  ·have hin' : (n : Int) <= (i : Int) := by omega
   have e : i = n := by omega
   subst e
   gi_wp2
   show LeavesInM _ _ _ _ _ _ _ _ _;refine Qea ds _ W' hI.ms fun w' hw => ⟨_, results_none rfl _ _ _, ⟨_, rfl⟩, Y, ?_, hI.o.own, ?_⟩
   ·exact hJ.kept _ _ _ _ hI.j (hw.kept fun b _ hb hm => hI.nm b hm hb)
   ·exact ⟨hw.os.trans hI.o.ext.os, hw.tape.trans hI.o.ext.tape, hw.output.trans hI.o.ext.output, Nat.le_trans hI.o.ext.size hw.size, fun b hb hn => (hw.block b (Nat.lt_of_lt_of_le hb hI.o.ext.size) (fun hm => by have := (hI.ms.lt hm).1; omega)).trans (hI.o.ext.block b hb hn)⟩
end Go.Proofs.Ytohmbopehhgacaa
namespace Go.Proofs.Ytohmbopehhgacaa
open Go Go.FW Go.RowKit Go.Shelf
attribute [local go_sem] Oper.semAt_some
theorem Qjn (m : Nat) (w : World) (a : Int) (ft : FuncId) : CallsIn Fence.wide m Try.prog 10 #[.int .i64 a, .func (.func ft) #[] #[]] w fun e w' =>
  e = .returned (.func (.func 19) #[] #[.pointer (some ⟨w.heap.size, 0, none⟩), .pointer (some ⟨w.heap.size + 1, 0, none⟩)]) /\
  w' = (w.alloc (.cells #[.int .i64 a] 3)).alloc (.cells #[.func (.func ft) #[] #[]] 44) := by
 refine callsIn_of_wp Try.func10 rfl trivial ?_ rfl;simp only [Try.ntmps10, List.size_toArray, List.length_cons, List.length_nil, Nat.reduceAdd, Nat.reduceSub, Array.replicate_succ, Array.replicate_zero, List.push_toArray, List.append_toArray, List.nil_append, List.cons_append]
 gi_wp2
 go_ret
 exact ⟨rfl, rfl⟩
structure Qc9 (lo hi : Nat) (gf : FuncId) (lb : Array Value) (xs : List (List Int)) (w : World) : Prop where
 en : ∀ args w, (callFunc gf args).run Try.prog w = .ok (.enter gf args) w
 sz : hi <= w.heap.size
 sq : ∃ B, Qfl Fence.wide Try.prog gf lb eI B xs w /\ ∀ b, B b -> lo < b /\ b < hi
theorem Qc9.kept {lo hi : Nat} {gf : FuncId} {lb : Array Value} {xs : List (List Int)} {w w' : World} (h : Qc9 lo hi gf lb xs w) (hk : Qq (fun b => lo < b /\ b < hi) w w') : Qc9 lo hi gf lb xs w' := by obtain ⟨B, h1, h2⟩ := h.sq;exact ⟨h.en, Nat.le_trans h.sz hk.size, B, fun n l J Y0 W hW hJ hY hr h0 => h1 n l J Y0 W ((hk.mono fun b _ hb => h2 b hb).trans hW) hJ hY hr h0, h2⟩
theorem Qc9.hi {lo hi hi' : Nat} {gf : FuncId} {lb : Array Value} {xs : List (List Int)} {w : World} (h : Qc9 lo hi gf lb xs w) (h1 : hi <= hi') (h2 : hi' <= w.heap.size) : Qc9 lo hi' gf lb xs w := by obtain ⟨B, h3, h4⟩ := h.sq;exact ⟨h.en, h2, B, h3, fun b hb => ⟨(h4 b hb).1, Nat.lt_of_lt_of_le (h4 b hb).2 h1⟩⟩
theorem Qc9.ext {lo : Nat} {gf : FuncId} {lb : Array Value} {xs : List (List Int)} {w w' : World} (h : Qc9 lo w.heap.size gf lb xs w) (he : Ext Qm w w') : Qc9 lo w'.heap.size gf lb xs w' :=
 (h.kept (he.kept fun _ _ _ h => h)).hi he.size (Nat.le_refl _)
theorem Qgy (n k lo m : Nat) (hn : n < 100) (hk : k < 100) (w : World) (hlo : lo < w.heap.size) : CallsIn Fence.wide m Try.prog 9 #[.int .i64 0, .int .i64 (n : Nat), .int .i64 (k : Nat)] w fun e w' =>
  ∃ lb, e = .returned (.func (.func 18) #[] lb) /\ Ext Qm w w' /\ Qc9 lo w'.heap.size 18 lb (Qa3 n k 0) w' := by
 refine (Qd7 m w 0 n k).mono ?_;rintro e w' ⟨rfl, rfl⟩;refine ⟨_, rfl, ((Ext.alloc' _ _ _).trans (Ext.alloc' _ _ _)).trans (Ext.alloc' _ _ _), enters_of Try.func18 (by kernel_rfl) rfl, Nat.le_refl _, _, Qgx n hn k 0 _ _ _ _ hk ?_ ?_ ?_ (by omega), fun b hb =>?_⟩
 ·have := Boxed.new ((w.alloc (.cells #[.int .i64 0] 3)).alloc (.cells #[.int .i64 (n : Int)] 3)) 3 (.int .i64 (k : Int));simp only [World.size_alloc] at this;exact this
 ·exact ((Boxed.new w 3 _).alloc _).alloc _
 ·have := Boxed.new (w.alloc (.cells #[.int .i64 0] 3)) 3 (.int .i64 (n : Int));simp only [World.size_alloc] at this;exact this.alloc _
 ·simp only [World.size_alloc];rcases hb with rfl | rfl | rfl <;> omega
theorem Qpx (n lo m : Nat) (hn : n < 100) (w : World) (hlo : lo < w.heap.size) : CallsIn Fence.wide m Try.prog 13 #[.int .i64 (n : Nat)] w fun e w' =>
  ∃ lb, e = .returned (.func (.func 21) #[] lb) /\ Ext Qm w w' /\ Qc9 lo w'.heap.size 21 lb ((List.range' 0 n).flatMap fun m => (Qa3 n 2 0).filterMap (Qbk m)) w' := by
 refine (Qjb m w n).mono ?_;rintro e w' ⟨rfl, rfl⟩;refine ⟨_, rfl, Ext.alloc' _ _ _, enters_of Try.func21 (by kernel_rfl) rfl, Nat.le_refl _, _, Qpw n hn _ _ (Boxed.new w 3 _), fun b hb =>?_⟩;subst hb;simp only [World.size_alloc];omega
structure Qly (n : Nat) (S : List (Int × Int)) : Prop where
 len : S.length <= 400
 seg : ∀ (m : Nat) (w : World), CallsIn Fence.wide m Try.prog 20 #[.int .i64 (n : Nat)] w fun e w' => ∃ a cap, e = .returned (.slice a S.length cap) /\ Ext Qm w w' /\
   ∀ i (h : i < S.length), ∃ b off, a = some ⟨b, off, none⟩ /\ b < w'.heap.size /\ w.heap.size <= b /\ S.length <= cap /\ w'.cell? ⟨b, off + i * 2, none⟩ = some (.int .i64 S[i].1) /\ w'.cell? ⟨b, off + i * 2 + 1, none⟩ = some (.int .i64 S[i].2)
 apart : ∀ (m : Nat) (s1 s2 t1 t2 : Int) (w : World), CallsIn Fence.wide m Try.prog 11 #[.agg #[.int .i64 s1, .int .i64 s2], .agg #[.int .i64 t1, .int .i64 t2]] w fun e w' => e = .returned (.bool (Qc7 (s1, s2) (t1, t2))) /\ Ext Qm w w'
 differs : ∀ (m : Nat) (s1 s2 t1 t2 : Int) (w : World), CallsIn Fence.wide m Try.prog 12 #[.agg #[.int .i64 s1, .int .i64 s2], .agg #[.int .i64 t1, .int .i64 t2]] w fun e w' => e = .returned (.bool (Qc8 (s1, s2) (t1, t2))) /\ Ext Qm w w'
theorem Qlz (n lo m : Nat) (S : List (Int × Int)) (hS : Qly n S) (w : World) (hlo : lo < w.heap.size) : CallsIn Fence.wide m Try.prog 10 #[.int .i64 (n : Nat), .func (.func 11) #[] #[]] w fun e w' =>
  ∃ lb, e = .returned (.func (.func 19) #[] lb) /\ Ext Qm w w' /\ Qc9 lo w'.heap.size 19 lb (Qax Qc7 S) w' := by
 refine (Qjn m w n _).mono ?_;rintro e w' ⟨rfl, rfl⟩;refine ⟨_, rfl, (Ext.alloc' _ _ _).trans (Ext.alloc' _ _ _), enters_of Try.func19 (by kernel_rfl) rfl, Nat.le_refl _, _, Qlw Qc7 S hS.len n hS.seg hS.apart _ _ _ ((Boxed.new w 3 _).alloc _) ?_, fun b hb =>?_⟩
 ·have := Boxed.new (w.alloc (.cells #[.int .i64 (n : Int)] 3)) 44 (.func (.func 11) #[] #[]);simp only [World.size_alloc] at this;exact this
 ·simp only [World.size_alloc];rcases hb with rfl | rfl <;> omega
theorem Qhc (n lo m : Nat) (S : List (Int × Int)) (hS : Qly n S) (w : World) (hlo : lo < w.heap.size) : CallsIn Fence.wide m Try.prog 10 #[.int .i64 (n : Nat), .func (.func 12) #[] #[]] w fun e w' =>
  ∃ lb, e = .returned (.func (.func 19) #[] lb) /\ Ext Qm w w' /\ Qc9 lo w'.heap.size 19 lb (Qax Qc8 S) w' := by
 refine (Qjn m w n _).mono ?_;rintro e w' ⟨rfl, rfl⟩;refine ⟨_, rfl, (Ext.alloc' _ _ _).trans (Ext.alloc' _ _ _), enters_of Try.func19 (by kernel_rfl) rfl, Nat.le_refl _, _, Qlx Qc8 S hS.len n hS.seg hS.differs _ _ _ ((Boxed.new w 3 _).alloc _) ?_, fun b hb =>?_⟩
 ·have := Boxed.new (w.alloc (.cells #[.int .i64 (n : Int)] 3)) 44 (.func (.func 12) #[] #[]);simp only [World.size_alloc] at this;exact this
 ·simp only [World.size_alloc];rcases hb with rfl | rfl <;> omega
def Qe4 (n : Nat) (S : List (Int × Int)) : List (Int × List (List Int)) :=
 [(1, Qa3 n 3 0), (2, Qax Qc7 S), (3, Qax Qc8 S), (4, Qax Qc8 S), (5, (List.range' 0 n).flatMap fun m => (Qa3 n 2 0).filterMap (Qbk m)), (6, Qa3 n 4 0), (8, Qa3 n 2 0)]
def Qa5 (x : Int × List Int × Value) : List Value := [.int .i64 x.1, x.2.2, .bool false, .slice none 0 0, .slice none 0 0]
structure Qek (lo base : Nat) (L : List (Int × List Int × Value)) (vo : Value) (Y : Nat -> Prop) (X : World) : Prop where
 bx : Boxed X lo 23 vo
 row : X.ownsRow base 38 5 vo L.length (L.flatMap Qa5)
 rowY : ∀ b, vo.ownBlock = some b -> Y b
 loY : Y lo
 arg : ∀ x ∈ L, SlI eI x.2.2 x.2.1 X /\ ∀ b, x.2.2.ownBlock = some b -> Y b /\ base <= b
theorem Qgz {w w' : World} {base : Nat} {e : TypeId} {size n : Nat} {v : Value} {xs : List Value} (h : w.ownsRow base e size v n xs) (hk : ∀ b, v.ownBlock = some b -> w'.heap[b]? = w.heap[b]?) : w'.ownsRow base e size v n xs := by
 refine ⟨h.1, ?_⟩;rcases h.2 with h2 | ⟨g, cap, cur, rfl, h3, hg, h4⟩
 ·exact .inl h2
 ·exact .inr ⟨g, cap, cur, rfl, h3, (hk g rfl).trans hg, h4⟩
theorem Qek.kept {lo base : Nat} {L : List (Int × List Int × Value)} {vo : Value} {Y : Nat -> Prop} {X X' : World} (h : Qek lo base L vo Y X) (hk : Qq Y X X') : Qek lo base L vo Y X' :=
 ⟨(hk.block lo h.bx.lt h.loY).trans h.bx, Qgz h.row fun b hb => hk.block b ((h.row.lt b hb).2) (h.rowY b hb), h.rowY, h.loY, fun x hx => ⟨(h.arg x hx).1.kept fun b hb => hk.block b (by obtain ⟨cur, h⟩ := (h.arg x hx).1.lt hb;exact (Array.getElem?_eq_some_iff.1 h).1) ((h.arg x hx).2 b hb).1, (h.arg x hx).2⟩⟩
theorem Qek.step {lo base : Nat} {L : List (Int × List Int × Value)} {vo : Value} {Y : Nat -> Prop} {X : World} (h : Qek lo base L vo Y X) {k : Int} {c : List Int} {v v' : Value} {X1 X2 : World} {o : Obj}
  (hv : SlI eI v c X) (hvb : ∀ b, v.ownBlock = some b -> base <= b) (hlb : lo < base) (hX1 : X1 = X.alloc o)
  (hr : X2.ownsRow base 38 5 v' (L.length + 1) (L.flatMap Qa5 ++ Qa5 (k, c, v))) (hg : X1.grownBy X2 vo.ownBlock) (hb : v'.ownBlock = vo.ownBlock ∨ v'.ownBlock = some X1.heap.size) :
  Qek lo base (L ++ [(k, c, v)]) v' (fun b => Y b ∨ X.heap.size <= b /\ b < (X2.setCell ⟨lo, 0, none⟩ v').heap.size ∨ v.ownBlock = some b) (X2.setCell ⟨lo, 0, none⟩ v') /\ Ext Y X (X2.setCell ⟨lo, 0, none⟩ v') /\ ∀ b, b < X.heap.size -> b ≠ lo -> vo.ownBlock ≠ some b -> (X2.setCell ⟨lo, 0, none⟩ v').heap[b]? = X.heap[b]? := by
 have hs1 : X1.heap.size = X.heap.size + 1 := by rw [hX1]; simp
 have hk1 : ∀ b, b < X.heap.size -> X1.heap[b]? = X.heap[b]? := fun b hb => by rw [hX1]; exact Below.heap_alloc X _ b hb
 have hlol := h.bx.lt;have hnr : vo.ownBlock ≠ some lo := fun e => by have := (h.row.lt _ e).1; omega
 have hnr' : v'.ownBlock ≠ some lo := fun e => by
  rcases hb with h' | h'
  ·exact hnr (h'.symm.trans e)
  ·rw [h'] at e; cases e; omega
 have hb1 : Boxed X1 lo 23 vo := (hk1 lo hlol).trans h.bx;have hb2 : Boxed X2 lo 23 vo := (hg.block lo (by omega) (fun e => hnr e.symm)).trans hb1;have hsz : (X2.setCell ⟨lo, 0, none⟩ v').heap.size = X2.heap.size := by simp
 have hoth : ∀ b, b ≠ lo -> (X2.setCell ⟨lo, 0, none⟩ v').heap[b]? = X2.heap[b]? := fun b hb => by
  have := (grownBy_setCell' X2 lo v').block b;rcases Nat.lt_or_ge b X2.heap.size with h' | h'
  ·exact this h' (fun e => hb (by cases e; rfl))
  ·rw [Array.getElem?_eq_none h', Array.getElem?_eq_none (by omega)]
 have hgs := hg.size;refine ⟨⟨hb2.set v', ?_, fun b hb' =>?_, .inl h.loY, fun x hx =>?_⟩, ?_, fun b hb' h1 h2 => (hoth b h1).trans ((hg.block b (by omega) fun e => h2 e.symm).trans (hk1 b hb'))⟩
 ·have e1 : (L ++ [(k, c, v)]).flatMap Qa5 = L.flatMap Qa5 ++ Qa5 (k, c, v) := by simp
  rw [List.length_append, List.length_singleton, e1];exact Qgz hr fun b hb' => hoth b (fun e => hnr' (by rw [hb', e]))
 ·rcases hb with h' | h'
  ·exact .inl (h.rowY b (h'.symm.trans hb'))
  ·rw [h'] at hb';cases hb';exact .inr (.inl ⟨by omega, by have := (hr.lt _ h').2; omega⟩)
 ·rcases List.mem_append.1 hx with hx | hx
  ·obtain ⟨h1, h2⟩ := h.arg x hx;refine ⟨h1.kept fun b hb' =>?_, fun b hb' => ⟨.inl (h2 b hb').1, (h2 b hb').2⟩⟩;obtain ⟨cur, hc⟩ := h1.lt hb';have hbl := (Array.getElem?_eq_some_iff.1 hc).1;refine (hoth b (by have := (h2 b hb').2; omega)).trans ((hg.block b (by omega) fun e =>?_).trans (hk1 b hbl));rcases h.row.2 with ⟨rfl, _⟩ | ⟨g, cap, cur', rfl, _, hg', _⟩
   ·cases e
   ·cases e;rw [hc] at hg';cases hg'
  ·rw [List.mem_singleton] at hx;subst hx;refine ⟨hv.kept fun b hb' =>?_, fun b hb' => ⟨.inr (.inr hb'), hvb b hb'⟩⟩;obtain ⟨cur, hc⟩ := hv.lt hb';have hbl := (Array.getElem?_eq_some_iff.1 hc).1;refine (hoth b (by have := hvb b hb'; omega)).trans ((hg.block b (by omega) fun e =>?_).trans (hk1 b hbl));rcases h.row.2 with ⟨rfl, _⟩ | ⟨g, cap, cur', rfl, _, hg', _⟩
   ·cases e
   ·cases e;rw [hc] at hg';cases hg'
 ·refine ⟨hg.os.trans (by rw [hX1]; rfl), hg.tape.trans (by rw [hX1]; rfl), hg.output.trans (by rw [hX1]; rfl), by omega, fun b hb' hn =>?_⟩;exact (hoth b (fun e => hn (e ▸ h.loY))).trans ((hg.block b (by omega) fun e => hn (h.rowY b e.symm)).trans (hk1 b hb'))
end Go.Proofs.Ytohmbopehhgacaa
namespace Go.Proofs.Ytohmbopehhgacaa
open Go Go.FW Go.RowKit Go.Shelf
attribute [local go_sem] Oper.semAt_some
def zF : Value :=.agg #[.int .i64 0, .slice none 0 0, .bool false, .slice none 0 0, .slice none 0 0]
theorem Qwz : (Try.prog.info? 38).map (fun i => (i.zero, i.size, i.bytes)) = some (some zF, 5, 88) := by kernel_rfl
structure Qjo (lo base gb : Nat) (kd : Int) (fv : Value) (ds : List Deferred) (hi : Nat) (D : List (Int × List Int)) (Y : Nat -> Prop) (X : World) : Prop where
 fct : ∃ L vo, L.map (fun x => (x.1, x.2.1)) = D /\ Qek lo base L vo Y X
 yb : ∀ b, Y b -> (b = lo ∨ base <= b) /\ b < X.heap.size
 gh : X.heap[gb]? = some (.cells #[.int .i64 kd, fv] 42 (0, 0))
 gy : Y gb
 ms : Mks base ds hi X
 my : ∀ b, Mks.blk ds b -> Y b
theorem Qjo.kept {lo base gb : Nat} {kd : Int} {fv : Value} {ds : List Deferred} {hi : Nat} {D : List (Int × List Int)} {Y : Nat -> Prop} {X X' : World} (h : Qjo lo base gb kd fv ds hi D Y X) (hk : Qq Y X X') : Qjo lo base gb kd fv ds hi D Y X' := by obtain ⟨L, vo, h1, h2⟩ := h.fct;exact ⟨⟨L, vo, h1, h2.kept hk⟩, fun b hb => ⟨(h.yb b hb).1, Nat.lt_of_lt_of_le (h.yb b hb).2 hk.size⟩, (hk.block _ (h.yb _ h.gy).2 h.gy).trans h.gh, h.gy, h.ms.kept fun b hb => hk.block b (h.yb b (h.my b hb)).2 (h.my b hb), h.my⟩
theorem Qek.mono {lo base : Nat} {L : List (Int × List Int × Value)} {vo : Value} {Y Y' : Nat -> Prop} {X : World} (h : Qek lo base L vo Y X) (hY : ∀ b, b < X.heap.size -> Y b -> Y' b) : Qek lo base L vo Y' X :=
 ⟨h.bx, h.row, fun b hb => hY b (h.row.lt b hb).2 (h.rowY b hb), hY lo h.bx.lt h.loY, fun x hx => ⟨(h.arg x hx).1, fun b hb => ⟨hY b (by obtain ⟨cur, h⟩ := (h.arg x hx).1.lt hb;exact (Array.getElem?_eq_some_iff.1 h).1) ((h.arg x hx).2 b hb).1, ((h.arg x hx).2 b hb).2⟩⟩⟩
structure Qw0 (lo G : Nat) (D : List (Int × List Int)) (W Wg : World) (ds : List Deferred) (X : World) : Prop where
 fct : ∃ L vo, L.map (fun x => (x.1, x.2.1)) = D /\ Qek lo (G + 1) L vo (fun b => b = lo ∨ G + 1 <= b) X
 kp : Qq (fun b => lo < b /\ b <= G) Wg X
 ex : Ext Qm W X
 ms : Mks (G + 1) ds X.heap.size X
def Qsl (F : List (Int × List Int)) (W W' : World) (vo : Value) : Prop := ∃ (L : List (Int × List Int × Value)) (base : Nat), L.map (fun x => (x.1, x.2.1)) = F /\ Ext Qm W W' /\ W.heap.size < base /\
 W'.ownsRow base 38 5 vo L.length (L.flatMap Qa5) /\ ∀ x ∈ L, SlI eI x.2.2 x.2.1 W' /\ ∀ b, x.2.2.ownBlock = some b -> base <= b
def Qhd (n : Nat) (S : List (Int × Int)) : List (Int × List Int) := (Qe4 n S).flatMap fun g => g.2.map fun l => (g.1, l)
set_option maxHeartbeats 4000000 in
theorem Qsm (n : Nat) (hn : n <= 10) (S : List (Int × Int)) (hS : Qly n S) (hlen : (Qhd n S).length <= 100000) (m : Nat) (W : World) :
  CallsIn Fence.wide m Try.prog 5 #[.int .i64 (n : Nat)] W fun e W' => ∃ vo, e = .returned (.tuple #[vo, .int .i64 0]) /\ Qsl (Qhd n S) W W' vo := by
 refine callsIn_of_wp_marks Try.func5 rfl trivial ?_ rfl;simp only [Try.ntmps5, List.size_toArray, List.length_cons, List.length_nil, Nat.reduceAdd, Nat.reduceSub, Array.replicate_succ, Array.replicate_zero, List.push_toArray, List.append_toArray, List.nil_append, List.cons_append];have k1 : ¬ (n : Int) < 0 := by omega
 have k2 : ¬ (40 : Int) < (n : Int) := by omega
 have k3 : ¬ (10 : Int) < (n : Int) := by omega
 gi_wp2_with (first | (refine ⟨trivial, hdd _, ?_⟩; refine (Qgy n 3 W.heap.size _ (by omega) (by omega) _ (by simp)).mono ?_; rintro e w1 ⟨lb1, rfl, hE1, hG1⟩) | fail)
 have z1 : W.heap.size < w1.heap.size := by have := hE1.size; simp at this; omega
 refine ⟨trivial, hdd _, ?_⟩;refine (Qlz n W.heap.size _ S hS _ z1).mono ?_;rintro e w2 ⟨lb2, rfl, hE2, hG2⟩;have z2 : W.heap.size < w2.heap.size := Nat.lt_of_lt_of_le z1 hE2.size
 gi_wp2
 refine ⟨trivial, hdd _, ?_⟩;refine (Qhc n W.heap.size _ S hS _ z2).mono ?_;rintro e w3 ⟨lb3, rfl, hE3, hG3⟩;have z3 : W.heap.size < w3.heap.size := Nat.lt_of_lt_of_le z2 hE3.size
 gi_wp2
 refine ⟨trivial, hdd _, ?_⟩;refine (Qhc n W.heap.size _ S hS _ z3).mono ?_;rintro e w4 ⟨lb4, rfl, hE4, hG4⟩;have z4 : W.heap.size < w4.heap.size := Nat.lt_of_lt_of_le z3 hE4.size
 gi_wp2
 refine ⟨trivial, hdd _, ?_⟩;refine (Qpx n W.heap.size _ (by omega) _ z4).mono ?_;rintro e w5 ⟨lb5, rfl, hE5, hG5⟩;have z5 : W.heap.size < w5.heap.size := Nat.lt_of_lt_of_le z4 hE5.size
 gi_wp2
 refine ⟨trivial, hdd _, ?_⟩;refine (Qgy n 4 W.heap.size _ (by omega) (by omega) _ z5).mono ?_;rintro e w6 ⟨lb6, rfl, hE6, hG6⟩;have z6 : W.heap.size < w6.heap.size := Nat.lt_of_lt_of_le z5 hE6.size
 gi_wp2
 refine ⟨trivial, hdd _, ?_⟩;refine (Qgy n 2 W.heap.size _ (by omega) (by omega) _ z6).mono ?_;rintro e w7 ⟨lb7, rfl, hE7, hG7⟩;have z7 : W.heap.size < w7.heap.size := Nat.lt_of_lt_of_le z6 hE7.size;have e7 : Ext Qm (W.alloc (.cells #[.slice none 0 0] 23)) w7 := (((((hE1.trans hE2).trans hE3).trans hE4).trans hE5).trans hE6).trans hE7;replace hG6 := hG6.ext hE7;replace hG5 := hG5.ext (hE6.trans hE7);replace hG4 := hG4.ext ((hE5.trans hE6).trans hE7);replace hG3 := hG3.ext (((hE4.trans hE5).trans hE6).trans hE7);replace hG2 := hG2.ext ((((hE3.trans hE4).trans hE5).trans hE6).trans hE7);replace hG1 := hG1.ext (((((hE2.trans hE3).trans hE4).trans hE5).trans hE6).trans hE7);clear hE1 hE2 hE3 hE4 hE5 hE6 hE7 z1 z2 z3 z4 z5 z6
 gi_wp2
 obtain ⟨G, hG⟩ : ∃ G, G = w7.heap.size := ⟨_, rfl⟩
 obtain ⟨Wg, hWg⟩ : ∃ Wg, Wg = w7.alloc (.cells #[.int .i64 1, .func (.func 18) #[] lb1, .int .i64 2, .func (.func 19) #[] lb2, .int .i64 3, .func (.func 19) #[] lb3, .int .i64 4, .func (.func 19) #[] lb4, .int .i64 5, .func (.func 21) #[] lb5, .int .i64 6, .func (.func 18) #[] lb6, .int .i64 8, .func (.func 18) #[] lb7] 42) := ⟨_, rfl⟩
 have hgs : ∀ i, i < 7 -> ∃ kd gf lb xs, (Qe4 n S)[i]? = some (kd, xs) /\ Wg.cell? ⟨G, i * 2, none⟩ = some (.int .i64 kd) /\ Wg.cell? ⟨G, i * 2 + 1, none⟩ = some (.func (.func gf) #[] lb) /\ Qc9 W.heap.size G gf lb xs Wg := by
  have hk : ∀ Y, Qq Y w7 Wg := fun Y => by rw [hWg]; exact Qq.alloc _ _ _
  have hc : Wg.heap[G]? = some (.cells #[.int .i64 1, .func (.func 18) #[] lb1, .int .i64 2, .func (.func 19) #[] lb2, .int .i64 3, .func (.func 19) #[] lb3, .int .i64 4, .func (.func 19) #[] lb4, .int .i64 5, .func (.func 21) #[] lb5, .int .i64 6, .func (.func 18) #[] lb6, .int .i64 8, .func (.func 18) #[] lb7] 42 (0, 0)) := by rw [hWg, hG]; exact World.alloc_heap_new w7 _
  subst hG;intro i hi
  match i, hi with
  | 0, _ => exact ⟨_, _, _, _, rfl, by simp [World.cell?, hc], by simp [World.cell?, hc], hG1.kept (hk _)⟩
  | 1, _ => exact ⟨_, _, _, _, rfl, by simp [World.cell?, hc], by simp [World.cell?, hc], hG2.kept (hk _)⟩
  | 2, _ => exact ⟨_, _, _, _, rfl, by simp [World.cell?, hc], by simp [World.cell?, hc], hG3.kept (hk _)⟩
  | 3, _ => exact ⟨_, _, _, _, rfl, by simp [World.cell?, hc], by simp [World.cell?, hc], hG4.kept (hk _)⟩
  | 4, _ => exact ⟨_, _, _, _, rfl, by simp [World.cell?, hc], by simp [World.cell?, hc], hG5.kept (hk _)⟩
  | 5, _ => exact ⟨_, _, _, _, rfl, by simp [World.cell?, hc], by simp [World.cell?, hc], hG6.kept (hk _)⟩
  | 6, _ => exact ⟨_, _, _, _, rfl, by simp [World.cell?, hc], by simp [World.cell?, hc], hG7.kept (hk _)⟩
  | i + 7, h => omega
 have hsG : Wg.heap.size = G + 1 := by rw [hWg, hG]; simp
 have hlG : W.heap.size < G := by rw [hG]; exact z7
 have hEg : Ext Qm (W.alloc (.cells #[.slice none 0 0] 23)) Wg := e7.trans (by rw [hWg]; exact Ext.alloc' _ _ _);have hbg : Boxed Wg W.heap.size 23 (.slice none 0 0) := (hEg.block _ (by simp) id).trans (Boxed.new W _ _);rw [<- hWg, <- hG];clear hG1 hG2 hG3 hG4 hG5 hG6 hG7 e7 z7;clear hWg hG;refine wpIn_loop (fun a' X0 => ∃ (i : Nat) (ds : List Deferred) (u1 u5 u6 u7 u8 u9 u10 u11 u12 u13 u14 u15 u16 u17 u18 u19 u20 u21 u22 u23 u24 u25 u26 u27 u28 u29 u30 u31 u32 u33 u34 u35 u36 u40 u41 u42 u43 u44 u45 u46 u47 u48 u49 u50 u51 u52 u53 u54 : Value), (i <= 7 /\ Qw0 W.heap.size G (((Qe4 n S).take i).flatMap fun g => g.2.map fun l => (g.1, l)) W Wg ds X0) /\ a' = ⟨#[.int .i64 (n : Int), u1, .slice none 0 0, .int .i64 0, .pointer (some ⟨W.heap.size, 0, none⟩), u5, u6, u7, u8, u9, u10, u11, u12, u13, u14, u15, u16, u17, u18, u19, u20, u21, u22, u23, u24, u25, u26, u27, u28, u29, u30, u31, u32, u33, u34, u35, u36, .slice (some ⟨G, 0, none⟩) 7 7, .int .i64 7, .int .i64 (i : Int), u40, u41, u42, u43, u44, u45, u46, u47, u48, u49, u50, u51, u52, u53, u54], ds⟩)
  (fun a' _ => 7 - (intOf (a'.tmps.getD 39 undef)).toNat) ?_ ?_
 ·refine ⟨0, [], ?_⟩
  (repeat apply Exists.intro)
  refine ⟨⟨Nat.zero_le _, ⟨[], .slice none 0 0, rfl, ⟨hbg, World.ownsRow_nil _ _ _ _, fun b hb => (by cases hb), .inl rfl, fun x hx => (by cases hx)⟩⟩, Qq.refl _ _, (Ext.alloc' _ _ _).trans hEg, trivial⟩, rfl⟩
 ·rintro a' X0 ⟨i, ds, u1, u5, u6, u7, u8, u9, u10, u11, u12, u13, u14, u15, u16, u17, u18, u19, u20, u21, u22, u23, u24, u25, u26, u27, u28, u29, u30, u31, u32, u33, u34, u35, u36, u40, u41, u42, u43, u44, u45, u46, u47, u48, u49, u50, u51, u52, u53, u54, ⟨hi, hI⟩, rfl⟩
  try dsimp only
  by_cases hi7 : i < 7
  ·obtain ⟨kd, gf, lb, xs, hg0, hg1, hg2, hg3⟩ := hgs i hi7;have hxG : X0.heap[G]? = Wg.heap[G]? := hI.kp.block G (by omega) ⟨hlG, Nat.le_refl _⟩;have q1 : X0.cell? ⟨G, i * 2, none⟩ = some (.int .i64 kd) := (World.cell?_of_block (w := Wg) (a := ⟨G, _, none⟩) hxG).trans hg1;have q2 : X0.cell? ⟨G, i * 2 + 1, none⟩ = some (.func (.func gf) #[] lb) := (World.cell?_of_block (w := Wg) (a := ⟨G, _, none⟩) hxG).trans hg2;have hgx := hg3.kept (hI.kp.mono fun b _ hb => ⟨hb.1, Nat.le_of_lt hb.2⟩);have p1 : (i : Int) < 7 := by omega
   have p2 : (0 : Int) <= (i : Int) := by omega
   clear hg1 hg2
   gi_wp2
   obtain ⟨L0, vo0, hL1, hL2⟩ := hI.fct;obtain ⟨B, hB1, hB2⟩ := hgx.sq;obtain ⟨D0, hD0⟩ : ∃ D0, D0 = ((Qe4 n S).take i).flatMap fun g => g.2.map fun l => (g.1, l) := ⟨_, rfl⟩
   rw [<- hD0] at hL1;obtain ⟨X1, hX1⟩ : ∃ X1, X1 = X0.alloc (.cells #[.int .i64 kd, .func (.func gf) #[] lb] 42) := ⟨_, rfl⟩
   have hk1 : ∀ Z, Qq Z X0 X1 := fun Z => by rw [hX1]; exact Qq.alloc _ _ _
   have he1 : ∀ Z, Ext Z X0 X1 := fun Z => by rw [hX1]; exact Ext.alloc' _ _ _
   have hs1 : X1.heap.size = X0.heap.size + 1 := by rw [hX1]; simp
   have hgb1 : X1.heap[X0.heap.size]? = some (.cells #[.int .i64 kd, .func (.func gf) #[] lb] 42 (0, 0)) := by rw [hX1]; exact World.alloc_heap_new X0 _
   have hsx : G + 1 <= X0.heap.size := by have := hI.kp.size; omega
   have hwl := hI.ex.size;have hlo0 := hL2.bx.lt;have hsplit : (Qe4 n S).take (i + 1) = (Qe4 n S).take i ++ [(kd, xs)] := by rw [List.take_add_one, hg0]; rfl
   have hD1 : (((Qe4 n S).take (i + 1)).flatMap fun g => g.2.map fun l => (g.1, l)) = D0 ++ xs.map (fun l => (kd, l)) := by rw [hsplit, List.flatMap_append, <- hD0]; simp
   have hDl : D0.length + xs.length <= 100000 := by
    refine Nat.le_trans ?_ hlen;have h1 : Qhd n S = (((Qe4 n S).take (i + 1)).flatMap fun g => g.2.map fun l => (g.1, l)) ++ (((Qe4 n S).drop (i + 1)).flatMap fun g => g.2.map fun l => (g.1, l)) := by rw [<- List.flatMap_append, List.take_append_drop]; rfl
    rw [h1, hD1];simp
   rw [<- hX1];clear hX1 q1 q2 hg3;refine Qh3 rfl rfl (gf := gf) (lb := lb) rfl trivial hgx.en hB1 (hk1 _) (fun b hb => by have := (hB2 b hb).2; omega) rfl
    (fun pre Yi X => Qjo W.heap.size (G + 1) X0.heap.size kd (.func (.func gf) #[] lb) ds X0.heap.size (D0 ++ pre.map (fun l => (kd, l))) Yi X)
    ⟨fun s Y X X' h hk => h.kept hk, fun s Y X h b hb => (h.yb b hb).2⟩ (fun b => (b = W.heap.size ∨ G + 1 <= b) /\ b < X1.heap.size) (fun b hb hB => by have := hB2 b hB; omega) ⟨⟨L0, vo0, ?_, ?_⟩, fun b hb => hb, hgb1, ⟨.inr hsx, by omega⟩, ?_, ?_⟩
    (fun v => { tmps := #[.int .i64 (n : Int), u1, .slice none 0 0, .int .i64 0, .pointer (some ⟨W.heap.size, 0, none⟩), u5, .pointer (some ⟨X0.heap.size, 0, none⟩), v, u8, u9, u10, u11, u12, u13, u14, u15, u16, u17, u18, u19, u20, u21, u22, u23, u24, u25, u26, u27, u28, u29, u30, u31, u32, u33, u34, u35, u36, .slice (some ⟨G, 0, none⟩) 7 7, .int .i64 7, .int .i64 (i : Int), .bool true, .pointer (some ⟨G, i * 2, none⟩), .agg #[.int .i64 kd, .func (.func gf) #[] lb], .pointer (some ⟨X0.heap.size, 1, none⟩), .func (.func gf) #[] lb, v, u46, u47, u48, u49, u50, u51, u52, u53, u54], defers := [] }) ?assign ?body ?done
   ·rw [hL1]; simp
   ·refine (hL2.kept (hk1 _)).mono fun b hb h => ⟨h, hb⟩
   ·exact hI.ms.kept fun b hb => (hk1 (Mks.blk ds)).block b (hI.ms.lt hb).2.1 hb
   ·exact fun b hb => ⟨.inr (hI.ms.lt hb).1, by have := (hI.ms.lt hb).2.1; omega⟩
   case assign =>
    intro l2 v X K hK
    gi_wp2
    exact hK
   case body =>
    rintro l2 pre c suf v Yi X hxs hsX hR hv hvY;obtain ⟨L, vo, hL3, hL4⟩ := hR.fct;obtain ⟨va, vl, vc, rfl⟩ : ∃ va vl vc, v = .slice va vl vc := by
     rcases hv.2 with ⟨rfl, _⟩ | ⟨g, cap, cur, rfl, _⟩
     ·exact ⟨_, _, _, rfl⟩
     ·exact ⟨_, _, _, rfl⟩
    obtain ⟨U, hU⟩ : ∃ U, U = (Value.slice va vl vc).ownBlock := ⟨_, rfl⟩
    rw [<- hU] at hvY ⊢;have c1 := hL4.bx.cell;have c2 : X.cell? ⟨X0.heap.size, 0, none⟩ = some (.int .i64 kd) := by simp [World.cell?, hR.gh]
    obtain ⟨i0, hi0, z0, z1, z2⟩ := info_parts Qwz;have hLl : L.length + 1 <= 100000 := by
     have h1 := congrArg List.length hL3;simp at h1;have h2 : xs.length = pre.length + (suf.length + 1) := by rw [hxs]; simp
     omega
    have hYs : G + 1 <= X.heap.size := by omega
    have hcn : ∀ (w : World) (j : Nat) (u : Value), (Qa5 (kd, c, Value.slice va vl vc))[j]? = some u -> (w.alloc (.cells #[.int .i64 kd, Value.slice va vl vc, .bool false, .slice none 0 0, .slice none 0 0] 38)).cell? ((⟨w.heap.size, 0, none⟩ : Addr).add j) = some u := fun w j u hj => by
     have h0 := World.alloc_heap_new w (.cells #[.int .i64 kd, Value.slice va vl vc, .bool false, .slice none 0 0, .slice none 0 0] 38);have h1 : (⟨w.heap.size, 0, none⟩ : Addr).add j = ⟨w.heap.size, j, none⟩ := by unfold Addr.add; split <;> simp_all
     rw [h1];unfold World.cell?;rw [h0];simpa [Qa5] using hj
    have hon : ∀ u ∈ Qa5 (kd, c, Value.slice va vl vc), u.oneCell' = true := fun u hu => by unfold Qa5 at hu;simp only [List.mem_cons, List.not_mem_nil, or_false] at hu;rcases hu with rfl | rfl | rfl | rfl | rfl <;> rfl
    have hvb : ∀ b, (Value.slice va vl vc).ownBlock = some b -> G + 1 <= b := fun b hb => by rw [<- hU] at hb; have := (hvY b hb).2; omega
    have hfin : ∀ (v' : Value) (X2 : World), X2.ownsRow (G + 1) 38 5 v' (L.length + 1) (L.flatMap Qa5 ++ Qa5 (kd, c, Value.slice va vl vc)) -> (X.alloc (.cells #[.int .i64 kd, Value.slice va vl vc, .bool false, .slice none 0 0, .slice none 0 0] 38)).grownBy X2 vo.ownBlock -> (v'.ownBlock = vo.ownBlock ∨ v'.ownBlock = some (X.heap.size + 1)) ->
      Qhb (fun pre Yi X => Qjo W.heap.size (G + 1) X0.heap.size kd (.func (.func gf) #[] lb) ds X0.heap.size (D0 ++ pre.map (fun l => (kd, l))) Yi X) (pre ++ [c]) Yi U X .normal { tmps := #[], defers := [] } (X2.setCell ⟨W.heap.size, 0, none⟩ v') := fun v' X2 r1 r2 r3 => by
     obtain ⟨h5, h6, h7⟩ := hL4.step hv hvb (by omega) rfl r1 r2 (by simpa using r3);have hrow : ∀ b c e f, X.heap[b]? = some (Obj.cells c e f) -> e ≠ 38 -> vo.ownBlock ≠ some b := fun b c e f hb he hv => by
      rcases hL4.row.2 with ⟨rfl, _⟩ | ⟨g, cap, cur', rfl, _, hg', _⟩
      ·cases hv
      ·cases hv;rw [hb] at hg';cases hg';exact he rfl
     have hrow2 : ∀ b c, X.heap[b]? = some (Obj.deferred c) -> vo.ownBlock ≠ some b := fun b c hb hv => by
      rcases hL4.row.2 with ⟨rfl, _⟩ | ⟨g, cap, cur', rfl, _, hg', _⟩
      ·cases hv
      ·cases hv;rw [hb] at hg';cases hg'
     have hxs3 := h6.size;refine ⟨_, ⟨⟨_, _, ?_, h5⟩, fun b hb =>?_, ?_, .inl hR.gy, ?_, fun b hb =>.inl (hR.my b hb)⟩, fun b hb =>?_, h6⟩
     ·rw [List.map_append, hL3]; simp
     ·rcases hb with hb | hb | hb
      ·exact ⟨(hR.yb b hb).1, Nat.lt_of_lt_of_le (hR.yb b hb).2 hxs3⟩
      ·exact ⟨.inr (by omega), hb.2⟩
      ·obtain ⟨cur, hc⟩ := hv.lt hb;exact ⟨.inr (hvb b hb), Nat.lt_of_lt_of_le (Array.getElem?_eq_some_iff.1 hc).1 hxs3⟩
     ·exact (h7 _ (Array.getElem?_eq_some_iff.1 hR.gh).1 (by omega) (hrow _ _ _ _ hR.gh (by decide))).trans hR.gh
     ·exact hR.ms.kept fun b hb => h7 b (hR.yb b (hR.my b hb)).2 (by have := (hR.ms.lt hb).1; omega) (hrow2 _ _ (hR.ms.lt hb).2.2)
     ·rcases hb with hb | hb | hb
      ·exact .inl hb
      ·exact .inr (.inl hb.1)
      ·exact .inr (.inr (hU.trans hb))
    gi_wp2_with (first | (gi_at_builtin; go_loud (refine Qe3 _ rfl _ _ 23 rfl (G + 1) 38 i0 zF 5 88 Try.underlying23 hi0 z0 z1 z2 rfl (by decide) vo L.length _ rfl (hL4.row.alloc _) ⟨X.heap.size, 0, none⟩ 1 1 (Qa5 (kd, c, Value.slice va vl vc)) rfl rfl (hcn X) hon (by simp only [maxLen]; omega) (by omega) (by simp; omega) ?_; intro v' X2 r1 r2 r3; obtain ⟨g', cap', rfl⟩ := ownsRow_succ r1; have hb2 : Boxed X2 W.heap.size 23 vo := (hL4.bx.alloc _).kept r2 (fun e => by have := (hL4.row.lt _ e.symm).1; omega); have hc2 := hb2.cell; have hf2 := hb2.frozen)) | fail)
    exact hfin _ X2 r1 r2 (by simpa using r3)
   case done =>
    rintro Dm Yi X hD hDY hR hown hDd;obtain ⟨L, vo, hL3, hL4⟩ := hR.fct;have q5 := hown.ext.size
    gi_wp2
    refine ⟨⟨i + 1, { target :=.collected Dm, args := #[] } :: ds, ?_⟩, ?_⟩
    ·(repeat apply Exists.intro)
     refine ⟨⟨by omega, ⟨⟨L, vo, ?_, hL4.mono fun b _ hb => (hR.yb b hb).1⟩, ?_, ?_, ⟨Dm, rfl, (by omega), (Array.getElem?_eq_some_iff.1 hDd).1, hDd, hR.ms.hi (by omega)⟩⟩⟩, rfl⟩
     ·rw [hL3, hD1]
     ·exact (hI.kp.trans (hk1 _)).trans (hown.ext.kept fun b _ hb h => by omega)
     ·exact (hI.ex.trans (he1 _)).trans' hown.ext fun b hb h => by omega
    ·simp [intOf]; omega
  ·have e : i = 7 := by omega
   subst e;obtain ⟨L, vo, hL1, hL2⟩ := hI.fct;have q0 := hL2.bx.cell
   gi_wp2
   show LeavesInM _ _ _ _ _ _ _ _ _;have hmk : ∀ (w' : World), Ext (fun b => Mks.blk ds b) X0 w' -> ∀ (b : Nat) (c : Array Value) (e : TypeId) (f : Nat × Nat), X0.heap[b]? = some (Obj.cells c e f) -> w'.heap[b]? = X0.heap[b]? := fun w' hw b c e f hb => hw.block b (Array.getElem?_eq_some_iff.1 hb).1 fun h => by rw [(hI.ms.lt h).2.2] at hb; cases hb
   refine Qea ds _ X0 hI.ms fun w' hw => ⟨_, results_tmp2 rfl _ _ _, vo, rfl, L, G + 1, ?_, ?_, by omega, ?_, ?_⟩
   ·rw [hL1]; rfl
   ·exact ⟨hw.os.trans hI.ex.os, hw.tape.trans hI.ex.tape, hw.output.trans hI.ex.output, Nat.le_trans hI.ex.size hw.size, fun b hb hn => (hw.block b (Nat.lt_of_lt_of_le hb hI.ex.size) (fun hm => by have := (hI.ms.lt hm).1; omega)).trans (hI.ex.block b hb hn)⟩
   ·refine Qgz hL2.row fun b hb =>?_;rcases hL2.row.2 with ⟨rfl, _⟩ | ⟨g, cap, cur', rfl, _, hg', _⟩
    ·cases hb
    ·cases hb;exact hmk w' hw _ _ _ _ hg'
   ·intro x hx;refine ⟨(hL2.arg x hx).1.kept fun b hb =>?_, fun b hb => ((hL2.arg x hx).2 b hb).2⟩;obtain ⟨cur, hc⟩ := (hL2.arg x hx).1.lt hb;exact hmk w' hw _ _ _ _ hc
theorem Qpy (n : Int) (h : n < 0 ∨ 40 < n) (m : Nat) (W : World) : CallsIn Fence.wide m Try.prog 5 #[.int .i64 n] W fun e W' => e = .returned (.tuple #[.slice none 0 0, .int .i64 2]) /\ W' = W := by
 refine callsIn_of_wp_marks Try.func5 rfl trivial ?_ rfl;simp only [Try.ntmps5, List.size_toArray, List.length_cons, List.length_nil, Nat.reduceAdd, Nat.reduceSub, Array.replicate_succ, Array.replicate_zero, List.push_toArray, List.append_toArray, List.nil_append, List.cons_append];by_cases k1 : n < 0
 ·gi_wp2
  exact ⟨_, results_tmp2 rfl _ _ _, rfl, rfl⟩
 ·have k2 : (40 : Int) < n := by omega
  gi_wp2
  exact ⟨_, results_tmp2 rfl _ _ _, rfl, rfl⟩
theorem Ql0 (n : Int) (h1 : 10 < n) (h2 : n <= 40) (m : Nat) (W : World) : CallsIn Fence.wide m Try.prog 5 #[.int .i64 n] W fun e W' => e = .returned (.tuple #[.slice none 0 0, .int .i64 4]) /\ W' = W := by
 refine callsIn_of_wp_marks Try.func5 rfl trivial ?_ rfl;simp only [Try.ntmps5, List.size_toArray, List.length_cons, List.length_nil, Nat.reduceAdd, Nat.reduceSub, Array.replicate_succ, Array.replicate_zero, List.push_toArray, List.append_toArray, List.nil_append, List.cons_append];have k1 : ¬ n < 0 := by omega
 have k2 : ¬ (40 : Int) < n := by omega
 gi_wp2
 exact ⟨_, results_tmp2 rfl _ _ _, rfl, rfl⟩
end Go.Proofs.Ytohmbopehhgacaa
namespace Go.FW
open Go
inductive Opd where
 | t (n : Nat)
 | c (p : PV)
 deriving Inhabited
inductive SOp where
 | mv (d : Nat) (x : Opd)
 | pick (d : Nat) (c a b : Opd)
 | bin (d : Nat) (op : BinOp) (bt : Bool) (x y : Opd)
 | eqs (d : Nat) (ng : Bool) (x y : Opd)
 | sqs (d : Nat) (ng : Bool) (x y : Opd)
 | sln (d : Nat) (x : Opd)
 | six (d : Nat) (x i : Opd)
 | un (d : Nat) (op : UnOp) (x : Opd)
 | conv (d : Nat) (k : IntKind) (x : Opd)
 | len (d : Nat) (x : Opd)
 | mx (d : Nat) (x y : Opd)
 | mn (d : Nat) (x y : Opd)
 | idx (d e : Nat) (x i : Opd)
 | idxA (d n e : Nat) (x i : Opd)
 | ixv (d n e : Nat) (ag : Bool) (x i : Opd)
 | fld (d off : Nat) (x : Opd)
 | fldv (d off n : Nat) (ag : Bool) (x : Opd)
 | ld (d n : Nat) (ag : Bool) (x : Opd)
 | st (n : Nat) (x v : Opd)
 | box (d n ty : Nat) (v : Opd)
 | alloc (d n ty : Nat) (z : PV)
 | mk (d e bytes ty : Nat) (z : PV) (l c : Opd)
 | bs (d e ty : Nat) (parts : List Opd)
 | app (d e bytes ty : Nat) (s x : Opd)
 | cpy (d e : Nat) (s x : Opd)
 | sl (d e : Nat) (x : Opd) (lo hi mx : Option Opd)
 | ext (d : Nat) (x : Opd) (i : Nat)
 | bld (d : Nat) (zero : List PV) (parts : List (Nat × Nat × Opd))
 | fn (d f : Nat) (first cap : List Opd)
 | call (d : Option Nat) (pr : Bool) (f : Opd) (args : List Opd)
 | nilc (d : Option Nat) (x : Opd)
 | bad (d : Option Nat)
 deriving Inhabited
def SOp.dst : SOp -> Option Nat
 |.mv d _ | .pick d _ _ _ | .bin d _ _ _ _ | .eqs d _ _ _ | .sqs d _ _ _ | .sln d _ | .six d _ _ | .un d _ _ | .conv d _ _ | .len d _ | .mx d _ _ | .mn d _ _ | .idx d _ _ _ | .idxA d _ _ _ _ | .ixv d _ _ _ _ _ | .fld d _ _ | .fldv d _ _ _ _
 |.ld d _ _ _ | .box d _ _ _ | .alloc d _ _ _ | .mk d _ _ _ _ _ _ | .bs d _ _ _ | .app d _ _ _ _ _ | .cpy d _ _ _ | .sl d _ _ _ _ _ | .ext d _ _ | .bld d _ _ | .fn d _ _ _ => some d
 |.st _ _ _ => none
 |.call d _ _ _ | .nilc d _ | .bad d => d
structure GOp where
 g : Option (Nat × Bool)
 o : SOp
 deriving Inhabited
inductive RT where
 | nil
 | o (g : Option (Nat × Bool)) (o : SOp) (r : RT)
 | br (a b : RT)
 | wk (r : RT)
 deriving Inhabited
inductive SC where
 | skip
 | rg (r : RT)
 | raw (id : Nat) (ops : Array Oper)
 | seq (a b : SC)
 | cond (c : Opd) (a b : SC)
 | block (id : Nat) (a : SC)
 | loop (a : SC)
 | exit (id : Nat)
 | ret
 deriving Inhabited
def Qel : Value -> Option PV
 |.int k n => some (.int k n)
 |.bool b => some (.bool b)
 |.string s => some (.str s)
 |.slice none 0 0 => some .nilS
 | _ => none
def Qcs : Value -> Option PV
 |.agg cs => (cs.toList.mapM Qel).map .agg
 | v => Qel v
def opd : Operand -> Option Opd
 |.tmp t => some (.t t)
 |.const v => (Qcs v).map .c
 |.func f => some (.c (.fn f [] []))
 |.global _ => none
def tsz (P : Program) (t : TypeId) : Option Nat := (P.info? t).map (·.size)
def Qc2 (P : Program) (t : TypeId) : Option Bool := (P.underlying t).map fun d => match d with | .struct _ | .array _ _ => true | _ => false
def Qeb (P : Program) (t : TypeId) : Option TypeId := match P.underlying t with | some (.slice e) => some e | _ => none
def Qck (P : Program) (t : TypeId) : Option (Nat × Nat × PV) := (P.info? t).bind fun i => i.zero.bind fun z => (Qcs z).map fun p => (i.size, i.bytes, p)
def Qdm : Option Operand -> Option (Option Opd)
 | none => some none
 | some x => (opd x).map some
def Qf3 (P : Program) (t : TypeId) (parts : List (Nat × Operand)) : Option (List (Nat × Nat × Opd)) :=
 match P.underlying t with
 | some (.struct fs) => (fs.toList.mapM fun f => (P.info? f.type).map fun i => (f.offset, i.size)).bind fun pl => parts.mapM fun p => (pl[p.1]?).bind fun q => (opd p.2).map fun y => (q.1, q.2, y)
 | some (.array _ e) => (tsz P e).bind fun n => parts.mapM fun p => (opd p.2).map fun y => (p.1 * n, n, y)
 | _ => none
def s2? (P : Program) (t : TypeId) : Bool := match P.underlying t with
 | some (.struct fs) => match fs.toList with
  | [f, g] => f.name != "_" && g.name != "_" && f.offset == 0 && g.offset == 1 && (match P.underlying f.type with | some (.int _) => true | _ => false) && (match P.underlying g.type with | some (.int _) => true | _ => false) && !(P.stoodInHeld t) && !(P.eqGuardType P.depth t)
  | _ => false
 | _ => false
def Ql1 : BinOp -> Option Bool
 |.eql => some false
 |.neq => some true
 | _ => none
def Qh4 (P : Program) (t : TypeId) : Bool := match P.underlying t with | some .string => true | _ => false
def Qjp (P : Program) (op : BinOp) (t : TypeId) (d : Nat) (x y : Opd) : SOp :=
 match (if s2? P t then Ql1 op else none) with
 | some ng =>.eqs d ng x y
 | none => match (if Qh4 P t then Ql1 op else none) with
  | some ng =>.sqs d ng x y
  | none =>.bin d op (match P.underlying t with | some .bool => true | _ => false) x y
def Qsn : List String := ["geoprover/matrix.reduce", "geoprover/matrix.subtract", "geoprover/geoproverref09.echelon"]
def Qno (P : Program) (f : Opd) : Bool := match f with
 |.c (.fn g _ _) => (P.funcs[g]?).any fun fn => Qsn.contains fn.name
 | _ => false
def Qas (P : Program) (draw : Bool) (o : Oper) : Option SOp :=
 match o.op, o.dst with
 |.move x, some d | .assign x, some d => (opd x).map (.mv d)
 |.pick c a b, some d => (opd c).bind fun c => (opd a).bind fun a => (opd b).map fun b =>.pick d c a b
 |.binOp op t x y _, some d => (opd x).bind fun x => (opd y).map fun y => Qjp P op t d x y
 |.unOp op _ x, some d => (opd x).map (.un d op)
 |.convert s t x, some d => match P.underlying s, P.underlying t with
  | some _, some (.int k) => (opd x).map (.conv d k)
  | _, _ => none
 |.indexAddr t x i, some d => (opd x).bind fun x => (opd i).bind fun i => match P.underlying t with
  | some (.slice e) => (tsz P e).map fun n =>.idx d n x i
  | some (.array len e) => (tsz P e).map fun n =>.idxA d len n x i
  | _ => none
 |.index t x i, some d => (opd x).bind fun x => (opd i).bind fun i => match P.underlying t with
  | some (.array len e) => (tsz P e).bind fun n => (Qc2 P e).map fun ag =>.ixv d len n ag x i
  | some .string => some (.six d x i)
  | _ => none
 |.fieldAddr t x j, some d => (opd x).bind fun x => match P.underlying t with
  | some (.struct fs) => (fs[j]?).bind fun f => (tsz P f.type).bind fun n => if n = 0 then none else some (.fld d f.offset x)
  | _ => none
 |.field t x j, some d => (opd x).bind fun x => match P.underlying t with
  | some (.struct fs) => (fs[j]?).bind fun f => (tsz P f.type).bind fun n => (Qc2 P f.type).map fun ag =>.fldv d f.offset n ag x
  | _ => none
 |.load t x, some d => (opd x).bind fun x => (tsz P t).bind fun n => (Qc2 P t).map fun ag =>.ld d n ag x
 |.store t x v, none => (opd x).bind fun x => (opd v).bind fun v => (tsz P t).map fun n =>.st n x v
 |.box t v, some d => (opd v).bind fun v => (tsz P t).map fun n =>.box d n t v
 |.alloc t, some d => (Qck P t).map fun (n, _, z) =>.alloc d n t z
 |.makeSlice t l c, some d => (opd l).bind fun l => (opd c).bind fun c => (Qeb P t).bind fun e => (Qck P e).map fun (n, by_, z) =>.mk d n by_ e z l c
 |.buildSlice t len parts, some d => (Qeb P t).bind fun e => (Qck P e).bind fun r =>
   if parts.toList.map (·.1) = List.range len /\ len * r.1 <= 16777216 /\ r.2.2.cells.length = r.1 then (parts.toList.mapM fun p => opd p.2).map fun ps =>.bs d r.1 e ps else none
 |.build t parts, some d => (Qck P t).bind fun (_, _, z) => (Qf3 P t parts.toList).map fun ps =>.bld d z.cells ps
 |.slice t x lo hi m, some d => (opd x).bind fun x => (Qdm lo).bind fun lo => (Qdm hi).bind fun hi => (Qdm m).bind fun m => (Qeb P t).bind fun e => (tsz P e).map fun n =>.sl d n x lo hi m
 |.extract x i, some d => (opd x).map fun x =>.ext d x i
 |.makeFunc (.func f) first cap, some d => (first.toList.mapM opd).bind fun first => (cap.toList.mapM opd).map fun cap =>.fn d f first cap
 |.nilCheck x, d => (opd x).map fun x =>.nilc d x
 |.call c, d => match c.callee, c.args.toList, c.argTypes.toList, d with
  |.value f, args, _, d => (opd f).bind fun f => (args.mapM opd).map fun args =>.call d (draw && !Qno P f) f args
  |.builtin .len, [x], [t], some d => if Qh4 P t then (opd x).map fun x =>.sln d x else (Qeb P t).bind fun _ => (opd x).map fun x =>.len d x
  |.builtin .max, [x, y], _, some d => (opd x).bind fun x => (opd y).map fun y =>.mx d x y
  |.builtin .min, [x, y], _, some d => (opd x).bind fun x => (opd y).map fun y =>.mn d x y
  |.builtin .append, [s, x], [t, u], some d => (opd s).bind fun s => (opd x).bind fun x => (Qeb P t).bind fun e => if t = u then (Qck P e).bind fun r => if r.2.2.cells.length = r.1 then some (.app d r.1 r.2.1 e s x) else none else none
  |.builtin .copy, [s, x], [t, u], some d => (opd s).bind fun s => (opd x).bind fun x => (Qeb P t).bind fun e => if t = u then (tsz P e).map fun n =>.cpy d n s x else none
  | _, _, _, _ => none
 | _, _ => none
def Qu (P : Program) (draw : Bool) (o : Oper) : SOp := (Qas P draw o).getD (.bad o.dst)
def Qcc (P : Program) (n : Nat) (draw : Bool) (ops : Array Oper) (o : Oper) : Option GOp :=
 if o.dst.all (· < n) then
  match o.guard with
  | none => some ⟨none, Qu P draw o⟩
  | some (j, want) => match (ops[j]?).bind (·.dst) with
   | some s => if s < n then some ⟨some (s, want), Qu P draw o⟩ else none
   | none => none
 else none
def SOp.cls : SOp -> Nat
 |.ld .. => 1
 |.box .. | .alloc .. | .mk .. | .bs .. | .call .. | .bad _ => 2
 |.st .. | .app .. | .cpy .. => 3
 | _ => 0
def SOp.brk : SOp -> Bool
 |.st .. | .app .. | .cpy .. => true
 |.call _ pr _ _ => !pr
 | _ => false
def SOp.isCall : SOp -> Bool
 |.call .. => true
 | _ => false
def Qbz (ops : Array Oper) : Nat -> Nat -> Nat -> Bool
 | 0, _, _ => false
 | n + 1, i, j => match ops[j]? with
  | none => false
  | some o => o.after.toList.any fun e => Region.binds .any e && (e.on == i || Qbz ops n i e.on)
def Qew (P : Program) (ops : Array Oper) (i : Nat) : Nat := ((ops[i]?).map fun o => (Qu P true o).cls).getD 9
def Qgl (P : Program) (dr : Bool) (ops : Array Oper) (i : Nat) : Bool := ((ops[i]?).map fun o => (Qu P dr o).brk).getD false
def Qjq (P : Program) (dr : Bool) (ops : Array Oper) (listed : Array Bool) (i : Nat) : Bool :=
  (Region.ready .any ops listed).contains i && Region.free .any ops listed i &&
  (match Qew P ops i with
   | 0 => true
   | 1 => (List.range ops.size).all fun j => !Qgl P dr ops j || Qbz ops ops.size i j
   | _ => false)
def brs : List RT -> RT
 | [] =>.nil
 | [r] => r
 | r :: rs =>.br r (brs rs)
def Qco (P : Program) (N : Nat) (dr : Bool) (ops : Array Oper) : Nat -> Array Bool -> Option RT
 | 0, listed => if Region.ready .any ops listed == [] then some .nil else none
 | n + 1, listed =>
  if Region.ready .any ops listed == [] then some .nil else
  match (List.range ops.size).find? (Qjq P dr ops listed) with
  | some i => ((ops[i]?).bind (Qcc P N dr ops)).bind fun g => (Qco P N dr ops n (listed.setIfInBounds i true)).map fun r =>.o g.g g.o r
  | none => ((Region.ready .any ops listed).mapM fun i => ((ops[i]?).bind (Qcc P N dr ops)).bind fun g => (Qco P N dr ops n (listed.setIfInBounds i true)).map fun r => RT.o g.g g.o r).map brs
def Qfc (P : Program) (N : Nat) (dr : Bool) (ops : Array Oper) : Nat -> Array Bool -> Option RT
 | 0, listed => if Region.ready .any ops listed == [] then some .nil else none
 | n + 1, listed =>
  if Region.ready .any ops listed == [] then some .nil else
  match (List.range ops.size).find? (Qjq P dr ops listed) with
  | some i => ((ops[i]?).bind (Qcc P N dr ops)).bind fun g => (Qfc P N dr ops n (listed.setIfInBounds i true)).map fun r =>.o g.g g.o r
  | none => match Region.ready .any ops listed with
   | [i] => ((ops[i]?).bind (Qcc P N dr ops)).bind fun g => (Qfc P N dr ops n (listed.setIfInBounds i true)).map fun r =>.o g.g g.o r
   | _ => none
theorem Qct {P : Program} {N : Nat} {dr : Bool} {ops : Array Oper} : ∀ (n : Nat) (listed : Array Bool) (r : RT), Qfc P N dr ops n listed = some r -> Qco P N dr ops n listed = some r
 | 0, listed, r, h => h
 | n + 1, listed, r, h => by
  unfold Qfc at h;unfold Qco;split
  ·rename_i hr; rw [if_pos hr] at h; exact h
  ·rename_i hr;rw [if_neg hr] at h;split at h
   ·rename_i i hf;simp only [Option.bind_eq_some_iff, Option.map_eq_some_iff] at h ⊢;obtain ⟨g, hg, r', hr', rfl⟩ := h;exact ⟨g, hg, r', Qct n _ _ hr', rfl⟩
   ·rename_i hf;split at h
    ·rename_i i hready;simp only [Option.bind_eq_some_iff, Option.map_eq_some_iff] at h;obtain ⟨g, ⟨o, ho, hg⟩, r', hr', rfl⟩ := h;simp [hready, ho, hg, Qct n _ _ hr', brs]
    ·cases h
def RT.count : RT -> Nat
 |.nil => 1
 |.o _ _ r => r.count
 |.br a b => a.count + b.count
 |.wk r => r.count
def Qh5 : List GOp -> RT
 | [] =>.nil
 | g :: gs =>.o g.g g.o (Qh5 gs)
def Qso (P : Program) (ops : Array Oper) : Bool := decide (ops.size <= 100) && ops.toList.any fun o => (Qu P false o).isCall
def Qsp (P : Program) (ops : Array Oper) : Bool :=
 let cs := ops.toList.map (Qu P true)
 decide (100 < ops.size) || 4 <= (cs.filter fun o => match o with | .app .. => true | _ => false).length ||
  (3 <= (cs.filter fun o => match o with | .box .. | .alloc .. => true | _ => false).length && 3 <= (cs.filter fun o => match o with | .st .. => true | _ => false).length)
def Qem (P : Program) (N : Nat) (ops : Array Oper) (dr : Bool) (most : Nat) : Option SC :=
 if Qsp P ops then none else
 match Qco P N dr ops ops.size (Array.replicate ops.size false) with
 | some r => if r.count <= most then some (.rg r) else none
 | none => none
def Qen (P : Program) (N : Nat) (ops : Array Oper) (draw : Bool) : Option SC :=
 if draw then
  if Region.noSelect ops then
   match (if Qso P ops then (Qfc P N false ops ops.size (Array.replicate ops.size false)).map .rg else none) with
   | some s => some s
   | none => Qem P N ops true 100
  else none
 else (ops.toList.mapM (Qcc P N false ops)).map fun l =>.rg (Qh5 l)
def Q7 (P : Program) (N : Nat) : Code -> Option SC
 |.skip => some .skip
 |.region id ops draw => match Qen P N ops draw with
  | some s => some s
  | none => if draw then some (.raw id ops) else none
 |.seq a b => (Q7 P N a).bind fun a => (Q7 P N b).map fun b =>.seq a b
 |.cond c a b => (opd c).bind fun c => (Q7 P N a).bind fun a => (Q7 P N b).map fun b =>.cond c a b
 |.block id a => (Q7 P N a).map (.block id)
 |.loop a => (Q7 P N a).map .loop
 |.exit id => some (.exit id)
 |.ret => some .ret
 | _ => none
inductive RV where
 | t (s : Nat)
 | cell (s n : Nat) (ag : Bool)
 deriving Inhabited
def Qcd (P : Program) (r : ResultVar) : Option RV :=
 match r with
 |.tmp t => some (.t t)
 |.cell a t => (tsz P t).bind fun n => (Qc2 P t).map fun ag =>.cell a n ag
def RT.strip : RT -> RT
 |.nil =>.nil
 |.o g p r =>.o g p r.strip
 |.br a b =>.br a.strip b.strip
 |.wk r => r.strip
def SC.strip : SC -> SC
 |.rg r =>.rg r.strip
 |.seq a b =>.seq a.strip b.strip
 |.cond c a b =>.cond c a.strip b.strip
 |.block id a =>.block id a.strip
 |.loop a =>.loop a.strip
 | s => s
theorem Qhe : ∀ l : List GOp, (Qh5 l).strip = Qh5 l
 | [] => rfl
 | g :: gs => by simp only [Qh5, RT.strip, Qhe gs]
theorem Qiu : ∀ l : List RT, (∀ r ∈ l, r.strip = r) -> (brs l).strip = brs l
 | [], _ => rfl
 | [r], h => h r (by simp)
 | r :: s :: l, h => by have := Qiu (s :: l) fun x hx => h x (List.mem_cons_of_mem _ hx);simp only [brs, RT.strip, h r (by simp), this]
theorem Qjr {α β : Type} {f : α -> Option β} {Q : β -> Prop} (hf : ∀ a b, f a = some b -> Q b) : ∀ (l : List α) (rs : List β), l.mapM f = some rs -> ∀ r ∈ rs, Q r
 | [], rs, h => by simp at h; subst h; simp
 | a :: l, rs, h => by
  simp only [List.mapM_cons, Option.bind_eq_bind, Option.pure_def, Option.bind_eq_some_iff, Option.some.injEq] at h;obtain ⟨b, h1, bs, h2, rfl⟩ := h;intro r hr;rcases List.mem_cons.1 hr with rfl | hr
  ·exact hf _ _ h1
  ·exact Qjr hf l bs h2 r hr
theorem Qda {P : Program} {N : Nat} {dr : Bool} {ops : Array Oper} : ∀ (n : Nat) (listed : Array Bool) (r : RT), Qco P N dr ops n listed = some r -> r.strip = r
 | 0, listed, r, h => by
  unfold Qco at h;split at h
  ·cases h; rfl
  ·cases h
 | n + 1, listed, r, h => by
  unfold Qco at h;split at h
  ·cases h; rfl
  ·split at h
   ·simp only [Option.bind_eq_some_iff, Option.map_eq_some_iff] at h;obtain ⟨g, _, r', hr', rfl⟩ := h;simp only [RT.strip, Qda n _ _ hr']
   ·simp only [Option.map_eq_some_iff] at h;obtain ⟨rs, hrs, rfl⟩ := h;refine Qiu rs (Qjr (fun i b hb =>?_) _ rs hrs);simp only [Option.bind_eq_some_iff, Option.map_eq_some_iff] at hb;obtain ⟨g, _, r', hr', rfl⟩ := hb;simp only [RT.strip, Qda n _ _ hr']
theorem Qh6 {P : Program} {N : Nat} {ops : Array Oper} {draw : Bool} {s : SC} (h : Qen P N ops draw = some s) : s.strip = s := by
 unfold Qen at h;split at h
 ·split at h
  ·have key : ∀ (dr : Bool) (most : Nat) (s : SC), Qem P N ops dr most = some s -> s.strip = s := fun dr most s hc => by
    unfold Qem at hc;split at hc
    ·cases hc
    split at hc
    ·rename_i r hr;split at hc
     ·cases hc; simp only [SC.strip, Qda _ _ _ hr]
     ·cases hc
    ·cases hc
   split at h
   ·rename_i s' hs';cases h;split at hs'
    ·simp only [Option.map_eq_some_iff] at hs';obtain ⟨r, hr, rfl⟩ := hs';simp only [SC.strip, Qda _ _ _ (Qct _ _ _ hr)]
    ·cases hs'
   ·exact key _ _ _ h
  ·cases h
 ·simp only [Option.map_eq_some_iff] at h;obtain ⟨gs, _, rfl⟩ := h;simp only [SC.strip, Qhe]
theorem Qjc {P : Program} {N : Nat} : ∀ (c : Code) (s : SC), Q7 P N c = some s -> s.strip = s := by
 intro c;induction c with
 | skip => intro s h; simp [Q7] at h; subst h; rfl
 | region id ops draw =>
  intro s h;simp only [Q7] at h;split at h
  ·rename_i s' hs'; cases h; exact Qh6 hs'
  ·split at h
   ·cases h; rfl
   ·cases h
 | seq x y ihx ihy =>intro s h;simp only [Q7, Option.bind_eq_some_iff, Option.map_eq_some_iff] at h;obtain ⟨sx, hx, sy, hy, rfl⟩ := h;simp only [SC.strip, ihx _ hx, ihy _ hy]
 | cond c x y ihx ihy =>intro s h;simp only [Q7, Option.bind_eq_some_iff, Option.map_eq_some_iff] at h;obtain ⟨pc, hpc, sx, hx, sy, hy, rfl⟩ := h;simp only [SC.strip, ihx _ hx, ihy _ hy]
 | block id x ihx =>intro s h;simp only [Q7, Option.map_eq_some_iff] at h;obtain ⟨sx, hx, rfl⟩ := h;simp only [SC.strip, ihx _ hx]
 | loop x ihx =>intro s h;simp only [Q7, Option.map_eq_some_iff] at h;obtain ⟨sx, hx, rfl⟩ := h;simp only [SC.strip, ihx _ hx]
 | exit id => intro s h; simp [Q7] at h; subst h; rfl
 | ret => intro s h; simp [Q7] at h; subst h; rfl
 | _ => intro s h; simp [Q7] at h
structure SFn where
 n : Nat
 rs : List RV
 body : SC
 deriving Inhabited
def Q4 (P : Program) (f : Func) : Option SFn :=
 f.body.bind fun c => (Q7 P f.ntmps c).bind fun b => (f.results.toList.mapM (Qcd P)).map fun rs => ⟨f.ntmps, rs, b⟩
abbrev Fr := Nat -> PV
structure HB where
 e : Nat
 ty : TypeId
 xs : List PV
 fz : Bool
abbrev HP := Nat -> Option HB
def upd (f : Fr) (a : Nat) (v : PV) : Fr := fun b => if b = a then v else f b
def Qe (h : HP) (a : Nat) (v : HB) : HP := fun b => if b = a then some v else h b
def fr0 : Fr := fun _ =>.undef
def hp0 : HP := fun _ => none
def isB (β : Nat) : Bool := decide (1000000 <= β)
def isY (β : Nat) : Bool := decide (1000000 <= β) && decide (β < 2000000)
def isR (β : Nat) : Bool := decide (1500000 <= β) && decide (β < 2000000)
theorem Qjs {β : Nat} (h : isY β = false) : isR β = false := by simp [isY] at h; simp [isR]; omega
theorem Qf4 {β : Nat} (h : isB β = false) : isY β = false := by simp [isB] at h; simp [isY]; omega
def PV.ref1 : PV -> List Nat
 |.mp β _ _ => [β]
 |.mso β _ _ | .rb β _ _ => [β]
 | _ => []
def PV.refs : PV -> List Nat
 |.mp β _ _ => [β]
 |.mso β _ _ | .rb β _ _ => [β]
 |.fn _ first cap => first.flatMap PV.ref1 ++ cap.flatMap PV.ref1
 | _ => []
def PV.isCap : PV -> Bool
 |.mp .. | .mso .. | .rb .. | .int .. | .bool _ | .nilS | .sl .. | .pt _ | .np .. | .nso .. => true
 | _ => false
def PV.sref1 : PV -> List Nat
 |.mso β _ _ => [β]
 |.nso γ _ _ | .np γ _ _ => [γ]
 | _ => []
def PV.nref1 : PV -> List Nat
 |.nso γ _ _ | .np γ _ _ => [γ]
 | _ => []
def PV.sref : PV -> List Nat
 |.nso γ _ _ | .np γ _ _ => [γ]
 |.rag cs => cs.flatMap PV.sref1
 |.rtp cs => cs.flatMap PV.sref1
 |.rtq cs _ => cs.flatMap PV.sref1
 |.nst γ _ _ xs => γ :: xs.flatMap fun x => x.ncells.flatMap PV.sref1
 |.fn _ first cap => first.flatMap PV.nref1 ++ cap.flatMap PV.nref1
 | _ => []
def Qn (β : Nat) (p : PV) : PV := if p.refs.contains β then .undef else p
def Qy (β : Nat) (fr : Fr) : Fr := fun i => Qn β (fr i)
def Qw (hp : HP) : PV -> PV
 |.mp β i o => if isY β then .undef else match hp β with
  | some hb => match hb.xs[i]? with
   | some x =>.pt (x.cells.drop o)
   | none =>.undef
  | none =>.undef
 |.mso β o n => if isY β then .undef else match hp β with
  | some hb =>.sl hb.e ((hb.xs.drop o).take n)
  | none =>.undef
 |.rb _ _ _ | .nso _ _ _ | .np _ _ _ | .rag _ | .rtp _ | .rtq _ _ | .nst _ _ _ _ =>.undef
 | p => p
def Qh (hp : HP) : PV -> PV
 |.fn f first cap =>.fn f (first.map (Qw hp)) (cap.map (Qw hp))
 | p => Qw hp p
def Ql (hp : HP) (l : List Nat) : HP := fun β => if l.contains β then (hp β).map fun hb => { hb with fz := true } else hp β
def ev (fr : Fr) : Opd -> PV
 |.t n => fr n
 |.c p => p
def ldV : Bool -> Nat -> Nat -> PV -> PV
 | true, n, o, x =>.agg ((x.cells.drop o).take n)
 | false, _, o, x => (x.cells.drop o).headD .undef
def stV (x : PV) (o : Nat) (v : PV) : PV :=.agg (x.cells.take o ++ v.cells ++ x.cells.drop (o + v.cells.length))
def PV.isRefC : PV -> Bool
 |.mso .. | .nso .. | .undef => true
 | _ => false
def Qcz (cs : List PV) : PV := if cs.any PV.isRefC then .rag cs else .agg cs
def Qb5 : List PV -> PV
 | [c] => c
 | cs => Qcz cs
def ldN (ag : Bool) (n o : Nat) (x : PV) : PV := if ag then Qcz ((x.ncells.drop o).take n) else (x.ncells.drop o).headD .undef
def stN : PV -> Option (List PV)
 |.rag cs => if cs.all PV.notU then some cs else none
 |.nso γ o n => some [.nso γ o n]
 |.mso β o n => if isB β then some [.mso β o n] else none
 |.int k n => some [.int k n]
 |.bool b => some [.bool b]
 |.nilS => some [.nilS]
 |.sl e xs => some [.sl e xs]
 |.pt cs => some [.pt cs]
 |.agg cs => some cs
 | _ => none
def Qeo (l : List PV) (o : Nat) (cs : List PV) : List PV := l.take o ++ cs ++ l.drop (o + cs.length)
def Qbi (γ : Nat) : PV -> PV
 |.nst γ' e ty xs => if γ' = γ then .undef else .nst γ' e ty xs
 | p => p
def Qbe (γ : Nat) (fr : Fr) : Fr := fun i => Qbi γ (fr i)
def Qba (β : Nat) : PV -> PV
 |.mso β' o n => if β' = β then .undef else .mso β' o n
 |.nso γ o n => if γ = β then .undef else .nso γ o n
 | p => p
def Q1 (β : Nat) : PV -> PV
 |.nst γ e ty xs => if γ = β then .undef else .nst γ e ty (xs.map fun x => Qb5 (x.ncells.map (Qba β)))
 |.rag cs =>.rag (cs.map (Qba β))
 |.rtp cs =>.rtp (cs.map (Qba β))
 |.rtq cs q =>.rtq (cs.map (Qba β)) q
 |.nso γ o n => if γ = β then .undef else .nso γ o n
 |.np γ i o => if γ = β then .undef else .np γ i o
 |.fn f first cap => if (first.flatMap PV.nref1 ++ cap.flatMap PV.nref1).contains β then .undef else Qn β (.fn f first cap)
 | p => Qn β p
def Qay (β : Nat) (fr : Fr) : Fr := fun i => Q1 β (fr i)
abbrev Qa := Fr -> HP -> Prop
def Qaw (op : BinOp) (bt : Bool) (a b : PV) (d : Nat) (fr : Fr) (hp : HP) (K : Qa) : Prop :=
 match a, b with
 |.int k x, .int k' y =>
  match op with
  |.shl => 0 <= y /\ K (upd fr d (.int k (k.wrap (x * 2 ^ (min y.toNat k.bits))))) hp
  |.shr => 0 <= y /\ K (upd fr d (.int k (x.fdiv (2 ^ (min y.toNat k.bits))))) hp
  |.add => k = k' /\ K (upd fr d (.int k (k.wrap (x + y)))) hp
  |.sub => k = k' /\ K (upd fr d (.int k (k.wrap (x - y)))) hp
  |.mul => k = k' /\ K (upd fr d (.int k (k.wrap (x * y)))) hp
  |.quo => k = k' /\ y ≠ 0 /\ K (upd fr d (.int k (k.wrap (x.tdiv y)))) hp
  |.rem => k = k' /\ y ≠ 0 /\ K (upd fr d (.int k (x.tmod y))) hp
  |.and => k = k' /\ K (upd fr d (.int k (k.wrap (BitVec.ofInt k.bits x &&& BitVec.ofInt k.bits y).toNat))) hp
  |.or => k = k' /\ K (upd fr d (.int k (k.wrap (BitVec.ofInt k.bits x ||| BitVec.ofInt k.bits y).toNat))) hp
  |.xor => k = k' /\ K (upd fr d (.int k (k.wrap (BitVec.ofInt k.bits x ^^^ BitVec.ofInt k.bits y).toNat))) hp
  |.andNot => False
  |.eql => k = k' /\ K (upd fr d (.bool (decide (x = y)))) hp
  |.neq => k = k' /\ K (upd fr d (.bool (!decide (x = y)))) hp
  |.lss => k = k' /\ K (upd fr d (.bool (decide (x < y)))) hp
  |.leq => k = k' /\ K (upd fr d (.bool (decide (x <= y)))) hp
  |.gtr => k = k' /\ K (upd fr d (.bool (decide (y < x)))) hp
  |.geq => k = k' /\ K (upd fr d (.bool (decide (y <= x)))) hp
 |.bool x, .bool y =>
  match op with
  |.eql => bt = true /\ K (upd fr d (.bool (x == y))) hp
  |.neq => bt = true /\ K (upd fr d (.bool (!(x == y)))) hp
  | _ => False
 | _, _ => False
def Qe5 (ng : Bool) (a b : PV) (d : Nat) (fr : Fr) (hp : HP) (K : Qa) : Prop :=
 match a, b with
 |.agg [.int k x, .int l y], .agg [.int k' x', .int l' y'] => k = k' /\ l = l' /\ K (upd fr d (.bool (ng != (decide (x = x') && decide (y = y'))))) hp
 | _, _ => False
def Qe6 (ng : Bool) (a b : PV) (d : Nat) (fr : Fr) (hp : HP) (K : Qa) : Prop :=
 match a, b with
 |.str x, .str y => K (upd fr d (.bool (ng != decide (x = y)))) hp
 | _, _ => False
def Qg0 (a : PV) (d : Nat) (fr : Fr) (hp : HP) (K : Qa) : Prop :=
 match a with
 |.str s => K (upd fr d (.int .i64 s.size)) hp
 | _ => False
def Qf5 (a i : PV) (d : Nat) (fr : Fr) (hp : HP) (K : Qa) : Prop :=
 match a, i with
 |.str s, .int _ n => 0 <= n /\ n < s.size /\ K (upd fr d (.int .u8 (s.get! n.toNat).toNat)) hp
 | _, _ => False
def Qec (c a b : PV) (d : Nat) (fr : Fr) (hp : HP) (K : Qa) : Prop :=
 match c with
 |.bool t => (t = true -> K (upd fr d a) hp) /\ (t = false -> K (upd fr d b) hp)
 | _ => False
def unK (op : UnOp) (a : PV) (d : Nat) (fr : Fr) (hp : HP) (K : Qa) : Prop :=
 match op, a with
 |.not, .bool b => K (upd fr d (.bool !b)) hp
 |.neg, .int k n => K (upd fr d (.int k (k.wrap (0 - n)))) hp
 | _, _ => False
def Qfo (k : IntKind) (a : PV) (d : Nat) (fr : Fr) (hp : HP) (K : Qa) : Prop :=
 match a with
 |.int _ n => K (upd fr d (.int k (k.wrap n))) hp
 | _ => False
def Qd8 (a : PV) (d : Nat) (fr : Fr) (hp : HP) (K : Qa) : Prop :=
 match a with
 |.nilS => K (upd fr d (.int .i64 0)) hp
 |.sl _ xs => K (upd fr d (.int .i64 xs.length)) hp
 |.mso _ _ n => K (upd fr d (.int .i64 n)) hp
 |.nso _ _ n => K (upd fr d (.int .i64 n)) hp
 | _ => False
def mxK (a b : PV) (d : Nat) (fr : Fr) (hp : HP) (K : Qa) : Prop :=
 match a, b with
 |.int k x, .int _ y => K (upd fr d (.int k (max x y))) hp
 | _, _ => False
def mnK (a b : PV) (d : Nat) (fr : Fr) (hp : HP) (K : Qa) : Prop :=
 match a, b with
 |.int k x, .int _ y => K (upd fr d (.int k (min x y))) hp
 | _, _ => False
def Qbg (e : Nat) (a i : PV) (d : Nat) (fr : Fr) (hp : HP) (K : Qa) : Prop :=
 match a, i with
 |.sl e' xs, .int _ n => e = e' /\ 0 <= n /\ ∃ h : n.toNat < xs.length, K (upd fr d (.pt (xs[n.toNat]'h).cells)) hp
 |.mso β o m, .int _ n => 0 <= n /\ n.toNat < m /\ (hp β).map (·.e) = some e /\ K (upd fr d (.mp β (o + n.toNat) 0)) hp
 |.nso γ o m, .int _ n => 0 <= n /\ n.toNat < m /\ (hp γ).map (·.e) = some e /\ K (upd fr d (.np γ (o + n.toNat) 0)) hp
 | _, _ => False
def Qds (len e : Nat) (a i : PV) (d : Nat) (fr : Fr) (hp : HP) (K : Qa) : Prop :=
 match a, i with
 |.mp β j o, .int _ n => 0 <= n /\ n < len /\ K (upd fr d (.mp β j (o + n.toNat * e))) hp
 |.pt cs, .int _ n => 0 <= n /\ n < len /\ n.toNat * e <= cs.length /\ K (upd fr d (.pt (cs.drop (n.toNat * e)))) hp
 | _, _ => False
def Qh7 (len e : Nat) (ag : Bool) (a i : PV) (d : Nat) (fr : Fr) (hp : HP) (K : Qa) : Prop :=
 match a, i with
 |.agg cs, .int _ n => 0 <= n /\ n < len /\ n.toNat * e + e <= cs.length /\ (ag = false -> e = 1) /\ K (upd fr d (ldV ag e (n.toNat * e) (.agg cs))) hp
 | _, _ => False
def Qe7 (off : Nat) (a : PV) (d : Nat) (fr : Fr) (hp : HP) (K : Qa) : Prop :=
 match a with
 |.mp β i o => K (upd fr d (.mp β i (o + off))) hp
 |.np γ i o => K (upd fr d (.np γ i (o + off))) hp
 |.pt cs => off <= cs.length /\ K (upd fr d (.pt (cs.drop off))) hp
 | _ => False
def Qdt (off n : Nat) (ag : Bool) (a : PV) (d : Nat) (fr : Fr) (hp : HP) (K : Qa) : Prop :=
 match a with
 |.agg cs => off + n <= cs.length /\ (ag = false -> n = 1) /\ K (upd fr d (ldV ag n off (.agg cs))) hp
 |.rag cs => off + n <= cs.length /\ (ag = false -> n = 1) /\ K (upd fr d (ldN ag n off (.rag cs))) hp
 | _ => False
def ldK (n : Nat) (ag : Bool) (a : PV) (d : Nat) (fr : Fr) (hp : HP) (K : Qa) : Prop :=
 match a with
 |.mp β i o => match hp β with
  | some hb => ∃ h : i < hb.xs.length, o + n <= hb.e /\ (ag = false -> n = 1) /\ K (upd fr d (ldV ag n o (hb.xs[i]'h))) hp
  | none => False
 |.pt cs => n <= cs.length /\ (ag = false -> n = 1) /\ K (upd fr d (ldV ag n 0 (.agg cs))) hp
 |.rb β o m => n = 1 /\ ag = false /\ K (upd fr d (.mso β o m)) hp
 |.np γ i o => match fr γ with
  |.nst γ' e _ xs => γ' = γ /\ ∃ h : i < xs.length, o + n <= e /\ (ag = false -> n = 1) /\ K (upd fr d (ldN ag n o (xs[i]'h))) hp
  | _ => False
 | _ => False
def stK (n : Nat) (a v : PV) (fr : Fr) (hp : HP) (K : Qa) : Prop :=
 match a with
 |.mp β i o => match Ql hp v.refs β with
  | some hb => hb.fz = false /\ (Qh hp v).isData = true /\ (Qh hp v).cells.length = n /\ ∃ h : i < hb.xs.length, o + n <= hb.e /\
    K fr (Qe (Ql hp v.refs) β { hb with xs := hb.xs.set i (if n = hb.e then Qh hp v else stV (hb.xs[i]'h) o (Qh hp v)) })
  | none => False
 |.np γ i o => match fr γ with
  |.nst γ' e ty xs => γ' = γ /\ (∃ hb, hp γ = some hb /\ hb.fz = false) /\ ∃ h : i < xs.length, o + n <= e /\ match stN v with
   | some cs => cs.length = n /\ K (upd (Qbe γ fr) γ (.nst γ e ty (xs.set i (Qb5 (Qeo (xs[i]'h).ncells o cs))))) hp
   | none => False
  | _ => False
 | _ => False
def nmN (d : Nat) : Nat := 4000000 + d
def Qf6 (n ty : Nat) (cs : List PV) (d : Nat) (fr : Fr) (hp : HP) (K : Qa) : Prop :=
 (cs.length = n /\ 0 < n /\ cs.all PV.notU = true /\ cs.all (fun x => !(x.sref1.contains (nmN d))) = true) /\
  K (upd (upd (Qay (nmN d) fr) (nmN d) (.nst (nmN d) n ty [.rag cs])) d (.np (nmN d) 0 0)) (Qe hp (nmN d) ⟨n, ty, [], false⟩)
def Qbb (n ty : Nat) (v : PV) (d : Nat) (fr : Fr) (hp : HP) (K : Qa) : Prop :=
 match v with
 |.rag cs => Qf6 n ty cs d fr hp K
 | v => match (match v with | .mso β o m => if isY β then some (β, o, m) else none | _ => none) with
 | some (β, o, m) => K (upd fr d (.rb β o m)) hp
 | none =>
 (Qh hp v).isData = true /\ (Qh hp v).cells.length = n /\ 0 < n /\ K (upd (Qy d fr) d (.mp d 0 0)) (Qe (Ql hp v.refs) d ⟨n, ty, [Qh hp v], false⟩)
def mkK (e by_ ty : Nat) (z l c : PV) (d : Nat) (fr : Fr) (hp : HP) (K : Qa) : Prop :=
 match l, c with
 |.int _ L, .int _ C => 0 < e /\ z.cells.length = e /\ 0 <= L /\ L <= C /\ by_ * C <= 281474976710656 /\ C <= 9223372036854775807 /\
   K (upd (Qy d fr) d (.ms d L.toNat)) (Qe hp d ⟨e, ty, List.replicate L.toNat z, false⟩)
 | _, _ => False
def Qh8 (hp : HP) (e : Nat) (ps : List PV) : Prop := ∀ p ∈ ps, (Qh hp p).isData = true /\ (Qh hp p).cells.length = e
def Qbm : PV -> Bool
 |.mso β 0 _ => decide (5000000 <= β)
 | _ => false
def Qd9 : List PV -> Bool
 | [x] => Qbm x
 | _ => false
def bsN (e ty : Nat) (ps : List PV) (d : Nat) (fr : Fr) (hp : HP) (K : Qa) : Prop :=
 e = 1 /\ K (upd (upd (Qay (nmN d) fr) (nmN d) (.nst (nmN d) 1 ty ps)) d (.nso (nmN d) 0 1)) (Qe hp (nmN d) ⟨1, ty, [], false⟩)
def Qh9 (e by_ ty : Nat) (s x : PV) (d : Nat) (fr : Fr) (hp : HP) (K : Qa) : Prop :=
 match x with
 |.nso δ 0 1 => match fr δ with
  |.nst δ' 1 _ [y] => δ' = δ /\ Qbm y = true /\ e = 1 /\
   match s with
   |.nilS => by_ <= 140737488355328 /\ K (upd (upd (Qay (nmN d) fr) (nmN d) (.nst (nmN d) 1 ty [y])) d (.nso (nmN d) 0 1)) (Qe hp (nmN d) ⟨1, ty, [], false⟩)
   |.nso γ 0 k => match fr γ with
    |.nst γ' 1 ty2 xs => (γ' = γ /\ γ < 5000000 /\ isY γ = false /\ ty2 = ty /\ k = xs.length /\ xs.all Qbm = true /\ (k + 1) * by_ <= 140737488355328 /\ k + 1 <= 9223372036854775807) /\ (∃ hb, hp γ = some hb /\ hb.fz = false) /\
      K (upd (upd (Qay γ fr) γ (.nst γ 1 ty (xs ++ [y]))) d (.nso γ 0 (k + 1))) (Qe hp γ ⟨1, ty, [], false⟩)
    | _ => False
   | _ => False
  | _ => False
 | _ => False
def bsO (e ty : Nat) (ps : List PV) (d : Nat) (fr : Fr) (hp : HP) (K : Qa) : Prop :=
 0 < e /\ Qh8 hp e ps /\ K (upd (Qy d fr) d (.ms d ps.length)) (Qe (Ql hp (ps.flatMap PV.refs)) d ⟨e, ty, ps.map (Qh hp), false⟩)
def bsK (e ty : Nat) (ps : List PV) (d : Nat) (fr : Fr) (hp : HP) (K : Qa) : Prop := if Qd9 ps = true then bsN e ty ps d fr hp K else bsO e ty ps d fr hp K
def Qb3 (hp : HP) : PV -> Option (Nat × List PV)
 |.nilS => some (0, [])
 |.sl e xs => some (e, xs)
 |.mso β o n => (hp β).map fun hb => (hb.e, (hb.xs.drop o).take n)
 | _ => none
def Qcl (e by_ ty : Nat) (s x : PV) (d : Nat) (fr : Fr) (hp : HP) (K : Qa) : Prop :=
 match Qb3 hp x with
 | none => Qh9 e by_ ty s x d fr hp K
 | some (e', ys) => 0 < e /\ (e' = e ∨ ys = []) /\
  match s with
  |.nilS => ys.length * by_ <= 140737488355328 /\ ys.length <= 9223372036854775807 /\
    K (upd (Qy d fr) d (.ms d ys.length)) (Qe hp d ⟨e, ty, ys, false⟩)
  |.mso β 0 n => match hp β with
   | some hb => (isB β = false /\ hb.fz = false /\ hb.e = e /\ hb.ty = ty /\ n <= hb.xs.length /\ (n + ys.length) * by_ <= 140737488355328 /\ n + ys.length <= 9223372036854775807 /\
     K (upd (Qy β fr) d (.ms β (n + ys.length))) (Qe hp β ⟨e, ty, hb.xs.take n ++ ys, false⟩)) ∨
    (isB β = true /\ isY β = false /\ (ys ≠ [] /\ hb.fz = false /\ hb.e = e /\ hb.ty = ty /\ n <= hb.xs.length /\ (n + ys.length) * by_ <= 140737488355328 /\ n + ys.length <= 9223372036854775807) /\
     K (upd (Qay β fr) d (.ms β (n + ys.length))) (Qe hp β ⟨e, ty, hb.xs.take n ++ ys, false⟩))
   | none => False
  | _ => False
def Qia (e : Nat) (s x : PV) (d : Nat) (fr : Fr) (hp : HP) (K : Qa) : Prop :=
 match Qb3 hp x, s with
 | some (e', ys), .mso β 0 n => match hp β with
  | some hb => 0 < e /\ hb.fz = false /\ hb.e = e /\ (e' = e ∨ ys = []) /\ n = hb.xs.length /\
    K (upd fr d (.int .i64 (min (ys.length : Int) n))) (Qe hp β { hb with xs := ys.take n ++ hb.xs.drop ys.length })
  | none => False
 | _, _ => False
def Qal (d : Int) : Option PV -> Option Int
 | none => some d
 | some (.int _ n) => some n
 | some _ => none
def slK (e : Nat) (a : PV) (lo hi mx : Option PV) (d : Nat) (fr : Fr) (hp : HP) (K : Qa) : Prop :=
 match a with
 |.nilS => match Qal 0 lo, Qal 0 hi, Qal 0 mx with
  | some L, some H, some M => L = 0 /\ H = 0 /\ M = 0 /\ (mx.isSome -> hi.isSome) /\ K (upd fr d .nilS) hp
  | _, _, _ => False
 |.sl e' xs => match Qal 0 lo, Qal xs.length hi, Qal xs.length mx with
  | some L, some H, some M => e' = e /\ 0 <= L /\ L <= H /\ H <= M /\ M <= xs.length /\ (mx.isSome -> hi.isSome) /\ K (upd fr d (.sl e ((xs.take H.toNat).drop L.toNat))) hp
  | _, _, _ => False
 |.mso β o n => match Qal 0 lo, Qal n hi, mx with
  | some L, some H, none => (hp β).map (·.e) = some e /\ 0 <= L /\ L <= H /\ H <= n /\ (L = 0 ∨ L < n) /\ K (upd fr d (.mso β (o + L.toNat) (H.toNat - L.toNat))) hp
  | _, _, _ => False
 | _ => False
def Qc3 (a : PV) (i : Nat) (d : Nat) (fr : Fr) (hp : HP) (K : Qa) : Prop :=
 match a with
 |.tup ps => match ps[i]? with
  | some p => p.isData = true /\ K (upd fr d p) hp
  | none => False
 |.rtp ps => match ps[i]? with
  | some p => K (upd fr d p) hp
  | none => False
 |.rtq cs q => match i with
  | 0 => K (upd fr d (.rag cs)) hp
  | 1 => K (upd fr d q) hp
  | _ => False
 | _ => False
def Qa6 (cells : List PV) : List (Nat × List PV) -> List PV
 | [] => cells
 | (o, xs) :: r => Qa6 (cells.take o ++ xs ++ cells.drop (o + xs.length)) r
def Qjt (hp : HP) (len : Nat) (ps : List (Nat × Nat × PV)) : Prop := ∀ p ∈ ps, (Qh hp p.2.2).isData = true /\ (Qh hp p.2.2).cells.length = p.2.1 /\ p.1 + p.2.1 <= len
def Qhf (zero : List PV) (ps : List (Nat × Nat × PV)) (d : Nat) (fr : Fr) (hp : HP) (K : Qa) : Prop :=
 Qjt hp zero.length ps /\ K (upd fr d (.agg (Qa6 zero (ps.map fun p => (p.1, (Qh hp p.2.2).cells))))) (Ql hp (ps.flatMap fun p => p.2.2.refs))
def PV.isNst : PV -> Bool
 |.nso .. | .rag _ => true
 |.mso β _ _ => decide (2000000 <= β)
 | _ => false
def Qc5 (len : Nat) (ps : List (Nat × Nat × PV)) : Prop := ∀ p ∈ ps, ∃ cs, stN p.2.2 = some cs /\ cs.length = p.2.1 /\ p.1 + p.2.1 <= len
def Qcp (zero : List PV) (ps : List (Nat × Nat × PV)) (d : Nat) (fr : Fr) (hp : HP) (K : Qa) : Prop :=
 if ps.any (fun p => p.2.2.isNst) then Qc5 zero.length ps /\ K (upd fr d (.rag (Qa6 zero (ps.map fun p => (p.1, (stN p.2.2).getD []))))) hp
 else Qhf zero ps d fr hp K
def Qhg (a : PV) (d : Option Nat) (fr : Fr) (hp : HP) (K : Qa) : Prop :=
 match a, d with
 |.mp _ _ _, some d | .pt _, some d | .fn _ _ _, some d => K (upd fr d a) hp
 |.mp _ _ _, none | .pt _, none | .fn _ _ _, none => K fr hp
 | _, _ => False
structure Ctx where
 P : Program
 N : Nat
 w0 : World
 X0 : Nat -> Prop
 hX0 : ∀ b, X0 b -> b < w0.heap.size
 hN : N <= 1000000
 fx : Nat -> Option Nat
 hfx : ∀ β b, fx β = some b -> b < w0.heap.size /\ (isR β = false -> ¬ X0 b)
 Z0 : Nat -> Prop
 hZ0 : ∀ b, Z0 b -> b < w0.heap.size /\ ¬ X0 b /\ ∀ β, fx β ≠ some b
@[reducible] def Ctx.plain (P : Program) (N : Nat) (w : World) (X : Nat -> Prop) (hX : ∀ b, X b -> b < w.heap.size) (hN : N <= 1000000) : Ctx :=
 ⟨P, N, w, X, hX, hN, fun _ => none, (fun _ _ h => nomatch h), Qm, fun _ h => h.elim⟩
def Ctx.Y0 (C : Ctx) : Nat -> Prop := fun b => (∃ β, isR β = false /\ C.fx β = some b) ∨ C.Z0 b
theorem Ctx.hY0 (C : Ctx) : ∀ b, C.Y0 b -> b < C.w0.heap.size /\ ¬ C.X0 b
 | b, .inl ⟨β, hr, h⟩ => ⟨(C.hfx β b h).1, (C.hfx β b h).2 hr⟩
 | b, .inr h => ⟨(C.hZ0 b h).1, (C.hZ0 b h).2.1⟩
theorem Ctx.plain_ext {P : Program} {N : Nat} {w w' : World} {X : Nat -> Prop} {hX : ∀ b, X b -> b < w.heap.size} {hN : N <= 1000000} (h : Ext (Ctx.plain P N w X hX hN).Y0 w w') : Ext Qm w w' :=
 h.mono fun b _ hb => by
  rcases hb with ⟨β, _, hb⟩ | hb
  ·cases hb
  ·exact hb
def Ctx.cls (C : Ctx) (β b : Nat) : Prop := if isY β = true then C.fx β = some b else C.w0.heap.size <= b ∨ C.Z0 b
theorem Ctx.cls_or {C : Ctx} {β b : Nat} (h : C.cls β b) (hr : isR β = false) : C.w0.heap.size <= b ∨ C.Y0 b := by
 unfold Ctx.cls at h;split at h
 ·exact .inr (.inl ⟨β, hr, h⟩)
 ·exact h.imp id .inr
theorem Ctx.cls_N {C : Ctx} {β b : Nat} (h : C.cls β b) (hB : isY β = false) : C.w0.heap.size <= b ∨ C.Z0 b := by
 unfold Ctx.cls at h
 rwa [if_neg (by simp [hB])] at h
theorem Ctx.cls_mk {C : Ctx} {β b : Nat} (h : C.w0.heap.size <= b ∨ C.Z0 b) (hB : isY β = false) : C.cls β b := by
 unfold Ctx.cls
 rwa [if_neg (by simp [hB])]
theorem Ctx.N_Y {C : Ctx} {b : Nat} (h : C.w0.heap.size <= b ∨ C.Z0 b) : C.w0.heap.size <= b ∨ C.Y0 b := h.imp id .inr
theorem Ctx.N_fx {C : Ctx} {β b : Nat} (h : C.w0.heap.size <= b ∨ C.Z0 b) : C.fx β ≠ some b := fun e => by
 rcases h with h | h
 ·have := (C.hfx β b e).1; omega
 ·exact (C.hZ0 b h).2.2 β e
theorem Ctx.cls_notX {C : Ctx} {β b : Nat} (h : C.cls β b) (hr : isR β = false) : ¬ C.X0 b := fun hx => by
 rcases Ctx.cls_or h hr with h | h
 ·have := C.hX0 b hx; omega
 ·exact (C.hY0 b h).2 hx
def Xof (C : Ctx) (ρ : Nat -> Option Nat) (hp : HP) : Nat -> Prop := fun b => C.X0 b ∨ ∃ β hb, hp β = some hb /\ hb.fz = false /\ ρ β = some b
def Qam (w : World) (b e cap : Nat) : Prop := ∃ cur ty, w.heap[b]? = some (.cells cur ty (0, 0)) /\ cur.size = cap * e
def Ql2 (w : World) (X : Nat -> Prop) (b : Nat) (hb : HB) : Prop :=
 ∃ (cur : Array Value) (cap : Nat), w.heap[b]? = some (.cells cur hb.ty (0, 0)) /\ cur.size = cap * hb.e /\ hb.xs.length <= cap /\ cap <= maxLen /\
  ∀ (i : Nat) (x : PV), hb.xs[i]? = some x -> ∀ (j : Nat) (y : PV), x.cells[j]? = some y -> Qc w X y (cur.getD (i * hb.e + j) undef)
structure Qx9 (C : Ctx) (ρ : Nat -> Option Nat) (hp : HP) (w : World) (β : Nat) (hb : HB) : Prop where
 epos : 0 < hb.e
 len : ∀ (i : Nat) (x : PV), hb.xs[i]? = some x -> x.cells.length = hb.e /\ x.isData = true
 blk : match ρ β with
  | none => hb.xs = []
  | some b => C.cls β b /\ b < w.heap.size /\ Ql2 w (Xof C ρ hp) b hb
 fix : isY β = true -> ρ β = C.fx β
 ro : isR β = true -> hb.fz = true
def Qbt (ρ : Nat -> Option Nat) (hp : HP) (w : World) (β o n : Nat) (v : Value) : Prop :=
 ∃ hb, hp β = some hb /\ o + n <= hb.xs.length /\ ((ρ β = none /\ v = .slice none 0 0 /\ n = 0 /\ o = 0) ∨
   ∃ b cap, ρ β = some b /\ v = .slice (some ⟨b, o * hb.e, none⟩) n cap /\ Qam w b hb.e (o + cap) /\ o + cap <= maxLen)
def Qg1 (ρ : Nat -> Option Nat) (hp : HP) (w : World) (γ o n : Nat) (v : Value) : Prop :=
 isB γ = true /\ ∃ hb b cap, hp γ = some hb /\ ρ γ = some b /\ v = .slice (some ⟨b, o * hb.e, none⟩) n cap /\ Qam w b hb.e (o + cap) /\ o + cap <= maxLen /\ n <= cap
def Qaz (C : Ctx) (ρ : Nat -> Option Nat) (hp : HP) (w : World) : PV -> Value -> Prop
 |.undef, _ => True
 |.mso β o n, v => isB β = true /\ Qbt ρ hp w β o n v
 |.nso γ o n, v => Qg1 ρ hp w γ o n v
 | p, v => Qc w (Xof C ρ hp) p v
def Qbh (C : Ctx) (ρ : Nat -> Option Nat) (hp : HP) (w : World) : PV -> Value -> Prop
 |.mp β i o, v => ∃ b hb, ρ β = some b /\ hp β = some hb /\ v = .pointer (some ⟨b, i * hb.e + o, none⟩)
 |.mso β o n, v => Qbt ρ hp w β o n v
 |.rb β o n, v => ∃ b u, v = .pointer (some ⟨b, 0, none⟩) /\ b < w.heap.size /\ ¬ Xof C ρ hp b /\ w.cell? ⟨b, 0, none⟩ = some u /\ Qbt ρ hp w β o n u
 |.np γ i o, v => isB γ = true /\ ∃ b hb, ρ γ = some b /\ hp γ = some hb /\ v = .pointer (some ⟨b, i * hb.e + o, none⟩)
 |.nso γ o n, v => Qg1 ρ hp w γ o n v
 | p, v => Qc w (Xof C ρ hp) p v
def Qb (C : Ctx) (ρ : Nat -> Option Nat) (hp : HP) (w : World) : PV -> Value -> Prop
 |.undef, _ => True
 |.mp β i o, v => Qbh C ρ hp w (.mp β i o) v
 |.mso β o n, v => Qbh C ρ hp w (.mso β o n) v
 |.rb β o n, v => Qbh C ρ hp w (.rb β o n) v
 |.np γ i o, v => Qbh C ρ hp w (.np γ i o) v
 |.nso γ o n, v => Qbh C ρ hp w (.nso γ o n) v
 |.rag cs, v => ∃ vs : Array Value, v = .agg vs /\ vs.size = cs.length /\ ∀ (i : Nat) (x : PV), cs[i]? = some x -> Qaz C ρ hp w x (vs.getD i undef)
 |.rtp cs, v => ∃ vs : Array Value, v = .tuple vs /\ vs.size = cs.length /\ ∀ (i : Nat) (x : PV), cs[i]? = some x -> Qaz C ρ hp w x (vs.getD i undef)
 |.rtq cs q, v => ∃ (vs : Array Value) (u : Value), v = .tuple #[.agg vs, u] /\ vs.size = cs.length /\ (∀ (i : Nat) (x : PV), cs[i]? = some x -> Qaz C ρ hp w x (vs.getD i undef)) /\ Qk w (Xof C ρ hp) q u
 |.nst γ e ty xs, _ => isB γ = true /\ 0 < e /\ ∃ (b : Nat) (hb : HB) (cur : Array Value) (cap : Nat), ρ γ = some b /\ hp γ = some hb /\ hb.xs = [] /\ hb.e = e /\ hb.ty = ty /\ w.heap[b]? = some (.cells cur ty (0, 0)) /\ cur.size = cap * e /\ xs.length <= cap /\ cap <= maxLen /\
   (∀ (i : Nat) (x : PV), xs[i]? = some x -> x.ncells.length = e) /\ ∀ (i : Nat) (x : PV), xs[i]? = some x -> ∀ (j : Nat) (y : PV), x.ncells[j]? = some y -> Qaz C ρ hp w y (cur.getD (i * e + j) undef)
 |.fn f first cap, v => ∃ fv cv : Array Value, v = .func (.func f) fv cv /\ fv.size = first.length /\ cv.size = cap.length /\
   (∀ (i : Nat) (x : PV), first[i]? = some x -> Qbh C ρ hp w x (fv.getD i undef)) /\ (∀ (i : Nat) (x : PV), cap[i]? = some x -> Qbh C ρ hp w x (cv.getD i undef))
 | p, v => Qbj w (Xof C ρ hp) p v
structure Qg (C : Ctx) (ρ : Nat -> Option Nat) (fr : Fr) (hp : HP) (tmps : Array Value) (w : World) : Prop where
 sz : tmps.size = C.N
 ext : Ext C.Y0 C.w0 w
 keep : ∀ β b, C.fx β = some b -> ∀ e cap, Qam C.w0 b e cap -> Qam w b e cap
 own : ∀ β hb, hp β = some hb -> Qx9 C ρ hp w β hb
 inj : ∀ β γ b, hp β ≠ none -> hp γ ≠ none -> ρ β = some b -> ρ γ = some b -> β = γ
 slots : ∀ i, Qb C ρ hp w (fr i) (tmps.getD i undef)
def Sim (C : Ctx) (fr : Fr) (hp : HP) (tmps : Array Value) (w : World) : Prop := ∃ ρ, Qg C ρ fr hp tmps w
def Qug (tmps : Array Value) (d : Option Nat) (v : Value) : Array Value := match d with | some d => tmps.setIfInBounds d v | none => tmps
def Wk (fr : Fr) (hp : HP) (fr' : Fr) (hp' : HP) : Prop := ∀ (C : Ctx) (tmps : Array Value) (w : World), Sim C fr hp tmps w -> Sim C fr' hp' tmps w
def Qdu (C : Ctx) (pr : Bool) (f : PV) (args : List PV) (d : Option Nat) (fr : Fr) (hp : HP) (K : Qa) : Prop :=
 match f with
 |.fn g first cap => (C.P.funcs[g]?).any (fun fn => fn.body.isSome && fn.name != "runtime.NumGoroutine") = true /\
  ∀ ρ tmps w (fv cv av : Array Value), (∀ x, d = some x -> x < C.N) -> Qg C ρ fr hp tmps w ->
   fv.size = first.length -> cv.size = cap.length -> av.size = args.length ->
   (∀ (i : Nat) (x : PV), first[i]? = some x -> Qbh C ρ hp w x (fv.getD i undef)) -> (∀ (i : Nat) (x : PV), cap[i]? = some x -> Qbh C ρ hp w x (cv.getD i undef)) ->
   (∀ (i : Nat) (x : PV), args[i]? = some x -> Qb C ρ hp w x (av.getD i undef)) ->
   Calls C.P g (fv ++ av ++ cv) w fun e w' => ∃ v fr' hp', e = .returned v /\ Sim C fr' hp' (Qug tmps d v) w' /\ (pr = true -> Ext Qm w w') /\ K fr' hp'
 | _ => False
def opV (C : Ctx) (o : SOp) (fr : Fr) (hp : HP) (K : Qa) : Prop :=
 match o with
 |.mv d x => K (upd fr d (ev fr x)) hp
 |.pick d c a b => Qec (ev fr c) (ev fr a) (ev fr b) d fr hp K
 |.bin d op bt x y => Qaw op bt (ev fr x) (ev fr y) d fr hp K
 |.eqs d ng x y => Qe5 ng (ev fr x) (ev fr y) d fr hp K
 |.sqs d ng x y => Qe6 ng (ev fr x) (ev fr y) d fr hp K
 |.sln d x => Qg0 (ev fr x) d fr hp K
 |.six d x i => Qf5 (ev fr x) (ev fr i) d fr hp K
 |.un d op x => unK op (ev fr x) d fr hp K
 |.conv d k x => Qfo k (ev fr x) d fr hp K
 |.len d x => Qd8 (ev fr x) d fr hp K
 |.mx d x y => mxK (ev fr x) (ev fr y) d fr hp K
 |.mn d x y => mnK (ev fr x) (ev fr y) d fr hp K
 |.idx d e x i => Qbg e (ev fr x) (ev fr i) d fr hp K
 |.idxA d n e x i => Qds n e (ev fr x) (ev fr i) d fr hp K
 |.ixv d n e ag x i => Qh7 n e ag (ev fr x) (ev fr i) d fr hp K
 |.fld d off x => Qe7 off (ev fr x) d fr hp K
 |.fldv d off n ag x => Qdt off n ag (ev fr x) d fr hp K
 |.ld d n ag x => ldK n ag (ev fr x) d fr hp K
 |.st n x v => stK n (ev fr x) (ev fr v) fr hp K
 |.box d n ty v => Qbb n ty (ev fr v) d fr hp K
 |.alloc d n ty z => Qbb n ty z d fr hp K
 |.mk d e by_ ty z l c => mkK e by_ ty z (ev fr l) (ev fr c) d fr hp K
 |.bs d e ty ps => bsK e ty (ps.map (ev fr)) d fr hp K
 |.app d e by_ ty s x => Qcl e by_ ty (ev fr s) (ev fr x) d fr hp K
 |.cpy d e s x => Qia e (ev fr s) (ev fr x) d fr hp K
 |.sl d e x lo hi mx => slK e (ev fr x) (lo.map (ev fr)) (hi.map (ev fr)) (mx.map (ev fr)) d fr hp K
 |.ext d x i => Qc3 (ev fr x) i d fr hp K
 |.bld d zero ps => Qcp zero (ps.map fun p => (p.1, p.2.1, ev fr p.2.2)) d fr hp K
 |.fn d f first cap => (first.map (ev fr) ++ cap.map (ev fr)).all PV.isCap = true /\ K (upd fr d (.fn f (first.map (ev fr)) (cap.map (ev fr)))) hp
 |.call d pr f args => Qdu C pr (ev fr f) (args.map (ev fr)) d fr hp K
 |.nilc d x => Qhg (ev fr x) d fr hp K
 |.bad _ => False
def Qb4 (o : SOp) (fr : Fr) (hp : HP) (K : Qa) : Prop :=
 match o.dst with
 | some d => K (upd fr d (.tup [])) hp
 | none => K fr hp
def Qfp (C : Ctx) (g : Option (Nat × Bool)) (o : SOp) (fr : Fr) (hp : HP) (K : Qa) : Prop :=
 match g with
 | none => opV C o fr hp K
 | some (s, want) => match fr s with
  |.bool t => (t = want -> opV C o (upd fr s (.bool want)) hp K) /\ (t = (!want) -> Qb4 o (upd fr s (.bool !want)) hp K)
  |.tup [] => Qb4 o fr hp K
  | _ => False
inductive It where
 | c (s : SC)
 | o (r : RT)
 | eb (id : Nat)
 | el (J : Qa)
def RT.sz : RT -> Nat
 |.nil => 1
 |.o _ _ r => r.sz + 1
 |.br a b => a.sz + b.sz + 1
 |.wk r => r.sz + 1
def SC.sz : SC -> Nat
 |.rg r => r.sz + 1
 |.seq a b => a.sz + b.sz + 1
 |.cond _ a b => a.sz + b.sz + 1
 |.block _ a => a.sz + 2
 |.loop a => a.sz + 2
 | _ => 1
def It.sz : It -> Nat
 |.c s => s.sz
 |.o r => r.sz
 | _ => 1
def Qau : List It -> Nat
 | [] => 0
 | i :: is => i.sz + Qau is
def Qs (id : Nat) : List It -> Option (List It)
 | [] => none
 |.eb i :: sk => if i = id then some sk else Qs id sk
 | _ :: sk => Qs id sk
theorem Qd1 (id : Nat) : ∀ (sk sk' : List It), FW.Qs id sk = some sk' -> Qau sk' <= Qau sk
 | [], _, h => by simp [FW.Qs] at h
 |.c s :: sk, sk', h => by have := Qd1 id sk sk' (by simpa [FW.Qs] using h); simp [Qau]; omega
 |.o s :: sk, sk', h => by have := Qd1 id sk sk' (by simpa [FW.Qs] using h); simp [Qau]; omega
 |.el s :: sk, sk', h => by have := Qd1 id sk sk' (by simpa [FW.Qs] using h); simp [Qau]; omega
 |.eb i :: sk, sk', h => by
  simp only [FW.Qs] at h;split at h
  ·cases h; simp [Qau]
  ·have := Qd1 id sk sk' h; simp [Qau]; omega
theorem RT.sz_pos (r : RT) : 0 < r.sz := by cases r <;> simp [RT.sz]
theorem SC.sz_pos (s : SC) : 0 < s.sz := by cases s <;> simp [SC.sz]
def vc (C : Ctx) (R : Qa) (sk : List It) (fr : Fr) (hp : HP) : Prop :=
 match sk with
 | [] => R fr hp
 |.el J :: _ => J fr hp
 |.eb _ :: sk => vc C R sk fr hp
 |.o .nil :: sk => vc C R sk fr hp
 |.o (.o g o r) :: sk => Qfp C g o fr hp (fun fr hp => vc C R (.o r :: sk) fr hp)
 |.o (.br a b) :: sk => vc C R (.o a :: sk) fr hp /\ vc C R (.o b :: sk) fr hp
 |.o (.wk r) :: sk => ∃ fr0 hp0, Wk fr hp fr0 hp0 /\ vc C R (.o r :: sk) fr0 hp0
 |.c .skip :: sk => vc C R sk fr hp
 |.c (.rg r) :: sk => vc C R (.o r :: sk) fr hp
 |.c (.raw id ops) :: sk => ∀ tmps w Q, Sim C fr hp tmps w -> (∀ fr' hp' tmps' w', Sim C fr' hp' tmps' w' -> vc C R sk fr' hp' -> Q .normal { tmps := tmps', defers := [] } w') -> (Code.region id ops true).wp C.P Q { tmps := tmps, defers := [] } w
 |.c (.seq a b) :: sk => vc C R (.c a :: .c b :: sk) fr hp
 |.c (.cond c a b) :: sk => match ev fr c with
  |.bool t => (t = true -> vc C R (.c a :: sk) fr hp) /\ (t = false -> vc C R (.c b :: sk) fr hp)
  | _ => False
 |.c (.block id a) :: sk => vc C R (.c a :: .eb id :: sk) fr hp
 |.c (.loop a) :: sk => ∃ (I : Qa) (μ : Fr -> HP -> Nat), (∃ fr0 hp0, Wk fr hp fr0 hp0 /\ I fr0 hp0) /\ ∀ fr hp, I fr hp -> vc C R (.c a :: .el (fun fr' hp' => ∃ fr0 hp0, Wk fr' hp' fr0 hp0 /\ I fr0 hp0 /\ μ fr0 hp0 < μ fr hp) :: sk) fr hp
 |.c (.exit id) :: sk => match h : FW.Qs id sk with
  | some sk' => vc C R sk' fr hp
  | none => False
 |.c .ret :: _ => R fr hp
termination_by Qau sk
decreasing_by
 all_goals simp only [Qau, It.sz, SC.sz, RT.sz]
 all_goals first | omega | (have := Qd1 _ _ _ h; omega) | skip
variable {C : Ctx} {ρ : Nat -> Option Nat} {fr : Fr} {hp : HP} {tmps : Array Value} {w : World}
theorem Qbt.move {ρ' : Nat -> Option Nat} {hp' : HP} {w' : World} {β o n : Nat} {v : Value} (h : Qbt ρ hp w β o n v)
  (hr : ρ' β = ρ β /\ ∀ hb, hp β = some hb -> ∃ hb', hp' β = some hb' /\ hb'.e = hb.e /\ hb.xs.length <= hb'.xs.length /\ ∀ b cap, ρ β = some b -> Qam w b hb.e cap -> Qam w' b hb.e cap) : Qbt ρ' hp' w' β o n v := by
 obtain ⟨hb, h2, h3, h4⟩ := h;obtain ⟨e1, e2⟩ := hr;obtain ⟨hb', h5, h6, h7, h8⟩ := e2 hb h2;refine ⟨hb', h5, Nat.le_trans h3 h7, ?_⟩;rcases h4 with ⟨g1, g2, g3⟩ | ⟨b, cap, g1, g2, g3, g4⟩
 ·exact .inl ⟨by rw [e1]; exact g1, g2, g3⟩
 ·exact .inr ⟨b, cap, by rw [e1]; exact g1, by rw [h6]; exact g2, by rw [h6]; exact h8 b (o + cap) g1 g3, g4⟩
structure Qe8 (w w' : World) (X X' : Nat -> Prop) : Prop where
 blk : ∀ b, b < w.heap.size -> ¬ X b -> w'.heap[b]? = w.heap[b]?
 out : ∀ b, b < w.heap.size -> ¬ X b -> ¬ X' b
 size : w.heap.size <= w'.heap.size
theorem Qe8.rc {w w' : World} {X X' : Nat -> Prop} (h : Qe8 w w' X X') : ∀ q u, Qc w X q u -> Qc w' X' q u := fun _ _ hq => hq.mono h.blk h.out h.size
structure Cnd (ρ ρ' : Nat -> Option Nat) (hp hp' : HP) (w w' : World) (β : Nat) : Prop where
 r : ρ' β = ρ β
 h : ∀ hb, hp β = some hb -> ∃ hb', hp' β = some hb' /\ hb'.e = hb.e /\ hb.xs.length <= hb'.xs.length /\ (∀ b cap, ρ β = some b -> Qam w b hb.e cap -> Qam w' b hb.e cap) /\ (hb.xs = [] -> hb'.xs = [] /\ hb'.ty = hb.ty /\ ∀ b, ρ β = some b -> w'.heap[b]? = w.heap[b]?)
theorem Cnd.o {ρ' : Nat -> Option Nat} {hp' : HP} {w' : World} {β : Nat} (h : Cnd ρ ρ' hp hp' w w' β) : ρ' β = ρ β /\ ∀ hb, hp β = some hb -> ∃ hb', hp' β = some hb' /\ hb'.e = hb.e /\ hb.xs.length <= hb'.xs.length /\ ∀ b cap, ρ β = some b -> Qam w b hb.e cap -> Qam w' b hb.e cap :=
 ⟨h.r, fun hb hβ => let ⟨hb', a, b, c, d, _⟩ := h.h hb hβ; ⟨hb', a, b, c, d⟩⟩
structure Qib (ρ ρ' : Nat -> Option Nat) (hp hp' : HP) (w w' : World) (β : Nat) : Prop where
 r : ρ' β = ρ β
 h : ∀ hb, hp β = some hb -> ∃ hb', hp' β = some hb' /\ hb'.e = hb.e /\ hb.xs.length <= hb'.xs.length /\ ∀ b cap, ρ β = some b -> Qam w b hb.e cap -> Qam w' b hb.e cap
theorem Cnd.weak {ρ' : Nat -> Option Nat} {hp' : HP} {w' : World} {β : Nat} (h : Cnd ρ ρ' hp hp' w w' β) : Qib ρ ρ' hp hp' w w' β := ⟨h.r, h.o.2⟩
theorem Qg1.move {ρ' : Nat -> Option Nat} {hp' : HP} {w' : World} {γ o n : Nat} {v : Value} (h : Qg1 ρ hp w γ o n v) (hr : Qib ρ ρ' hp hp' w w' γ) : Qg1 ρ' hp' w' γ o n v := by obtain ⟨h0, hb, b, cap, h1, h2, h3, h4, h5, h6⟩ := h;obtain ⟨hb', a1, a2, _, a4⟩ := hr.h hb h1;exact ⟨h0, hb', b, cap, a1, by rw [hr.r]; exact h2, by rw [a2]; exact h3, by rw [a2]; exact a4 b _ h2 h4, h5, h6⟩
theorem Qaz.move {ρ' : Nat -> Option Nat} {hp' : HP} {w' : World} {p : PV} {v : Value} (h : Qaz C ρ hp w p v) (hc : Qe8 w w' (Xof C ρ hp) (Xof C ρ' hp')) (hs : ∀ β ∈ p.sref1, Qib ρ ρ' hp hp' w w' β) : Qaz C ρ' hp' w' p v := by
 cases p with
 | undef => trivial
 | mso β o n => exact ⟨h.1, Qbt.move h.2 ⟨(hs β (by simp [PV.sref1])).r, (hs β (by simp [PV.sref1])).h⟩⟩
 | nso γ o n => exact Qg1.move h (hs γ (by simp [PV.sref1]))
 | _ => exact hc.rc _ _ h
theorem Qbh.move {ρ' : Nat -> Option Nat} {hp' : HP} {w' : World} {p : PV} {v : Value} (h : Qbh C ρ hp w p v)
  (hc : Qe8 w w' (Xof C ρ hp) (Xof C ρ' hp'))
  (hr : ∀ β ∈ p.ref1, ρ' β = ρ β /\ ∀ hb, hp β = some hb -> ∃ hb', hp' β = some hb' /\ hb'.e = hb.e /\ hb.xs.length <= hb'.xs.length /\ ∀ b cap, ρ β = some b -> Qam w b hb.e cap -> Qam w' b hb.e cap)
  (hs : ∀ β ∈ p.nref1, Qib ρ ρ' hp hp' w w' β) :
  Qbh C ρ' hp' w' p v := by
 cases p with
 | mp β i o =>obtain ⟨b, hb, h1, h2, h3⟩ := h;obtain ⟨e1, e2⟩ := hr β (by simp [PV.ref1]);obtain ⟨hb', h4, h5, _, _⟩ := e2 hb h2;exact ⟨b, hb', by rw [e1]; exact h1, h4, by rw [h5]; exact h3⟩
 | mso β o n => exact Qbt.move h (hr β (by simp [PV.ref1]))
 | rb β o n =>obtain ⟨b, u, h1, h2, h3, h4, h5⟩ := h;exact ⟨b, u, h1, Nat.lt_of_lt_of_le h2 hc.size, hc.out b h2 h3, (Qby (hc.blk b h2 h3)).trans h4, Qbt.move h5 (hr β (by simp [PV.ref1]))⟩
 | np γ i o =>obtain ⟨h0, b, hb, h1, h2, h3⟩ := h;have hq := hs γ (by simp [PV.nref1]);obtain ⟨hb', a1, a2, _⟩ := hq.h hb h2;exact ⟨h0, b, hb', by rw [hq.r]; exact h1, a1, by rw [a2]; exact h3⟩
 | nso γ o n => exact Qg1.move h (hs γ (by simp [PV.nref1]))
 | _ => exact hc.rc _ _ h
theorem Qfd {f : FuncId} {first cap : List PV} {i : Nat} {x : PV} (h : first[i]? = some x) : ∀ β ∈ x.ref1, β ∈ (PV.fn f first cap).refs := by intro β hβ;simp only [PV.refs, List.mem_append, List.mem_flatMap];exact .inl ⟨x, List.mem_of_getElem? h, hβ⟩
theorem Qf7 {f : FuncId} {first cap : List PV} {i : Nat} {x : PV} (h : cap[i]? = some x) : ∀ β ∈ x.ref1, β ∈ (PV.fn f first cap).refs := by intro β hβ;simp only [PV.refs, List.mem_append, List.mem_flatMap];exact .inr ⟨x, List.mem_of_getElem? h, hβ⟩
theorem Qbj.move {w' : World} {X X' : Nat -> Prop} {p : PV} {v : Value} (h : Qbj w X p v) (hc : ∀ q u, Qc w X q u -> Qc w' X' q u) : Qbj w' X' p v := by
 have h1 : ∀ p v, Qk w X p v -> Qk w' X' p v := by
  intro p v h;cases p with
  | agg cs => obtain ⟨vs, rfl, h1, h2⟩ := h; exact ⟨vs, rfl, h1, fun i x hi => hc _ _ (h2 i x hi)⟩
  | _ => exact hc _ _ h
 cases p with
 | tup ps => obtain ⟨vs, rfl, g1, g2⟩ := h; exact ⟨vs, rfl, g1, fun i x hi => h1 _ _ (g2 i x hi)⟩
 | agg cs => exact h1 (.agg cs) v h
 | _ => exact hc _ _ h
theorem Qb.move {ρ' : Nat -> Option Nat} {hp' : HP} {w' : World} {p : PV} {v : Value} (h : Qb C ρ hp w p v)
  (hc : Qe8 w w' (Xof C ρ hp) (Xof C ρ' hp'))
  (hr : ∀ β ∈ p.refs, ρ' β = ρ β /\ ∀ hb, hp β = some hb -> ∃ hb', hp' β = some hb' /\ hb'.e = hb.e /\ hb.xs.length <= hb'.xs.length /\ ∀ b cap, ρ β = some b -> Qam w b hb.e cap -> Qam w' b hb.e cap)
  (hs : ∀ β ∈ p.sref, Qib ρ ρ' hp hp' w w' β) (hn : ∀ γ e ty xs, p = .nst γ e ty xs -> Cnd ρ ρ' hp hp' w w' γ) :
  Qb C ρ' hp' w' p v := by
 cases p with
 | undef => trivial
 | mp β i o => exact Qbh.move (p :=.mp β i o) h hc (fun β' hβ' => hr β' hβ') (fun β hβ => by cases hβ)
 | mso β o n => exact Qbh.move (p :=.mso β o n) h hc (fun β' hβ' => hr β' hβ') (fun β hβ => by cases hβ)
 | rb β o n => exact Qbh.move (p :=.rb β o n) h hc (fun β' hβ' => hr β' hβ') (fun β hβ => by cases hβ)
 | np γ i o => exact Qbh.move (p :=.np γ i o) h hc (fun β hβ => by cases hβ) (fun β' hβ' => hs β' hβ')
 | nso γ o n => exact Qbh.move (p :=.nso γ o n) h hc (fun β hβ => by cases hβ) (fun β' hβ' => hs β' hβ')
 | rag cs =>obtain ⟨vs, rfl, h1, h2⟩ := h;exact ⟨vs, rfl, h1, fun i x hi => (h2 i x hi).move hc (fun β hβ => hs β (List.mem_flatMap.2 ⟨x, List.mem_of_getElem? hi, hβ⟩))⟩
 | rtp cs =>obtain ⟨vs, rfl, h1, h2⟩ := h;exact ⟨vs, rfl, h1, fun i x hi => (h2 i x hi).move hc (fun β hβ => hs β (List.mem_flatMap.2 ⟨x, List.mem_of_getElem? hi, hβ⟩))⟩
 | rtq cs q =>obtain ⟨vs, u, rfl, h1, h2, h3⟩ := h;exact ⟨vs, u, rfl, h1, fun i x hi => (h2 i x hi).move hc (fun β hβ => hs β (List.mem_flatMap.2 ⟨x, List.mem_of_getElem? hi, hβ⟩)), h3.mono hc.blk hc.out hc.size⟩
 | nst γ e ty xs =>obtain ⟨h0, he, b, hb, cur, cap, h1, h2, h3, h4, h5, h6, h7, h8, h9, h10, h11⟩ := h;have hq := hn γ e ty xs rfl;obtain ⟨hb', a1, a2, _, _, a5⟩ := hq.h hb h2;obtain ⟨a5, a6, a7⟩ := a5 h3;refine ⟨h0, he, b, hb', cur, cap, by rw [hq.r]; exact h1, a1, a5, by rw [a2]; exact h4, by rw [a6]; exact h5, by rw [a7 b h1]; exact h6, h7, h8, h9, h10, fun i x hi j y hy => (h11 i x hi j y hy).move hc (fun β hβ => hs β ?_)⟩;refine List.mem_cons_of_mem _ (List.mem_flatMap.2 ⟨x, List.mem_of_getElem? hi, List.mem_flatMap.2 ⟨y, List.mem_of_getElem? hy, hβ⟩⟩)
 | fn f first cap =>
  obtain ⟨fv, cv, rfl, h1, h2, h3, h4⟩ := h;exact ⟨fv, cv, rfl, h1, h2, fun i x hi => (h3 i x hi).move hc (fun β hβ => hr β (Qfd hi β hβ)) (fun β hβ => hs β (List.mem_append.2 (.inl (List.mem_flatMap.2 ⟨x, List.mem_of_getElem? hi, hβ⟩)))),
   fun i x hi => (h4 i x hi).move hc (fun β hβ => hr β (Qf7 hi β hβ)) (fun β hβ => hs β (List.mem_append.2 (.inr (List.mem_flatMap.2 ⟨x, List.mem_of_getElem? hi, hβ⟩))))⟩
 | agg cs => exact Qbj.move (p :=.agg cs) h hc.rc
 | tup cs => exact Qbj.move (p :=.tup cs) h hc.rc
 | _ => exact hc.rc _ _ h
theorem Qb.moveC {ρ' : Nat -> Option Nat} {hp' : HP} {w' : World} {p : PV} {v : Value} (h : Qb C ρ hp w p v)
  (hc : Qe8 w w' (Xof C ρ hp) (Xof C ρ' hp'))
  (hr : ∀ β ∈ p.refs, ρ' β = ρ β /\ ∀ hb, hp β = some hb -> ∃ hb', hp' β = some hb' /\ hb'.e = hb.e /\ hb.xs.length <= hb'.xs.length /\ ∀ b cap, ρ β = some b -> Qam w b hb.e cap -> Qam w' b hb.e cap)
  (hs : ∀ β ∈ p.sref, Cnd ρ ρ' hp hp' w w' β) : Qb C ρ' hp' w' p v :=
 h.move hc hr (fun β hβ => (hs β hβ).weak) (fun γ e ty xs e1 => hs γ (by rw [e1]; simp [PV.sref]))
theorem Qak {w w' : World} {b e cap : Nat} (h : w'.heap[b]? = w.heap[b]?) (hc : Qam w b e cap) : Qam w' b e cap := by obtain ⟨cur, ty, h1, h2⟩ := hc;exact ⟨cur, ty, by rw [h]; exact h1, h2⟩
theorem Qa7 {w : World} {b e cap : Nat} (hc : Qam w b e cap) : b < w.heap.size := by obtain ⟨cur, ty, h1, _⟩ := hc;exact (Array.getElem?_eq_some_iff.1 h1).1
theorem Ql2.move {w w' : World} {X X' : Nat -> Prop} {b : Nat} {hb hb' : HB} (h : Ql2 w X b hb) (hh : w'.heap[b]? = w.heap[b]?) (e1 : hb'.e = hb.e) (e2 : hb'.ty = hb.ty) (e3 : hb'.xs = hb.xs)
  (hc : ∀ q u, Qc w X q u -> Qc w' X' q u) : Ql2 w' X' b hb' := by
 obtain ⟨cur, cap, h1, h2, h3, h4, h5⟩ := h;exact ⟨cur, cap, by rw [hh, e2]; exact h1, by rw [e1]; exact h2, by rw [e3]; exact h3, h4, fun i x hi j y hy => by rw [e1]; exact hc _ _ (h5 i x (by rw [<- e3]; exact hi) j y hy)⟩
theorem Qg.upd (h : Qg C ρ fr hp tmps w) {d : Nat} {p : PV} {v : Value} (hv : Qb C ρ hp w p v) (hd : d < C.N) : Qg C ρ (upd fr d p) hp (tmps.setIfInBounds d v) w := by
 refine ⟨by simpa using h.sz, h.ext, h.keep, h.own, h.inj, fun i =>?_⟩;unfold FW.upd;split
 ·rename_i he; subst he;simpa [Array.getD, h.sz, hd] using hv
 ·rename_i he;have : (tmps.setIfInBounds d v).getD i undef = tmps.getD i undef := by simp only [Array.getD_eq_getD_getElem?];rw [Array.getElem?_setIfInBounds_ne (fun e => he e.symm)]
  rw [this]; exact h.slots i
theorem Qfq {l : List Nat} {b : Nat} (h : Xof C ρ (Ql hp l) b) : Xof C ρ hp b := by
 rcases h with h | ⟨β, hb, h1, h2, h3⟩
 ·exact .inl h
 ·refine .inr ⟨β, hb, ?_, h2, h3⟩;unfold Ql at h1;split at h1
  ·cases hq : hp β with
   | none => simp [hq] at h1
   | some hb0 => simp [hq] at h1; subst h1; simp at h2
  ·exact h1
theorem Qdv {l : List Nat} {β : Nat} {hb : HB} (h : hp β = some hb) : ∃ hb', Ql hp l β = some hb' /\ hb'.e = hb.e /\ hb'.ty = hb.ty /\ hb'.xs = hb.xs /\ (hb'.fz = false -> hb' = hb) /\ (hb'.fz = false -> β ∉ l) := by
 unfold Ql;by_cases hl : l.contains β = true
 ·rw [if_pos hl, h]; exact ⟨_, rfl, rfl, rfl, rfl, by simp, by simp⟩
 ·rw [if_neg hl, h]; exact ⟨hb, rfl, rfl, rfl, rfl, fun _ => rfl, fun _ => by simpa using hl⟩
theorem Qdw {l : List Nat} {β : Nat} {hb' : HB} (h : Ql hp l β = some hb') : ∃ hb, hp β = some hb /\ hb'.e = hb.e /\ hb'.ty = hb.ty /\ hb'.xs = hb.xs /\ (hb'.fz = false -> hb' = hb) /\ (hb'.fz = false -> β ∉ l) := by
 cases hq : hp β with
 | none => unfold Ql at h; split at h <;> simp [hq] at h
 | some hb =>obtain ⟨hb2, g1, g2⟩ := Qdv (l := l) hq;rw [g1] at h; cases h;exact ⟨hb, rfl, g2⟩
theorem Qc.freeze {l : List Nat} {q : PV} {u : Value} (h : Qc w (Xof C ρ hp) q u) : Qc w (Xof C ρ (Ql hp l)) q u :=
 h.mono (fun _ _ _ => rfl) (fun _ _ hn hx => hn (Qfq hx)) (Nat.le_refl _)
theorem Qg.freeze (h : Qg C ρ fr hp tmps w) (l : List Nat) : Qg C ρ fr (Ql hp l) tmps w := by
 refine ⟨h.sz, h.ext, h.keep, fun β hb' hβ =>?_, fun β γ b h1 h2 h3 h4 =>?_, fun i =>?_⟩
 ·obtain ⟨hb, g1, g2, g3, g4, g5, _⟩ := Qdw hβ;obtain ⟨p1, p2, p3, p4, p5⟩ := h.own β hb g1;refine ⟨by rw [g2]; exact p1, fun i x hi => by rw [g2]; exact p2 i x (by rw [<- g4]; exact hi), ?_, p4, fun hq => by
   cases hz : hb'.fz with
   | true => rfl
   | false => rw [<- g5 hz, hz] at p5; cases p5 hq⟩
  cases hρ : ρ β with
  | none => rw [hρ] at p3; simp only at p3 ⊢; rw [g4]; exact p3
  | some b => rw [hρ] at p3; simp only at p3 ⊢; exact ⟨p3.1, p3.2.1, p3.2.2.move rfl g2 g3 g4 (fun q u hq => hq.freeze)⟩
 ·have f1 : ∀ γ, FW.Ql hp l γ ≠ none -> hp γ ≠ none := fun γ hn => by
   cases hq : hp γ with
   | none => unfold FW.Ql at hn; split at hn <;> simp [hq] at hn
   | some _ => simp
  exact h.inj β γ b (f1 β h1) (f1 γ h2) h3 h4
 ·refine (h.slots i).moveC ⟨fun _ _ _ => rfl, fun _ _ hn hx => hn (Qfq hx), Nat.le_refl _⟩ (fun β _ => ⟨rfl, fun hb hβ => by
  obtain ⟨hb', g1, g2, _, g4, _⟩ := Qdv (l := l) hβ;exact ⟨hb', g1, g2, by rw [g4]; exact Nat.le_refl _, fun b cap _ hc => hc⟩⟩) (fun β _ => ⟨rfl, fun hb hβ => by
  obtain ⟨hb', g1, g2, g3, g4, _⟩ := Qdv (l := l) hβ;exact ⟨hb', g1, g2, by rw [g4]; exact Nat.le_refl _, fun b cap _ hc => hc, fun he => ⟨by rw [g4]; exact he, g3, fun _ _ => rfl⟩⟩⟩)
theorem Qg.grow {w' : World} (h : Qg C ρ fr hp tmps w) (hx : Ext Qm w w') : Qg C ρ fr hp tmps w' := by
 have hc' : Qe8 w w' (Xof C ρ hp) (Xof C ρ hp) := ⟨fun b hb _ => hx.block b hb (fun h => h), fun _ _ hn => hn, hx.size⟩
 have hc := hc'.rc;refine ⟨h.sz, h.ext.trans' hx (fun _ _ h => h.elim), fun b0 b hb e cap hc => Qak (hx.block b (Qa7 (h.keep b0 b hb e cap hc)) (fun h => h)) (h.keep b0 b hb e cap hc), fun β hb hβ =>?_, h.inj, fun i =>?_⟩
 ·obtain ⟨p1, p2, p3, p4, p5⟩ := h.own β hb hβ;refine ⟨p1, p2, ?_, p4, p5⟩;cases hρ : ρ β with
  | none => rw [hρ] at p3; exact p3
  | some b => rw [hρ] at p3; exact ⟨p3.1, Nat.lt_of_lt_of_le p3.2.1 hx.size, p3.2.2.move (hx.block b p3.2.1 (fun h => h)) rfl rfl rfl hc⟩
 ·exact (h.slots i).moveC hc' (fun β _ => ⟨rfl, fun hb hβ => ⟨hb, hβ, rfl, Nat.le_refl _, fun b cap _ hcap => Qak (hx.block b (Qa7 hcap) (fun h => h)) hcap⟩⟩)
   (fun β _ => ⟨rfl, fun hb hβ => ⟨hb, hβ, rfl, Nat.le_refl _, fun b cap _ hcap => Qak (hx.block b (Qa7 hcap) (fun h => h)) hcap, fun he => ⟨he, rfl, fun b hρ => hx.block b (by have := (h.own β hb hβ).blk; rw [hρ] at this; exact this.2.1) (fun h => h)⟩⟩⟩)
theorem Qhh {β : Nat} {p : PV} : ∀ γ ∈ (Qn β p).refs, γ ≠ β /\ γ ∈ p.refs := by
 intro γ hγ;unfold Qn at hγ;split at hγ
 ·simp [PV.refs] at hγ
 ·rename_i hn;refine ⟨fun he => hn (by subst he; simpa using hγ), hγ⟩
theorem Qb.kill {β : Nat} {p : PV} {v : Value} (h : Qb C ρ hp w p v) : Qb C ρ hp w (Qn β p) v := by
 unfold Qn; split
 ·trivial
 ·exact h
theorem Qaz.srefB {p : PV} {v : Value} (h : Qaz C ρ hp w p v) : ∀ γ ∈ p.sref1, isB γ = true := by
 intro γ hγ;cases p with
 | mso β o n => simp [PV.sref1] at hγ; subst hγ; exact h.1
 | nso β o n => simp [PV.sref1] at hγ; subst hγ; exact h.1
 | np β o n => cases h
 | _ => cases hγ
theorem Qbh.nrefB {p : PV} {v : Value} (h : Qbh C ρ hp w p v) : ∀ γ ∈ p.nref1, isB γ = true := by
 intro γ hγ;cases p with
 | nso β o n => simp [PV.nref1] at hγ; subst hγ; exact h.1
 | np β o n => simp [PV.nref1] at hγ; subst hγ; exact h.1
 | _ => cases hγ
theorem Qb.srefB {p : PV} {v : Value} (h : Qb C ρ hp w p v) : ∀ γ ∈ p.sref, isB γ = true := by
 intro γ hγ;cases p with
 | nso β o n => simp [PV.sref] at hγ; subst hγ; exact h.1
 | np β o n => simp [PV.sref] at hγ; subst hγ; exact h.1
 | rag cs =>obtain ⟨vs, _, _, h2⟩ := h;obtain ⟨x, hx, hγ⟩ := List.mem_flatMap.1 hγ;obtain ⟨i, hi⟩ := List.getElem?_of_mem hx;exact (h2 i x hi).srefB γ hγ
 | rtp cs =>obtain ⟨vs, _, _, h2⟩ := h;obtain ⟨x, hx, hγ⟩ := List.mem_flatMap.1 hγ;obtain ⟨i, hi⟩ := List.getElem?_of_mem hx;exact (h2 i x hi).srefB γ hγ
 | rtq cs q =>obtain ⟨vs, u, _, _, h2, _⟩ := h;obtain ⟨x, hx, hγ⟩ := List.mem_flatMap.1 hγ;obtain ⟨i, hi⟩ := List.getElem?_of_mem hx;exact (h2 i x hi).srefB γ hγ
 | nst β e ty xs =>
  obtain ⟨h0, _, b, hb, cur, cap, _, _, _, _, _, _, _, _, _, _, h11⟩ := h;rcases List.mem_cons.1 hγ with rfl | hγ
  ·exact h0
  ·obtain ⟨x, hx, hγ⟩ := List.mem_flatMap.1 hγ;obtain ⟨y, hy, hγ⟩ := List.mem_flatMap.1 hγ;obtain ⟨i, hi⟩ := List.getElem?_of_mem hx;obtain ⟨j, hj⟩ := List.getElem?_of_mem hy;exact (h11 i x hi j y hj).srefB γ hγ
 | fn f first cap =>
  obtain ⟨fv, cv, _, _, _, h3, h4⟩ := h;rcases List.mem_append.1 hγ with hγ | hγ
  ·obtain ⟨x, hx, hγ⟩ := List.mem_flatMap.1 hγ;obtain ⟨i, hi⟩ := List.getElem?_of_mem hx;exact (h3 i x hi).nrefB γ hγ
  ·obtain ⟨x, hx, hγ⟩ := List.mem_flatMap.1 hγ;obtain ⟨i, hi⟩ := List.getElem?_of_mem hx;exact (h4 i x hi).nrefB γ hγ
 | _ => cases hγ
def rb (ρ : Nat -> Option Nat) (β : Nat) (b' : Option Nat) : Nat -> Option Nat := fun γ => if γ = β then b' else ρ γ
theorem Qah (ρ : Nat -> Option Nat) (β : Nat) (b' : Option Nat) : rb ρ β b' β = b' := by simp [rb]
theorem Qc0 {ρ : Nat -> Option Nat} {β γ : Nat} {b' : Option Nat} (h : γ ≠ β) : rb ρ β b' γ = ρ γ := by simp [rb, h]
def Qic (C : Ctx) (ρ : Nat -> Option Nat) (hp : HP) (w : World) (β : Nat) (fr fr' : Fr) : Prop := ∀ (i : Nat) (v : Value), Qb C ρ hp w (fr i) v -> Qb C ρ hp w (fr' i) v /\ (∀ γ ∈ (fr' i).refs, γ ≠ β) /\ ∀ γ ∈ (fr' i).sref, γ ≠ β
theorem Qex {β : Nat} (hB : isB β = false) : Qic C ρ hp w β fr (Qy β fr) := fun i v h => by have hk := Qb.kill (β := β) h;exact ⟨hk, fun γ hγ => (Qhh γ hγ).1, fun γ hγ e => by have := hk.srefB γ hγ; rw [e, hB] at this; cases this⟩
theorem Qg.rebindG {w' : World} {fr' : Fr} (h : Qg C ρ fr hp tmps w) (β : Nat) (b' : Option Nat) (hb' : HB) (hB : isY β = false) (hgone : Qic C ρ hp w β fr fr')
  (hx : Ext (fun b => ρ β = some b /\ ∃ hb, hp β = some hb /\ hb.fz = false) w w')
  (hnew : ∀ c, b' = some c -> (C.w0.heap.size <= c ∨ C.Z0 c) /\ c < w'.heap.size /\ (w.heap.size <= c ∨ (ρ β = some c /\ ∃ hb, hp β = some hb /\ hb.fz = false)))
  (he : 0 < hb'.e) (hl : ∀ (i : Nat) (x : PV), hb'.xs[i]? = some x -> x.cells.length = hb'.e /\ x.isData = true)
  (hbn : b' = none -> hb'.xs = []) (hblk : ∀ c, b' = some c -> ∃ (cur : Array Value) (cap : Nat), w'.heap[c]? = some (.cells cur hb'.ty (0, 0)) /\ cur.size = cap * hb'.e /\ hb'.xs.length <= cap /\ cap <= maxLen /\
   ∀ (i : Nat) (x : PV), hb'.xs[i]? = some x -> ∀ (j : Nat) (y : PV), x.cells[j]? = some y -> Qc w (Xof C ρ hp) y (cur.getD (i * hb'.e + j) undef)) :
  Qg C (rb ρ β b') fr' (Qe hp β hb') tmps w' := by
 have hX : ∀ b, b < w.heap.size -> ¬ Xof C ρ hp b -> ¬ Xof C (rb ρ β b') (Qe hp β hb') b := by
  intro b hb hn hx';rcases hx' with hx' | ⟨γ, hg, h1, h2, h3⟩
  ·exact hn (.inl hx')
  ·unfold Qe at h1;by_cases hγ : γ = β
   ·subst hγ;rw [Qah] at h3;obtain ⟨_, _, h4 | ⟨h5, hb0, h6, h7⟩⟩ := hnew b h3
    ·omega
    ·exact hn (.inr ⟨γ, hb0, h6, h7, h5⟩)
   ·rw [if_neg hγ] at h1; rw [Qc0 hγ] at h3;exact hn (.inr ⟨γ, hg, h1, h2, h3⟩)
 have hc' : Qe8 w w' (Xof C ρ hp) (Xof C (rb ρ β b') (Qe hp β hb')) :=
  ⟨fun b hb hn => hx.block b hb (fun ⟨e1, hb0, e2, e3⟩ => hn (.inr ⟨β, hb0, e2, e3, e1⟩)), hX, hx.size⟩
 have hc := hc'.rc;have hold : ∀ b, ρ β = some b -> (∃ hb, hp β = some hb /\ hb.fz = false) -> C.w0.heap.size <= b ∨ C.Z0 b := by intro b e1 ⟨hb0, e2, e3⟩;have := (h.own β hb0 e2).blk;rw [e1] at this;exact Ctx.cls_N this.1 hB
 have hext : Ext C.Y0 C.w0 w' := by refine h.ext.trans' (Y' := fun b => ρ β = some b /\ ∃ hb, hp β = some hb /\ hb.fz = false) hx ?_;intro b hb ⟨e1, e2⟩;exact (Ctx.N_Y (hold b e1 e2)).resolve_left (by omega)
 have hkeep : ∀ β b, C.fx β = some b -> ∀ e cap, Qam C.w0 b e cap -> Qam w' b e cap := fun b0 b hb e cap hc' => by have h1 := h.keep b0 b hb e cap hc';refine Qak (hx.block b (Qa7 h1) ?_) h1;intro ⟨e1, e2⟩;exact Ctx.N_fx (hold b e1 e2) hb
 refine ⟨h.sz, hext, hkeep, fun γ hg hγ =>?_, fun γ δ b h1 h2 h3 h4 =>?_, fun i =>?_⟩
 ·unfold Qe at hγ;by_cases hγβ : γ = β
  ·rw [if_pos hγβ] at hγ; cases hγ;subst hγβ;refine ⟨he, hl, ?_, (fun hq => by rw [hB] at hq; cases hq), fun hq => by rw [Qjs hB] at hq; cases hq⟩;rw [Qah];cases b' with
   | none => exact hbn rfl
   | some c =>obtain ⟨cur, cap, c1, c2, c3, c4, c5⟩ := hblk c rfl;exact ⟨Ctx.cls_mk (hnew c rfl).1 hB, (hnew c rfl).2.1, cur, cap, c1, c2, c3, c4, fun i x hi j y hy => hc _ _ (c5 i x hi j y hy)⟩
  ·rw [if_neg hγβ] at hγ;obtain ⟨p1, p2, p3, p4, p5⟩ := h.own γ hg hγ;refine ⟨p1, p2, ?_, (fun hq => by rw [Qc0 hγβ]; exact p4 hq), p5⟩;rw [Qc0 hγβ];cases hρ : ρ γ with
   | none => rw [hρ] at p3; exact p3
   | some b =>rw [hρ] at p3;refine ⟨p3.1, Nat.lt_of_lt_of_le p3.2.1 hx.size, p3.2.2.move (hx.block b p3.2.1 ?_) rfl rfl rfl hc⟩;intro ⟨e1, hb0, e2, _⟩;exact hγβ (h.inj γ β b (by simp [hγ]) (by simp [e2]) hρ e1)
 ·
  have key : ∀ γ b, γ ≠ β -> hp γ ≠ none -> ρ γ = some b -> b' = some b -> False := by
   intro γ b hne hs hr hb;obtain ⟨_, _, h4 | ⟨h5, hb0, h6, h7⟩⟩ := hnew b hb
   ·cases hq : hp γ with
    | none => exact hs hq
    | some hg => have := (h.own γ hg hq).blk; rw [hr] at this; omega
   ·exact hne (h.inj γ β b hs (by simp [h6]) hr h5)
  unfold Qe at h1 h2;by_cases hγ : γ = β <;> by_cases hδ : δ = β
  ·rw [hγ, hδ]
  ·subst hγ; rw [Qah] at h3; rw [Qc0 hδ] at h4; rw [if_neg hδ] at h2; exact (key δ b hδ h2 h4 h3).elim
  ·subst hδ; rw [Qah] at h4; rw [Qc0 hγ] at h3; rw [if_neg hγ] at h1; exact (key γ b hγ h1 h3 h4).elim
  ·rw [Qc0 hγ] at h3; rw [Qc0 hδ] at h4; rw [if_neg hγ] at h1; rw [if_neg hδ] at h2; exact h.inj γ δ b h1 h2 h3 h4
 ·obtain ⟨hk, hk1, hk2⟩ := hgone i _ (h.slots i);refine hk.moveC hc' (fun γ hγ =>?_) (fun γ hγ =>?_)
  ·have hne := hk1 γ hγ;refine ⟨Qc0 hne, fun hg hhg => ⟨hg, by simp [Qe, hne, hhg], rfl, Nat.le_refl _, fun b cap hρ hcap => Qak (hx.block b (Qa7 hcap) ?_) hcap⟩⟩;intro ⟨e1, hb0, e2, _⟩;exact hne (h.inj γ β b (by simp [hhg]) (by simp [e2]) hρ e1)
  ·have hne := hk2 γ hγ;have hun : ∀ b hg, hp γ = some hg -> ρ γ = some b -> ¬ (ρ β = some b /\ ∃ hb, hp β = some hb /\ hb.fz = false) := fun b hg hhg hρ ⟨e1, hb0, e2, _⟩ => hne (h.inj γ β b (by simp [hhg]) (by simp [e2]) hρ e1);refine ⟨Qc0 hne, fun hg hhg => ⟨hg, by simp [Qe, hne, hhg], rfl, Nat.le_refl _, fun b cap hρ hcap => Qak (hx.block b (Qa7 hcap) (hun b hg hhg hρ)) hcap, fun he => ⟨he, rfl, fun b hρ => hx.block b ?_ (hun b hg hhg hρ)⟩⟩⟩;have := (h.own γ hg hhg).blk;rw [hρ] at this; exact this.2.1
theorem Qg.rebind {w' : World} (h : Qg C ρ fr hp tmps w) (β : Nat) (b' : Option Nat) (hb' : HB) (hB : isB β = false)
  (hx : Ext (fun b => ρ β = some b /\ ∃ hb, hp β = some hb /\ hb.fz = false) w w')
  (hnew : ∀ c, b' = some c -> (C.w0.heap.size <= c ∨ C.Z0 c) /\ c < w'.heap.size /\ (w.heap.size <= c ∨ (ρ β = some c /\ ∃ hb, hp β = some hb /\ hb.fz = false)))
  (he : 0 < hb'.e) (hl : ∀ (i : Nat) (x : PV), hb'.xs[i]? = some x -> x.cells.length = hb'.e /\ x.isData = true)
  (hbn : b' = none -> hb'.xs = []) (hblk : ∀ c, b' = some c -> ∃ (cur : Array Value) (cap : Nat), w'.heap[c]? = some (.cells cur hb'.ty (0, 0)) /\ cur.size = cap * hb'.e /\ hb'.xs.length <= cap /\ cap <= maxLen /\
   ∀ (i : Nat) (x : PV), hb'.xs[i]? = some x -> ∀ (j : Nat) (y : PV), x.cells[j]? = some y -> Qc w (Xof C ρ hp) y (cur.getD (i * hb'.e + j) undef)) :
  Qg C (rb ρ β b') (Qy β fr) (Qe hp β hb') tmps w' := h.rebindG β b' hb' (Qf4 hB) (Qex hB) hx hnew he hl hbn hblk
theorem Qg.store {w' : World} (h : Qg C ρ fr hp tmps w) (β b : Nat) (hb hb' : HB) (hβ : hp β = some hb) (hfz : hb.fz = false) (hne : hb.xs ≠ []) (hρ : ρ β = some b)
  (hx : Ext (fun c => c = b) w w') (e1 : hb'.e = hb.e) (e3 : hb'.xs.length = hb.xs.length) (e4 : hb'.fz = false)
  (hl : ∀ (i : Nat) (x : PV), hb'.xs[i]? = some x -> x.cells.length = hb'.e /\ x.isData = true)
  (hcap : ∀ e cap, Qam w b e cap -> Qam w' b e cap)
  (hblk : ∃ (cur : Array Value) (cap : Nat), w'.heap[b]? = some (.cells cur hb'.ty (0, 0)) /\ cur.size = cap * hb'.e /\ hb'.xs.length <= cap /\ cap <= maxLen /\
   ∀ (i : Nat) (x : PV), hb'.xs[i]? = some x -> ∀ (j : Nat) (y : PV), x.cells[j]? = some y -> Qc w (Xof C ρ hp) y (cur.getD (i * hb'.e + j) undef)) : Qg C ρ fr (Qe hp β hb') tmps w' := by
 have hXe : ∀ c, Xof C ρ (Qe hp β hb') c ↔ Xof C ρ hp c := by
  intro c;constructor
  ·rintro (hx | ⟨γ, hg, h1, h2, h3⟩)
   ·exact .inl hx
   ·unfold Qe at h1;by_cases hγ : γ = β
    ·subst hγ; exact .inr ⟨γ, hb, hβ, hfz, h3⟩
    ·rw [if_neg hγ] at h1; exact .inr ⟨γ, hg, h1, h2, h3⟩
  ·rintro (hx | ⟨γ, hg, h1, h2, h3⟩)
   ·exact .inl hx
   ·by_cases hγ : γ = β
    ·subst hγ; exact .inr ⟨γ, hb', by simp [Qe], e4, h3⟩
    ·exact .inr ⟨γ, hg, by simp [Qe, hγ, h1], h2, h3⟩
 have hXf : Xof C ρ (Qe hp β hb') = Xof C ρ hp := funext fun c => propext (hXe c);have hbX : Xof C ρ hp b :=.inr ⟨β, hb, hβ, hfz, hρ⟩;have hnr : isR β = false := by
  cases hq : isR β with
  | false => rfl
  | true => have := (h.own β hb hβ).ro hq; rw [hfz] at this; cases this
 have hc' : Qe8 w w' (Xof C ρ hp) (Xof C ρ (Qe hp β hb')) := by rw [hXf];exact ⟨fun c hc hn => hx.block c hc (fun e => hn (e ▸ hbX)), fun _ _ hn => hn, hx.size⟩
 have hc := hc'.rc;have hown := (h.own β hb hβ).blk;rw [hρ] at hown;have hext : Ext C.Y0 C.w0 w' := by refine h.ext.trans' (Y' := fun c => c = b) hx ?_;intro c hc he;subst he;exact (Ctx.cls_or hown.1 hnr).resolve_left (by omega)
 have hkeep : ∀ β c, C.fx β = some c -> ∀ e cap, Qam C.w0 c e cap -> Qam w' c e cap := fun b0 c hc' e cap hcc => by
  have h1 := h.keep b0 c hc' e cap hcc;by_cases hcb : c = b
  ·subst hcb; exact hcap e cap h1
  ·exact Qak (hx.block c (Qa7 h1) hcb) h1
 refine ⟨h.sz, hext, hkeep, fun γ hg hγ =>?_, fun γ δ c h1 h2 h3 h4 =>?_, fun i =>?_⟩
 ·unfold Qe at hγ;by_cases hγβ : γ = β
  ·subst hγβ;rw [if_pos rfl] at hγ; cases hγ;refine ⟨by rw [e1]; exact (h.own γ hb hβ).epos, hl, ?_, (h.own γ hb hβ).fix, fun hq => by rw [hnr] at hq; cases hq⟩;rw [hρ];obtain ⟨cur, cap, c1, c2, c3, c4, c5⟩ := hblk;exact ⟨hown.1, Nat.lt_of_lt_of_le hown.2.1 hx.size, cur, cap, c1, c2, c3, c4, fun i x hi j y hy => hc _ _ (c5 i x hi j y hy)⟩
  ·rw [if_neg hγβ] at hγ;obtain ⟨p1, p2, p3, p4, p5⟩ := h.own γ hg hγ;refine ⟨p1, p2, ?_, p4, p5⟩;cases hr : ρ γ with
   | none => rw [hr] at p3; exact p3
   | some c =>rw [hr] at p3;exact ⟨p3.1, Nat.lt_of_lt_of_le p3.2.1 hx.size, p3.2.2.move (hx.block c p3.2.1 (fun e => hγβ (h.inj γ β b (by simp [hγ]) (by simp [hβ]) (e ▸ hr) hρ))) rfl rfl rfl hc⟩
 ·have f1 : ∀ γ, Qe hp β hb' γ ≠ none -> hp γ ≠ none := fun γ hn => by
   unfold Qe at hn;by_cases hγ : γ = β
   ·subst hγ; simp [hβ]
   ·rwa [if_neg hγ] at hn
  exact h.inj γ δ c (f1 γ h1) (f1 δ h2) h3 h4
 ·have key : ∀ γ, Cnd ρ ρ hp (Qe hp β hb') w w' γ := fun γ => ⟨rfl, fun hg hhg => by
   by_cases hγ : γ = β
   ·subst hγ;rw [hβ] at hhg; cases hhg;exact ⟨hb', by simp [Qe], e1, by rw [e3]; exact Nat.le_refl _, fun c cap hr hcc => by rw [hρ] at hr; cases hr; exact hcap _ cap hcc, fun he => absurd he hne⟩
   ·have hun : ∀ c, ρ γ = some c -> ¬ c = b := fun c hr e => hγ (h.inj γ β b (by simp [hhg]) (by simp [hβ]) (e ▸ hr) hρ);refine ⟨hg, by simp [Qe, hγ, hhg], rfl, Nat.le_refl _, fun c cap hr hcc => Qak (hx.block c (Qa7 hcc) (hun c hr)) hcc, fun he => ⟨he, rfl, fun c hr => hx.block c ?_ (hun c hr)⟩⟩;have := (h.own γ hg hhg).blk;rw [hr] at this; exact this.2.1⟩
  exact (h.slots i).moveC hc' (fun γ _ => (key γ).o) (fun γ _ => key γ)
end Go.FW
namespace Go.FW
open Go
variable {C : Ctx} {ρ : Nat -> Option Nat} {fr : Fr} {hp : HP} {w : World} {a : Act} {K : Qa}
theorem Qf8 {X : Nat -> Prop} {v : Value} {p : PV} (h : Qel v = some p) : Qc w X p v := by unfold Qel at h;split at h <;> simp at h <;> subst h <;> constructor
theorem Qbl {α β : Type} {f : α -> Option β} : ∀ {l : List α} {r : List β}, l.mapM f = some r -> r.length = l.length /\ ∀ (i : Nat) (y : β), r[i]? = some y -> ∃ x, l[i]? = some x /\ f x = some y
 | [], r, h => by simp at h; subst h; simp
 | x :: l, r, h => by
  rw [List.mapM_cons] at h;simp only [Option.bind_eq_bind, Option.pure_def, Option.bind_eq_some_iff, Option.some.injEq] at h;obtain ⟨y, hy, r', hr, rfl⟩ := h;obtain ⟨h1, h2⟩ := Qbl hr;refine ⟨by simp [h1], fun i z hz =>?_⟩;cases i with
  | zero => simp at hz; subst hz; exact ⟨x, by simp, hy⟩
  | succ i => simp at hz; simpa using h2 i z hz
theorem Qdx (cs : Array Value) (i : Nat) (x : Value) (h : cs.toList[i]? = some x) : cs.getD i undef = x := by simp only [Array.getElem?_toList] at h;simp [Array.getD_eq_getD_getElem?, h]
theorem Qbf {X : Nat -> Prop} {v : Value} {p : PV} (h : Qcs v = some p) : Qk w X p v := by
 unfold Qcs at h;split at h
 ·rename_i cs;simp only [Option.map_eq_some_iff] at h;obtain ⟨l, h1, rfl⟩ := h;obtain ⟨g1, g2⟩ := Qbl h1;refine ⟨cs, rfl, by simpa using g1.symm, fun i x hx =>?_⟩;obtain ⟨u, hu, hc⟩ := g2 i x hx;rw [Qdx cs i u hu];exact Qf8 hc
 ·exact Qk.of_c (Qf8 h)
theorem Qdb {v : Value} {p : PV} (h : Qcs v = some p) : p.isData = true /\ p.refs = [] /\ (∀ f first cap, p ≠ .fn f first cap) := by
 unfold Qcs at h;split at h
 ·simp only [Option.map_eq_some_iff] at h;obtain ⟨l, h1, rfl⟩ := h;simp [PV.isData, PV.refs]
 ·unfold Qel at h;split at h <;> simp at h <;> subst h <;> simp [PV.isData, PV.refs]
theorem Qb.ofV1 {p : PV} {v : Value} (h : Qk w (Xof C ρ hp) p v) (hn : ∀ f first cap, p ≠ .fn f first cap) : Qb C ρ hp w p v := by
 cases p with
 | fn f first cap => exact absurd rfl (hn _ _ _)
 | undef => trivial
 | mp => cases h
 | mso => cases h
 | rb => cases h
 | nso => cases h
 | np => cases h
 | rag => cases h
 | rtp => cases h
 | rtq => cases h
 | nst => cases h
 | tup => cases h
 | agg cs => exact h
 | _ => exact h
theorem Qb.ofData {p : PV} {v : Value} (h : Qk w (Xof C ρ hp) p v) : Qb C ρ hp w p v := by
 by_cases hf : ∃ f first cap, p = .fn f first cap
 ·obtain ⟨f, first, cap, rfl⟩ := hf;cases h with
  | fn _ _ _ fv cv h1 h2 h3 h4 =>
   refine ⟨fv, cv, rfl, h1, h2, fun i x hi =>?_, fun i x hi =>?_⟩
   ·have := h3 i x hi; cases x <;> first | exact this | cases this
   ·have := h4 i x hi; cases x <;> first | exact this | cases this
 ·exact Qb.ofV1 h (fun f first cap e => hf ⟨f, first, cap, e⟩)
theorem Qj {x : Operand} {y : Opd} (h : Qg C ρ fr hp a.tmps w) (ho : opd x = some y) : Qb C ρ hp w (ev fr y) (a.eval x) := by
 cases x with
 | tmp t => simp [opd] at ho; subst ho; exact h.slots t
 | const v =>simp only [opd, Option.map_eq_some_iff] at ho;obtain ⟨p, hp', rfl⟩ := ho;exact Qb.ofV1 (Qbf hp') (Qdb hp').2.2
 | global g => simp [opd] at ho
 | func f =>simp [opd] at ho; subst ho;exact ⟨#[], #[], rfl, rfl, rfl, by simp, by simp⟩
theorem Qb.int_inv {k : IntKind} {n : Int} {v : Value} (h : Qb C ρ hp w (.int k n) v) : v = .int k n := by cases h; rfl
theorem Qb.bool_inv {b : Bool} {v : Value} (h : Qb C ρ hp w (.bool b) v) : v = .bool b := by cases h; rfl
theorem Qb.nil_inv {v : Value} (h : Qb C ρ hp w .nilS v) : v = .slice none 0 0 := by cases h; rfl
theorem Qb.mkInt (k : IntKind) (n : Int) : Qb C ρ hp w (.int k n) (.int k n) := Qc.int k n
theorem Qb.mkBool (b : Bool) : Qb C ρ hp w (.bool b) (.bool b) := Qc.bool b
theorem Qb.tup0 : Qb C ρ hp w (.tup []) undef := ⟨#[], rfl, rfl, by simp⟩
def Qd (C : Ctx) (ρ : Nat -> Option Nat) (o : Oper) (a : Act) (w : World) (K : Qa) : Prop :=
 ∃ v, (∀ w', (execOp a.eval o).run C.P w' = .ok (.value v) w') /\ ∃ fr' hp', Qg C ρ fr' hp' (a.put o.dst v).tmps w /\ K fr' hp'
theorem Qd.mk {o : Oper} {d : Nat} {p : PV} {v : Value} (hd : o.dst = some d) (hlt : d < C.N) (h : Qg C ρ fr hp a.tmps w)
  (hrun : ∀ w', (execOp a.eval o).run C.P w' = .ok (.value v) w') (hr : Qb C ρ hp w p v) (hK : K (upd fr d p) hp) : Qd C ρ o a w K :=
 ⟨v, hrun, upd fr d p, hp, by rw [hd]; exact h.upd hr hlt, hK⟩
theorem Qi {P : Program} {t : TypeId} {d : TypeDesc} (h : P.underlying t = some d) (w : World) : (underlying t).run P w = .ok d w := run_underlying h w
theorem Qad {P : Program} {t : TypeId} {n : Nat} (h : tsz P t = some n) (w : World) : (sizeOf t).run P w = .ok n w := by simp only [tsz, Option.map_eq_some_iff] at h;obtain ⟨i, hi, rfl⟩ := h;simp [sizeOf, typeInfo, hi]
theorem Qd2 {P : Program} {t : TypeId} {ag : Bool} (h : Qc2 P t = some ag) (w : World) : (isAgg t).run P w = .ok ag w := by simp only [Qc2, Option.map_eq_some_iff] at h;obtain ⟨d, hd, rfl⟩ := h;simp only [isAgg, Sem.run_bind, Qi hd, Result.andThen_ok];cases d <;> rfl
theorem Qfe {P : Program} {T : TypeId} (hu : P.underlying T = some .bool) (n m : Bool) (w : World) : (Op.equal T (.bool n) (.bool m)).run P w = .ok (n == m) w := by show (Op.equalIn (9999 + 1) T (.bool n) (.bool m)).run P w = _;unfold Op.equalIn;rw [Sem.run_bind, Qi hu, Result.andThen_ok];rfl
theorem Qju {P : Program} {T : TypeId} (hu : P.underlying T = some .bool) (n m : Bool) (w : World) : (binOp .eql T (.bool n) (.bool m)).run P w = .ok (.bool (n == m)) w := by show (do pure (Value.bool (<- Op.equal T (.bool n) (.bool m))) : Sem Value).run P w = _;rw [Sem.run_bind, Qfe hu, Result.andThen_ok];rfl
theorem Qjv {P : Program} {T : TypeId} (hu : P.underlying T = some .bool) (n m : Bool) (w : World) : (binOp .neq T (.bool n) (.bool m)).run P w = .ok (.bool (!(n == m))) w := by show (do pure (Value.bool (!(<- Op.equal T (.bool n) (.bool m)))) : Sem Value).run P w = _;rw [Sem.run_bind, Qfe hu, Result.andThen_ok];rfl
theorem Qa8 {o : Oper} {op : BinOp} {T T2 : TypeId} {x y : Operand} (ho : o.op = .binOp op T x y T2) {vx vy v : Value} (ex : a.eval x = vx) (ey : a.eval y = vy)
  (hg : ∀ w, (eqGuard op T x y vx vy).run C.P w = .ok () w) (hr : ∀ w, (binOp op T vx vy).run C.P w = .ok v w) : ∀ w, (execOp a.eval o).run C.P w = .ok (.value v) w := by
 intro w;unfold execOp;simp only [ho, ex, ey, Sem.run_bind, hg, hr, Result.andThen_ok];rfl
theorem Qnp {o : Oper} {op : BinOp} {T T2 : TypeId} {x y : Operand} {px py : PV} {d : Nat} (ho : o.op = .binOp op T x y T2) (hd : o.dst = some d) (hlt : d < C.N) (h : Qg C ρ fr hp a.tmps w)
    (hx : Qb C ρ hp w px (a.eval x)) (hy : Qb C ρ hp w py (a.eval y)) {bt : Bool} (hbt : bt = true -> C.P.underlying T = some .bool)
    (hv : Qaw op bt px py d fr hp K) : Qd C ρ o a w K := by
  unfold Qaw at hv;split at hv
  · rename_i k n k' m
    have ex := hx.int_inv;have ey := hy.int_inv;have hgd : ∀ w', (eqGuard op T x y (.int k n) (.int k' m)).run C.P w' = .ok () w' := by intro w'; unfold eqGuard; cases op <;> rfl
    split at hv
    · obtain ⟨h0, hv⟩ := hv
      have h0' : ¬ m < 0 := by omega
      exact Qd.mk hd hlt h (Qa8 ho ex ey hgd (fun w' => by simp [binOp, Op.shift, h0'])) (Qb.mkInt _ _) hv
    · obtain ⟨h0, hv⟩ := hv
      have h0' : ¬ m < 0 := by omega
      exact Qd.mk hd hlt h (Qa8 ho ex ey hgd (fun w' => by simp [binOp, Op.shift, h0'])) (Qb.mkInt _ _) hv
    all_goals first
      | exact hv.elim
      | (obtain ⟨rfl, h0, hv⟩ := hv
         exact Qd.mk hd hlt h (Qa8 ho ex ey hgd (fun w' => by simp [binOp, Op.intDiv, h0])) (Qb.mkInt _ _) hv)
      | (obtain ⟨rfl, hv⟩ := hv
         exact Qd.mk hd hlt h (Qa8 ho ex ey hgd (fun w' => by simp [binOp, Op.intArith, Op.intBits])) (Qb.mkInt _ _) hv)
      | (obtain ⟨rfl, hv⟩ := hv
         refine Qd.mk hd hlt h (Qa8 ho ex ey hgd ?_) (Qb.mkBool _) hv;intro w';simp [binOp, Op.intCmp] <;> rfl)
  · rename_i n m
    have ex := hx.bool_inv;have ey := hy.bool_inv;have hgd : ∀ w', (eqGuard op T x y (.bool n) (.bool m)).run C.P w' = .ok () w' := by intro w'; unfold eqGuard; cases op <;> rfl
    split at hv
    · obtain ⟨hb, hv⟩ := hv
      exact Qd.mk hd hlt h (Qa8 ho ex ey hgd (Qju (hbt hb) n m)) (Qb.mkBool _) hv
    · obtain ⟨hb, hv⟩ := hv
      exact Qd.mk hd hlt h (Qa8 ho ex ey hgd (Qjv (hbt hb) n m)) (Qb.mkBool _) hv
    · exact hv.elim
  · exact hv.elim
theorem Qb.sl_inv {e : Nat} {xs : List PV} {v : Value} (h : Qb C ρ hp w (.sl e xs) v) : ∃ ad cap, v = .slice ad xs.length cap /\ xs.length <= cap /\ cap <= maxLen := by
 cases h with
 | slE _ ad cap hc => exact ⟨ad, cap, rfl, Nat.zero_le _, hc⟩
 | sl _ _ b off cap vs hX hb hl hc => exact ⟨_, cap, rfl, hl, hc⟩
theorem Qb.ms_inv {β o n : Nat} {v : Value} (h : Qb C ρ hp w (.mso β o n) v) : ∃ ad cap, v = .slice ad n cap := by
 obtain ⟨hb, _, _, ⟨_, rfl, rfl, rfl⟩ | ⟨b, cap, _, rfl, _⟩⟩ := h
 ·exact ⟨_, _, rfl⟩
 ·exact ⟨_, _, rfl⟩
theorem Qb.nso_inv {γ o n : Nat} {v : Value} (h : Qb C ρ hp w (.nso γ o n) v) : ∃ ad cap, v = .slice ad n cap := by obtain ⟨_, hb, b, cap, _, _, rfl, _⟩ := h;exact ⟨_, _, rfl⟩
theorem Qb.np_inv {γ i o : Nat} {v : Value} (h : Qb C ρ hp w (.np γ i o) v) : isB γ = true /\ ∃ b hb, ρ γ = some b /\ hp γ = some hb /\ v = .pointer (some ⟨b, i * hb.e + o, none⟩) := h
theorem Qb.ofS {p : PV} {v : Value} (h : Qaz C ρ hp w p v) : Qb C ρ hp w p v := by
 cases p with
 | undef => trivial
 | mso β o n => exact h.2
 | nso γ o n => exact h
 | _ => exact Qb.ofData (Qk.of_c h)
theorem Qaz.toC {p : PV} {v : Value} (h : Qaz C ρ hp w p v) (hr : p.isRefC = false) : Qc w (Xof C ρ hp) p v := by
 cases p with
 | undef => cases hr
 | mso => cases hr
 | nso => cases hr
 | _ => exact h
theorem Qaz.ofC {p : PV} {v : Value} (h : Qc w (Xof C ρ hp) p v) : Qaz C ρ hp w p v := by
 cases p with
 | mso => cases h
 | nso => cases h
 | undef => trivial
 | _ => exact h
theorem Qaz.oneCell {p : PV} {v : Value} (h : Qaz C ρ hp w p v) (hu : p ≠ .undef) : v.oneCell' = true /\ v.cells = #[v] := by
 cases p with
 | undef => exact absurd rfl hu
 | mso β o n => obtain ⟨_, hb, _, _, ⟨_, rfl, _⟩ | ⟨b, cap, _, rfl, _⟩⟩ := h <;> exact ⟨rfl, rfl⟩
 | nso γ o n => obtain ⟨_, hb, b, cap, _, _, rfl, _⟩ := h; exact ⟨rfl, rfl⟩
 | _ => exact ⟨(Qc.oneCell h).1, (Qc.oneCell h).2.1⟩
theorem Qk3 (cs : List PV) : (Qcz cs).ncells = cs := by unfold Qcz; split <;> rfl
theorem Qnq {cs : List PV} {vs : Array Value} (hs : vs.size = cs.length) (h : ∀ (i : Nat) (x : PV), cs[i]? = some x -> Qaz C ρ hp w x (vs.getD i undef)) : Qb C ρ hp w (Qcz cs) (.agg vs) := by
 unfold Qcz;split
 ·exact ⟨vs, rfl, hs, h⟩
 ·rename_i hn;refine ⟨vs, rfl, hs, fun i x hi => (h i x hi).toC ?_⟩;have hm := List.mem_of_getElem? hi;cases hq : x.isRefC with
  | false => rfl
  | true => exact absurd (List.any_eq_true.2 ⟨x, hm, hq⟩) hn
theorem Qlh {ag : Bool} {n off : Nat} {x : PV} {vs : Array Value} (hs : vs.size = n) (hle : off + n <= x.ncells.length) (h1 : ag = false -> n = 1)
  (hr : ∀ j y, j < n -> x.ncells[off + j]? = some y -> Qaz C ρ hp w y (vs.getD j undef)) : Qb C ρ hp w (ldN ag n off x) (if ag then .agg vs else vs.getD 0 undef) := by
 cases ag with
 | true =>
  refine Qnq (by simp [hs]; omega) (fun i y hy =>?_);have hi : i < n := by have := (List.getElem?_eq_some_iff.1 hy).1;simp at this; omega
  rw [List.getElem?_take_of_lt hi, List.getElem?_drop] at hy;exact hr i y hi hy
 | false =>
  have hn := h1 rfl;subst hn;have hlt : off < x.ncells.length := by omega
  have e : x.ncells[off + 0]? = some (x.ncells[off]) := by simp [List.getElem?_eq_getElem hlt]
  have := hr 0 _ (by omega) e;simp only [ldN, Bool.false_eq_true, if_false];have e2 : (x.ncells.drop off).headD .undef = x.ncells[off] := by rw [List.headD_eq_head?_getD, List.head?_drop, List.getElem?_eq_getElem hlt]; rfl
  rw [e2];exact Qb.ofS this
theorem Qcu {o : Oper} {b : Builtin} {args : Array Operand} {ts : Array TypeId} (ho : o.op = .call { callee :=.builtin b, args := args, argTypes := ts }) {v : Value}
  (hr : ∀ w, (builtin b ts o.type (args.map fun | .const _ => true | _ => false) (args.map a.eval)).run C.P w = .ok (.value v) w) : ∀ w, (execOp a.eval o).run C.P w = .ok (.value v) w := by
 intro w;unfold execOp;simp only [ho, resolve, Sem.run_bind, Sem.run_pure, Result.andThen_ok, invoke];exact hr w
theorem Qnr {o : Oper} {x : Operand} {t : TypeId} {px : PV} {d : Nat} (ho : o.op = .call { callee :=.builtin .len, args := #[x], argTypes := #[t] }) (hd : o.dst = some d) (hlt : d < C.N) (h : Qg C ρ fr hp a.tmps w)
  (hx : Qb C ρ hp w px (a.eval x)) {e : TypeId} (he : C.P.underlying t = some (.slice e)) (hv : Qd8 px d fr hp K) : Qd C ρ o a w K := by
 have key : ∀ ad n cap, a.eval x = .slice ad n cap -> K (upd fr d (.int .i64 n)) hp -> Qd C ρ o a w K := fun ad n cap ex hK =>
  Qd.mk hd hlt h (Qcu ho (fun w' => by simp [builtin, Builtin.len_, ex, Sem.run_bind, Qi he, goInt])) (Qb.mkInt _ _) hK
 unfold Qd8 at hv;split at hv
 ·exact key _ _ _ hx.nil_inv hv
 ·obtain ⟨ad, cap, ex, _⟩ := hx.sl_inv; exact key _ _ _ ex hv
 ·obtain ⟨ad, cap, ex⟩ := hx.ms_inv; exact key _ _ _ ex hv
 ·obtain ⟨ad, cap, ex⟩ := hx.nso_inv; exact key _ _ _ ex hv
 ·exact hv.elim
theorem Qb.str_inv {s : ByteArray} {v : Value} (h : Qb C ρ hp w (.str s) v) : v = .string s := by cases h; rfl
theorem Qjw {P : Program} {t : TypeId} (h : Qh4 P t = true) : P.underlying t = some .string := by
 unfold Qh4 at h;split at h
 ·assumption
 ·cases h
theorem Qns {o : Oper} {x : Operand} {t : TypeId} {px : PV} {d : Nat} (ho : o.op = .call { callee :=.builtin .len, args := #[x], argTypes := #[t] }) (hd : o.dst = some d) (hlt : d < C.N) (h : Qg C ρ fr hp a.tmps w)
  (hx : Qb C ρ hp w px (a.eval x)) (hs : Qh4 C.P t = true) (hv : Qg0 px d fr hp K) : Qd C ρ o a w K := by
 have hu := Qjw hs;unfold Qg0 at hv;split at hv
 ·rename_i s;have ex := hx.str_inv;exact Qd.mk hd hlt h (Qcu ho (fun w' => by simp [builtin, Builtin.len_, ex, Sem.run_bind, Qi hu, goInt])) (Qb.mkInt _ _) hv
 ·exact hv.elim
theorem Qk4 {P : Program} {T : TypeId} (hu : P.underlying T = some .string) (n m : ByteArray) (w : World) : (binOp .eql T (.string n) (.string m)).run P w = .ok (.bool (n == m)) w := by simp [binOp, Op.stringOp, beq_toListBytes]
theorem Qk5 {P : Program} {T : TypeId} (hu : P.underlying T = some .string) (n m : ByteArray) (w : World) : (binOp .neq T (.string n) (.string m)).run P w = .ok (.bool (!(n == m))) w := by simp [binOp, Op.stringOp, bne, beq_toListBytes]
theorem Qiv (x y : ByteArray) : (x == y) = decide (x = y) := by
 by_cases h : x = y
 ·subst h;rw [decide_eq_true rfl];show (x.data == x.data) = true;simp
 ·rw [decide_eq_false h];have h' : x.data ≠ y.data := fun e => h (by cases x; cases y; simp_all);show (x.data == y.data) = false;simpa using h'
theorem Qnt {o : Oper} {op : BinOp} {ng : Bool} {T T2 : TypeId} {x y : Operand} {px py : PV} {d : Nat} (ho : o.op = .binOp op T x y T2) (hop : Ql1 op = some ng) (hs : Qh4 C.P T = true) (hd : o.dst = some d) (hlt : d < C.N) (h : Qg C ρ fr hp a.tmps w)
  (hx : Qb C ρ hp w px (a.eval x)) (hy : Qb C ρ hp w py (a.eval y)) (hv : Qe6 ng px py d fr hp K) : Qd C ρ o a w K := by
 have hu := Qjw hs;unfold Qe6 at hv;split at hv
 ·rename_i n m;have ex := hx.str_inv;have ey := hy.str_inv;have hgd : ∀ w', (eqGuard op T x y (.string n) (.string m)).run C.P w' = .ok () w' := by intro w'; unfold eqGuard; cases op <;> rfl
  cases op <;> first | (cases hop; done) | skip
  ·cases hop;exact Qd.mk hd hlt h (Qa8 ho ex ey hgd (Qk4 hu n m)) (Qb.mkBool _) (by rw [Qiv]; simpa using hv)
  ·cases hop;exact Qd.mk hd hlt h (Qa8 ho ex ey hgd (Qk5 hu n m)) (Qb.mkBool _) (by rw [Qiv]; simpa using hv)
 ·exact hv.elim
theorem Qpz {o : Oper} {x y : Operand} {ts : Array TypeId} {px py : PV} {d : Nat} (ho : o.op = .call { callee :=.builtin .max, args := #[x, y], argTypes := ts }) (hd : o.dst = some d) (hlt : d < C.N) (h : Qg C ρ fr hp a.tmps w)
  (hx : Qb C ρ hp w px (a.eval x)) (hy : Qb C ρ hp w py (a.eval y)) (hv : mxK px py d fr hp K) : Qd C ρ o a w K := by
 unfold mxK at hv;split at hv
 ·rename_i k n k' m;have ex := hx.int_inv;have ey := hy.int_inv;refine Qd.mk hd hlt h (Qcu ho (fun w' =>?_)) (Qb.mkInt _ _) hv;have e : (if m > n then m else n) = max n m := by omega
  simp [builtin, Builtin.max_, ex, ey, Builtin.max2, e]
 ·exact hv.elim
theorem Qp0 {o : Oper} {x y : Operand} {ts : Array TypeId} {px py : PV} {d : Nat} (ho : o.op = .call { callee :=.builtin .min, args := #[x, y], argTypes := ts }) (hd : o.dst = some d) (hlt : d < C.N) (h : Qg C ρ fr hp a.tmps w)
  (hx : Qb C ρ hp w px (a.eval x)) (hy : Qb C ρ hp w py (a.eval y)) (hv : mnK px py d fr hp K) : Qd C ρ o a w K := by
 unfold mnK at hv;split at hv
 ·rename_i k n k' m;have ex := hx.int_inv;have ey := hy.int_inv;refine Qd.mk hd hlt h (Qcu ho (fun w' =>?_)) (Qb.mkInt _ _) hv;have e : (if m < n then m else n) = min n m := by omega
  simp [builtin, Builtin.min_, ex, ey, Builtin.min2, e]
 ·exact hv.elim
theorem Qp1 {o : Oper} {op : UnOp} {T : TypeId} {x : Operand} {px : PV} {d : Nat} (ho : o.op = .unOp op T x) (hd : o.dst = some d) (hlt : d < C.N) (h : Qg C ρ fr hp a.tmps w)
  (hx : Qb C ρ hp w px (a.eval x)) (hv : unK op px d fr hp K) : Qd C ρ o a w K := by
 unfold unK at hv;split at hv
 ·have ex := hx.bool_inv;refine Qd.mk hd hlt h (fun w' =>?_) (Qb.mkBool _) hv;unfold execOp; simp only [ho, ex]; rfl
 ·have ex := hx.int_inv;refine Qd.mk hd hlt h (fun w' =>?_) (Qb.mkInt _ _) hv;unfold execOp; simp only [ho, ex]; rfl
 ·exact hv.elim
theorem Ql3 {o : Oper} {S T : TypeId} {x : Operand} {px : PV} {d : Nat} {ds : TypeDesc} {k : IntKind} (ho : o.op = .convert S T x) (hd : o.dst = some d) (hlt : d < C.N) (h : Qg C ρ fr hp a.tmps w)
  (hS : C.P.underlying S = some ds) (hT : C.P.underlying T = some (.int k)) (hx : Qb C ρ hp w px (a.eval x)) (hv : Qfo k px d fr hp K) : Qd C ρ o a w K := by
 unfold Qfo at hv;split at hv
 ·have ex := hx.int_inv;refine Qd.mk hd hlt h (fun w' =>?_) (Qb.mkInt _ _) hv;unfold execOp; simp only [ho, ex, Sem.run_bind, convert, Qi hS, Qi hT, Result.andThen_ok]; rfl
 ·exact hv.elim
theorem Qnu {o : Oper} {i : Nat} {x : Operand} {px : PV} {d : Nat} (ho : o.op = .extract x i) (hd : o.dst = some d) (hlt : d < C.N) (h : Qg C ρ fr hp a.tmps w)
  (hx : Qb C ρ hp w px (a.eval x)) (hv : Qc3 px i d fr hp K) : Qd C ρ o a w K := by
 unfold Qc3 at hv;split at hv
 ·rename_i ps;split at hv
  ·rename_i p hp1;obtain ⟨hdat, hv⟩ := hv;obtain ⟨vs, ex, h1, h2⟩ := hx;have hi : i < vs.size := by rw [h1]; exact (List.getElem?_eq_some_iff.1 hp1).1
   have hr := h2 i p hp1;have hg : vs.getD i undef = vs[i] := by simp [Array.getD, hi]
   rw [hg] at hr;refine Qd.mk hd hlt h (fun w' =>?_) (Qb.ofData hr) hv;unfold execOp; simp only [ho, ex, Sem.run_bind, Instr.extract, Array.getElem?_eq_getElem hi]; rfl
  ·exact hv.elim
 ·rename_i ps;split at hv
  ·rename_i p hp1;obtain ⟨vs, ex, h1, h2⟩ := hx;have hi : i < vs.size := by rw [h1]; exact (List.getElem?_eq_some_iff.1 hp1).1
   have hr := h2 i p hp1;have hg : vs.getD i undef = vs[i] := by simp [Array.getD, hi]
   rw [hg] at hr;refine Qd.mk hd hlt h (fun w' =>?_) (Qb.ofS hr) hv;unfold execOp; simp only [ho, ex, Sem.run_bind, Instr.extract, Array.getElem?_eq_getElem hi]; rfl
  ·exact hv.elim
 ·rename_i cs q;obtain ⟨vs, u, ex, h1, h2, h3⟩ := hx;split at hv
  ·refine Qd.mk (p :=.rag cs) (v :=.agg vs) hd hlt h (fun w' =>?_) ⟨vs, rfl, h1, h2⟩ hv;unfold execOp; simp only [ho, ex, Sem.run_bind, Instr.extract]; rfl
  ·refine Qd.mk (v := u) hd hlt h (fun w' =>?_) (Qb.ofData h3) hv;unfold execOp; simp only [ho, ex, Sem.run_bind, Instr.extract]; rfl
  ·exact hv.elim
 ·exact hv.elim
theorem Qjx {o : Oper} {x : Operand} {px : PV} {d : Nat} (ho : o.op = .move x ∨ o.op = .assign x) (hd : o.dst = some d) (hlt : d < C.N) (h : Qg C ρ fr hp a.tmps w)
  (hx : Qb C ρ hp w px (a.eval x)) (hv : K (upd fr d px) hp) : Qd C ρ o a w K := by
 refine Qd.mk hd hlt h (fun w' =>?_) hx hv;rcases ho with ho | ho <;> (unfold execOp; simp only [ho]; rfl)
theorem Ql4 {o : Oper} {c x y : Operand} {pc px py : PV} {d : Nat} (ho : o.op = .pick c x y) (hd : o.dst = some d) (hlt : d < C.N) (h : Qg C ρ fr hp a.tmps w)
  (hc : Qb C ρ hp w pc (a.eval c)) (hx : Qb C ρ hp w px (a.eval x)) (hy : Qb C ρ hp w py (a.eval y))
  (hv : Qec pc px py d fr hp K) : Qd C ρ o a w K := by
 obtain ⟨t, rfl, hv⟩ : ∃ t, pc = .bool t /\ ((t = true -> K (upd fr d px) hp) /\ (t = false -> K (upd fr d py) hp)) := by
  cases pc with
  | bool t => exact ⟨t, rfl, hv⟩
  | _ => exact hv.elim
 have ec := hc.bool_inv;cases t with
 | true =>refine Qd.mk hd hlt h (fun w' =>?_) hx (hv.1 rfl);unfold execOp; simp only [ho, ec]; rfl
 | false =>refine Qd.mk hd hlt h (fun w' =>?_) hy (hv.2 rfl);unfold execOp; simp only [ho, ec]; rfl
theorem Qcn {P : Program} {T : TypeId} {k0 : IntKind} (hu : P.underlying T = some (.int k0)) (d : Nat) (k : IntKind) (n m : Int) (w : World) : (Op.equalIn (d + 1) T (.int k n) (.int k m)).run P w = .ok (n == m) w := by unfold Op.equalIn;rw [Sem.run_bind, Qi hu, Result.andThen_ok];simp
theorem Qd3 {P : Program} {t : TypeId} {cs : Array Value} {off : Nat} {v : Value} (ha : Qc2 P t = some false) (hv : cs[off]? = some v) (w : World) : (part t cs off).run P w = .ok v w := by unfold part;rw [Sem.run_bind, Qd2 ha, Result.andThen_ok];simp [hv]
theorem Qjy {P : Program} {T : TypeId} {f g : Field} (hu : P.underlying T = some (.struct #[f, g])) (h1 : f.name ≠ "_") (h2 : g.name ≠ "_") (o1 : f.offset = 0) (o2 : g.offset = 1) {k1 k2 : IntKind} (t1 : P.underlying f.type = some (.int k1)) (t2 : P.underlying g.type = some (.int k2))
  (hs : P.stoodInHeld T = false) (k l : IntKind) (x y x' y' : Int) (w : World) : (Op.equal T (.agg #[.int k x, .int l y]) (.agg #[.int k x', .int l y'])).run P w = .ok (x == x' && y == y') w := by
 have a1 : Qc2 P f.type = some false := by simp [Qc2, t1]
 have a2 : Qc2 P g.type = some false := by simp [Qc2, t2]
 show (Op.equalIn (9998 + 1 + 1) T _ _).run P w = _;rw [Op.equalIn];rw [Sem.run_bind, Qi hu, Result.andThen_ok];have hp : Sem.run P program w = .ok P w := rfl;rw [Sem.run_bind, hp, Result.andThen_ok, hs];simp only [Bool.false_eq_true, if_false];rw [<- Array.forIn_toList];simp only [List.forIn_cons, List.forIn_nil, Sem.run_bind, o1, o2, h1, h2, ne_eq, not_false_eq_true, if_true, Qd3 a1 (show (#[Value.int k x, Value.int l y])[0]? = some _ from rfl), Qd3 a1 (show (#[Value.int k x', Value.int l y'])[0]? = some _ from rfl),
  Qd3 a2 (show (#[Value.int k x, Value.int l y])[1]? = some _ from rfl), Qd3 a2 (show (#[Value.int k x', Value.int l y'])[1]? = some _ from rfl), Qcn t1, Qcn t2, Result.andThen_ok]
 have q1 : ∀ n m w, (Op.equalIn 9999 f.type (.int k n) (.int k m)).run P w = .ok (n == m) w := fun n m w => Qcn t1 9998 k n m w;have q2 : ∀ n m w, (Op.equalIn 9999 g.type (.int l n) (.int l m)).run P w = .ok (n == m) w := fun n m w => Qcn t2 9998 l n m w;have p2 : ∀ u v w, (part g.type #[u, v] 1).run P w = .ok v w := fun u v w => Qd3 a2 (show (#[u, v])[1]? = some _ from rfl) w;by_cases e1 : x = x' <;> by_cases e2 : y = y' <;> simp [e1, e2, q1, q2, p2]
theorem Qp2 {P : Program} {T : TypeId} {b : Bool} {X Y : Array Value} (h : ∀ w, (Op.equal T (.agg X) (.agg Y)).run P w = .ok b w) (w : World) : (binOp .eql T (.agg X) (.agg Y)).run P w = .ok (.bool b) w := by show (do pure (Value.bool (<- Op.equal T (.agg X) (.agg Y))) : Sem Value).run P w = _;rw [Sem.run_bind, h, Result.andThen_ok];rfl
theorem Qp3 {P : Program} {T : TypeId} {b : Bool} {X Y : Array Value} (h : ∀ w, (Op.equal T (.agg X) (.agg Y)).run P w = .ok b w) (w : World) : (binOp .neq T (.agg X) (.agg Y)).run P w = .ok (.bool !b) w := by show (do pure (Value.bool (!(<- Op.equal T (.agg X) (.agg Y)))) : Sem Value).run P w = _;rw [Sem.run_bind, h, Result.andThen_ok];rfl
theorem Qhi {P : Program} {T : TypeId} {op : BinOp} {x y : Operand} {X Y : Array Value} (h : P.eqGuardType P.depth T = false) (w : World) : (eqGuard op T x y (.agg X) (.agg Y)).run P w = .ok () w := by
  have hp : Sem.run P program w = .ok P w := rfl
  have hg : (do if !(<- program).eqGuardType (<- program).depth T then return
                if <- Op.eqGuardIn Op.maxDepth T (.agg X) (.agg Y) then unsupported (.noEntry "binop/eql: two nil values of an interface type with methods, in a part of a struct or an array") : Sem Unit).run P w = .ok () w := by
    rw [Sem.run_bind, hp, Result.andThen_ok, Sem.run_bind, hp, Result.andThen_ok, h]; rfl
  cases op <;> first | rfl | exact hg
theorem Quh {P : Program} {T : TypeId} (h : s2? P T = true) : ∃ f g k1 k2, P.underlying T = some (.struct #[f, g]) /\ f.name ≠ "_" /\ g.name ≠ "_" /\ f.offset = 0 /\ g.offset = 1 /\ P.underlying f.type = some (.int k1) /\ P.underlying g.type = some (.int k2) /\ P.stoodInHeld T = false /\ P.eqGuardType P.depth T = false := by
 unfold s2? at h;split at h
 ·rename_i fs hu;split at h
  ·rename_i f g hfs;simp only [Bool.and_eq_true, bne_iff_ne, ne_eq, beq_iff_eq, Bool.not_eq_true'] at h;obtain ⟨⟨⟨⟨⟨⟨⟨h1, h2⟩, h3⟩, h4⟩, h5⟩, h6⟩, h7⟩, h8⟩ := h;have : fs = #[f, g] := by rw [<- Array.toArray_toList (xs := fs), hfs]
   subst this;cases u1 : P.underlying f.type with
   | none => rw [u1] at h5; cases h5
   | some t1 => cases u2 : P.underlying g.type with
    | none => rw [u2] at h6; cases h6
    | some t2 =>
     rw [u1] at h5; rw [u2] at h6;cases t1 <;> first | (cases h5; done) | skip
     cases t2 <;> first | (cases h6; done) | skip
     exact ⟨f, g, _, _, hu, h1, h2, h3, h4, u1, u2, h7, h8⟩
  ·cases h
 ·cases h
theorem Qjz {cs : List PV} {v : Value} {p q : PV} (hcs : cs = [p, q]) (h : Qb C ρ hp w (.agg cs) v) : ∃ x y, v = .agg #[x, y] /\ Qc w (Xof C ρ hp) p x /\ Qc w (Xof C ρ hp) q y := by
 subst hcs;obtain ⟨vs, rfl, h1, h2⟩ := h;have hs : vs.size = 2 := h1;refine ⟨vs.getD 0 undef, vs.getD 1 undef, ?_, h2 0 p rfl, h2 1 q rfl⟩;congr 1;apply Array.ext
 ·simp [hs]
 ·intro i hi hi';have : i = 0 ∨ i = 1 := by simp at hi'; omega
  rcases this with rfl | rfl <;> simp [Array.getD, hs]
theorem Qnv {o : Oper} {op : BinOp} {ng : Bool} {T T2 : TypeId} {x y : Operand} {px py : PV} {d : Nat} (ho : o.op = .binOp op T x y T2) (hop : Ql1 op = some ng) (hs2 : s2? C.P T = true) (hd : o.dst = some d) (hlt : d < C.N) (h : Qg C ρ fr hp a.tmps w)
  (hx : Qb C ρ hp w px (a.eval x)) (hy : Qb C ρ hp w py (a.eval y)) (hv : Qe5 ng px py d fr hp K) : Qd C ρ o a w K := by
 obtain ⟨f, g, k1, k2, hu, h1, h2, h3, h4, u1, u2, h7, h8⟩ := Quh hs2;unfold Qe5 at hv;split at hv
 ·rename_i k n l m k' n' l' m';obtain ⟨rfl, rfl, hv⟩ := hv;obtain ⟨a1, b1, ex, r1, r2⟩ := Qjz rfl hx;obtain ⟨a2, b2, ey, r3, r4⟩ := Qjz rfl hy;cases r1; cases r2; cases r3; cases r4;have heq : ∀ w, (Op.equal T (.agg #[.int k n, .int l m]) (.agg #[.int k n', .int l m'])).run C.P w = .ok (n == n' && m == m') w := fun w => Qjy hu h1 h2 h3 h4 u1 u2 h7 k l n m n' m' w;have e : (n == n' && m == m') = (decide (n = n') && decide (m = m')) := rfl;rw [e] at heq;cases op <;> first | (cases hop; done) | skip
  ·cases hop;exact Qd.mk hd hlt h (Qa8 ho ex ey (Qhi h8) (Qp2 heq)) (Qb.mkBool _) (by simpa using hv)
  ·cases hop;exact Qd.mk hd hlt h (Qa8 ho ex ey (Qhi h8) (Qp3 heq)) (Qb.mkBool _) (by simpa using hv)
 ·exact hv.elim
end Go.FW
namespace Go.FW
open Go
variable {C : Ctx} {ρ : Nat -> Option Nat} {fr : Fr} {hp : HP} {w : World} {a : Act} {K : Qa}
theorem Qk6 {l : List PV} {n : Nat} (h : n < l.length) : l[n]? = some (l[n]'h) := List.getElem?_eq_getElem h
theorem Qdn {P : Program} {t e : TypeId} {n : Nat} {ad : Addr} {len cap : Nat} {k : IntKind} {i : Int} (hu : P.underlying t = some (.slice e)) (hn : tsz P e = some n) (h0 : 0 <= i) (h1 : i < len) (w : World) :
  (Instr.indexAt t (.slice (some ad) len cap) (.int k i)).run P w = .ok (.pointer (some (ad.add (i.toNat * n)))) w := by
 have h2 : 0 <= i /\ i < len := ⟨h0, h1⟩
 unfold Instr.indexAt;simp only [asIntOf, Sem.run_bind, Sem.run_pure, Result.andThen_ok, Qi hu, if_pos h2, Qad hn]
theorem Qey {P : Program} {t e : TypeId} {n len : Nat} {ad : Addr} {k : IntKind} {i : Int} (hu : P.underlying t = some (.array len e)) (hn : tsz P e = some n) (h0 : 0 <= i) (h1 : i < len) (w : World) :
  (Instr.indexAt t (.pointer (some ad)) (.int k i)).run P w = .ok (.pointer (some (ad.add (i.toNat * n)))) w := by
 have h2 : 0 <= i /\ i < len := ⟨h0, h1⟩
 unfold Instr.indexAt;simp only [asIntOf, Sem.run_bind, Sem.run_pure, Result.andThen_ok, Qi hu, Instr.sureAddr, if_pos h2, Qad hn]
theorem Qb.mp_inv {β i o : Nat} {v : Value} (h : Qb C ρ hp w (.mp β i o) v) : ∃ b hb, ρ β = some b /\ hp β = some hb /\ v = .pointer (some ⟨b, i * hb.e + o, none⟩) := h
theorem Qb.mkMp {β i o b : Nat} {hb : HB} (h1 : ρ β = some b) (h2 : hp β = some hb) : Qb C ρ hp w (.mp β i o) (.pointer (some ⟨b, i * hb.e + o, none⟩)) := ⟨b, hb, h1, h2, rfl⟩
theorem Qnw {o : Oper} {t e : TypeId} {n : Nat} {x i : Operand} {px pi : PV} {d : Nat} (ho : o.op = .indexAddr t x i) (hd : o.dst = some d) (hlt : d < C.N) (h : Qg C ρ fr hp a.tmps w)
  (hu : C.P.underlying t = some (.slice e)) (hn : tsz C.P e = some n) (hx : Qb C ρ hp w px (a.eval x)) (hi : Qb C ρ hp w pi (a.eval i)) (hv : Qbg n px pi d fr hp K) : Qd C ρ o a w K := by
 unfold Qbg at hv;split at hv
 ·rename_i e' xs k m;obtain ⟨rfl, h0, h1, hK⟩ := hv;have ei := hi.int_inv;have hlen : m < xs.length := by omega
  generalize ev : a.eval x = vx at hx;cases hx with
  | slE => simp at h1
  | sl _ _ b off cap vs hX hb hl hc he hv' hr =>
   have hxm := Qk6 h1;have hcl := he _ _ hxm;refine Qd.mk hd hlt h (v :=.pointer (some ⟨b, off + m.toNat * n, none⟩)) (fun w' =>?_) ?_ hK
   ·unfold execOp; simp only [ho, ei, ev, Sem.run_bind, Qdn hu hn h0 hlen, Result.andThen_ok, Addr.add_lit]; rfl
   ·exact Qc.pt _ b _ (vs m.toNat) hX hb (fun j hj => hv' m.toNat h1 j (by omega)) (fun j y hy => hr m.toNat _ hxm j y hy)
 ·rename_i β o' m k n';obtain ⟨h0, h1, h2, hK⟩ := hv;have ei := hi.int_inv;obtain ⟨hb, g1, g2, ⟨g3, _, g5, _⟩ | ⟨b, cap, g3, g4, g5, g6⟩⟩ := hx
  ·omega
  ·rw [g1] at h2; simp only [Option.map_some, Option.some.injEq] at h2; subst h2;have hm : n' < m := by omega
   refine Qd.mk hd hlt h (fun w' =>?_) (Qb.mkMp g3 g1) hK;unfold execOp; simp only [ho, ei, g4, Sem.run_bind, Qdn hu hn h0 hm, Result.andThen_ok, Addr.add_lit, Nat.add_zero, Nat.add_mul]; rfl
 ·rename_i γ o' m k n';obtain ⟨h0, h1, h2, hK⟩ := hv;have ei := hi.int_inv;obtain ⟨hB, hb, b, cap, g1, g3, g4, g5, g6, g7⟩ := hx;rw [g1] at h2; simp only [Option.map_some, Option.some.injEq] at h2; subst h2;have hm : n' < m := by omega
  refine Qd.mk hd hlt h (p :=.np γ (o' + n'.toNat) 0) (fun w' =>?_) (show Qbh C ρ hp w (.np γ (o' + n'.toNat) 0) _ from ⟨hB, b, hb, g3, g1, rfl⟩) hK;unfold execOp; simp only [ho, ei, g4, Sem.run_bind, Qdn hu hn h0 hm, Result.andThen_ok, Addr.add_lit, Nat.add_zero, Nat.add_mul]; rfl
 ·exact hv.elim
theorem Qc.pt_drop {X : Nat -> Prop} {cs : List PV} {b off k : Nat} (h : Qc w X (.pt cs) (.pointer (some ⟨b, off, none⟩))) : Qc w X (.pt (cs.drop k)) (.pointer (some ⟨b, off + k, none⟩)) := by
 cases h with
 | pt _ _ _ vs hX hb hv hr =>
  refine Qc.pt _ b _ (fun j => vs (k + j)) hX hb (fun j hj =>?_) (fun j y hy =>?_)
  ·have := hv (k + j) (by simp at hj; omega); rwa [<- Nat.add_assoc] at this
  ·rw [List.getElem?_drop] at hy; exact hr _ _ hy
theorem Qb.pt_inv {cs : List PV} {v : Value} (h : Qb C ρ hp w (.pt cs) v) : ∃ b off, v = .pointer (some ⟨b, off, none⟩) /\ Qc w (Xof C ρ hp) (.pt cs) (.pointer (some ⟨b, off, none⟩)) := by
 have h' : Qc w (Xof C ρ hp) (.pt cs) v := h;cases h' with
 | pt _ b off vs hX hb hv hr => exact ⟨b, off, rfl, .pt _ b off vs hX hb hv hr⟩
theorem Ql5 {o : Oper} {t e : TypeId} {n len : Nat} {x i : Operand} {px pi : PV} {d : Nat} (ho : o.op = .indexAddr t x i) (hd : o.dst = some d) (hlt : d < C.N) (h : Qg C ρ fr hp a.tmps w)
  (hu : C.P.underlying t = some (.array len e)) (hn : tsz C.P e = some n) (hx : Qb C ρ hp w px (a.eval x)) (hi : Qb C ρ hp w pi (a.eval i)) (hv : Qds len n px pi d fr hp K) : Qd C ρ o a w K := by
 unfold Qds at hv;split at hv
 ·rename_i β j o' k m;obtain ⟨h0, h1, hK⟩ := hv;have ei := hi.int_inv;obtain ⟨b, hb, g1, g2, g3⟩ := hx.mp_inv;refine Qd.mk hd hlt h (fun w' =>?_) (Qb.mkMp g1 g2) hK;unfold execOp; simp only [ho, ei, g3, Sem.run_bind, Qey hu hn h0 h1, Result.andThen_ok, Addr.add_lit, Nat.add_assoc]; rfl
 ·rename_i cs k m;obtain ⟨h0, h1, h2, hK⟩ := hv;have ei := hi.int_inv;obtain ⟨b, off, ex, hp'⟩ := hx.pt_inv;refine Qd.mk hd hlt h (p :=.pt (cs.drop (m.toNat * n))) (v :=.pointer (some ⟨b, off + m.toNat * n, none⟩)) (fun w' =>?_) hp'.pt_drop hK;unfold execOp; simp only [ho, ei, ex, Sem.run_bind, Qey hu hn h0 h1, Result.andThen_ok, Addr.add_lit]; rfl
 ·exact hv.elim
theorem Qep {P : Program} {t : TypeId} {fs : Array Field} {j : Nat} {f : Field} {n b off : Nat} (hu : P.underlying t = some (.struct fs)) (hf : fs[j]? = some f) (hn : tsz P f.type = some n) (h0 : n ≠ 0) (w : World) :
  (Instr.fieldAt t (.pointer (some ⟨b, off, none⟩)) j).run P w = .ok (.pointer (some ⟨b, off + f.offset, none⟩)) w := by
 unfold Instr.fieldAt;simp only [Sem.run_bind, Qi hu, Result.andThen_ok, hf, Instr.sureAddr, Sem.run_pure, fieldPlace, Qad hn, if_neg h0, Addr.add_lit]
theorem Qnx {o : Oper} {t : TypeId} {fs : Array Field} {j n : Nat} {f : Field} {x : Operand} {px : PV} {d : Nat} (ho : o.op = .fieldAddr t x j) (hd : o.dst = some d) (hlt : d < C.N) (h : Qg C ρ fr hp a.tmps w)
  (hu : C.P.underlying t = some (.struct fs)) (hf : fs[j]? = some f) (hn : tsz C.P f.type = some n) (hn0 : n ≠ 0) (hx : Qb C ρ hp w px (a.eval x)) (hv : Qe7 f.offset px d fr hp K) : Qd C ρ o a w K := by
 unfold Qe7 at hv;split at hv
 ·rename_i β i o';obtain ⟨b, hb, g1, g2, g3⟩ := hx.mp_inv;refine Qd.mk hd hlt h (fun w' =>?_) (Qb.mkMp g1 g2) hv;unfold execOp; simp only [ho, g3, Sem.run_bind, Qep hu hf hn hn0, Result.andThen_ok, Nat.add_assoc]; rfl
 ·rename_i γ i o';obtain ⟨hB, b, hb, g1, g2, g3⟩ := hx.np_inv;refine Qd.mk hd hlt h (p :=.np γ i (o' + f.offset)) (fun w' =>?_) (show Qbh C ρ hp w (.np γ i (o' + f.offset)) _ from ⟨hB, b, hb, g1, g2, rfl⟩) hv;unfold execOp; simp only [ho, g3, Sem.run_bind, Qep hu hf hn hn0, Result.andThen_ok, Nat.add_assoc]; rfl
 ·rename_i cs;obtain ⟨_, hK⟩ := hv;obtain ⟨b, off, ex, hp'⟩ := hx.pt_inv;refine Qd.mk hd hlt h (p :=.pt (cs.drop f.offset)) (v :=.pointer (some ⟨b, off + f.offset, none⟩)) (fun w' =>?_) hp'.pt_drop hK;unfold execOp; simp only [ho, ex, Sem.run_bind, Qep hu hf hn hn0, Result.andThen_ok]; rfl
 ·exact hv.elim
theorem Qb6 (vs : Array Value) (off n j : Nat) (hj : j < n) (h : off + n <= vs.size) : (vs.extract off (off + n)).getD j undef = vs.getD (off + j) undef := by
 have h1 : j < (vs.extract off (off + n)).size := by simp; omega
 have h2 : off + j < vs.size := by omega
 simp only [Array.getD_eq_getD_getElem?, Array.getElem?_eq_getElem h1, Array.getElem?_eq_getElem h2, Array.getElem_extract]
theorem Qff {X : Nat -> Prop} {ag : Bool} {n off : Nat} {x : PV} {vs : Array Value} (hs : vs.size = n) (hle : off + n <= x.cells.length) (h1 : ag = false -> n = 1)
  (hr : ∀ j y, j < n -> x.cells[off + j]? = some y -> Qc w X y (vs.getD j undef)) : Qk w X (ldV ag n off x) (if ag then .agg vs else vs.getD 0 undef) := by
 cases ag with
 | true =>
  refine ⟨vs, rfl, by simp [hs]; omega, fun i y hy =>?_⟩;have hi : i < n := by have := (List.getElem?_eq_some_iff.1 hy).1;simp at this; omega
  rw [List.getElem?_take_of_lt hi, List.getElem?_drop] at hy;exact hr i y hi hy
 | false =>
  have hn := h1 rfl;subst hn;have hlt : off < x.cells.length := by omega
  have e : x.cells[off + 0]? = some (x.cells[off]) := by simp [List.getElem?_eq_getElem hlt]
  have := hr 0 _ (by omega) e;simp only [ldV, Bool.false_eq_true, if_false];have e2 : (x.cells.drop off).headD .undef = x.cells[off] := by rw [List.headD_eq_head?_getD, List.head?_drop, List.getElem?_eq_getElem hlt]; rfl
  rw [e2];exact Qk.of_c this
theorem Ql6 {o : Oper} {t : TypeId} {fs : Array Field} {j n : Nat} {ag : Bool} {f : Field} {x : Operand} {px : PV} {d : Nat} (ho : o.op = .field t x j) (hd : o.dst = some d) (hlt : d < C.N) (h : Qg C ρ fr hp a.tmps w)
  (hu : C.P.underlying t = some (.struct fs)) (hf : fs[j]? = some f) (hn : tsz C.P f.type = some n) (hag : Qc2 C.P f.type = some ag) (hx : Qb C ρ hp w px (a.eval x)) (hv : Qdt f.offset n ag px d fr hp K) : Qd C ρ o a w K := by
 unfold Qdt at hv;split at hv
 ·rename_i cs;obtain ⟨h1, h2, hK⟩ := hv;obtain ⟨vs, ex, g1, g2⟩ := hx;have hle : f.offset + n <= vs.size := by omega
  have hrep := Qff (X := Xof C ρ hp) (w := w) (ag := ag) (off := f.offset) (x :=.agg cs) (vs := vs.extract f.offset (f.offset + n)) (by simp; omega) h1 h2
   (fun j y hj hy => by rw [Qb6 vs _ _ _ hj hle]; exact g2 _ y hy)
  refine Qd.mk hd hlt h (fun w' =>?_) (Qb.ofData hrep) hK;unfold execOp; simp only [ho, ex, Sem.run_bind, Instr.field, Qi hu, Result.andThen_ok, hf, asAgg, Sem.run_pure, part, Qd2 hag];cases ag with
  | true => simp only [if_true, Sem.run_bind, Qad hn, Result.andThen_ok, Sem.run_pure]
  | false =>
   have hn1 := h2 rfl;subst hn1;have hlt' : f.offset < vs.size := by omega
   simp only [Bool.false_eq_true, if_false, Array.getElem?_eq_getElem hlt', Sem.run_pure, Result.andThen_ok];rw [Qb6 vs _ _ 0 (by omega) hle];simp [Array.getD, hlt']
 ·rename_i cs;obtain ⟨h1, h2, hK⟩ := hv;obtain ⟨vs, ex, g1, g2⟩ := hx;have hle : f.offset + n <= vs.size := by omega
  have hrep := Qlh (C := C) (ρ := ρ) (hp := hp) (w := w) (ag := ag) (off := f.offset) (x :=.rag cs) (vs := vs.extract f.offset (f.offset + n)) (by simp; omega) h1 h2
   (fun j y hj hy => by rw [Qb6 vs _ _ _ hj hle]; exact g2 _ y hy)
  refine Qd.mk hd hlt h (fun w' =>?_) hrep hK;unfold execOp; simp only [ho, ex, Sem.run_bind, Instr.field, Qi hu, Result.andThen_ok, hf, asAgg, Sem.run_pure, part, Qd2 hag];cases ag with
  | true => simp only [if_true, Sem.run_bind, Qad hn, Result.andThen_ok, Sem.run_pure]
  | false =>
   have hn1 := h2 rfl;subst hn1;have hlt' : f.offset < vs.size := by omega
   simp only [Bool.false_eq_true, if_false, Array.getElem?_eq_getElem hlt', Sem.run_pure, Result.andThen_ok];rw [Qb6 vs _ _ 0 (by omega) hle];simp [Array.getD, hlt']
 ·exact hv.elim
theorem Qny {o : Oper} {t : TypeId} {x i : Operand} {px pi : PV} {d : Nat} (ho : o.op = .index t x i) (hd : o.dst = some d) (hlt : d < C.N) (h : Qg C ρ fr hp a.tmps w)
  (hu : C.P.underlying t = some .string) (hx : Qb C ρ hp w px (a.eval x)) (hi : Qb C ρ hp w pi (a.eval i)) (hv : Qf5 px pi d fr hp K) : Qd C ρ o a w K := by
 unfold Qf5 at hv;split at hv
 ·rename_i s k m;obtain ⟨h0, h1, hK⟩ := hv;have ei := hi.int_inv;have ex := hx.str_inv;have hlt' : m.toNat < s.size := by omega
  have e0 : s.get! m.toNat = s[m.toNat]'hlt' := by simp [ByteArray.get!, getElem!_pos, hlt'];rfl
  have e1 : (if 0 <= m then s[m.toNat]? else none) = some (s.get! m.toNat) := by rw [if_pos h0, getElem?_pos s m.toNat hlt', e0]
  refine Qd.mk hd hlt h (fun w' =>?_) (Qb.mkInt _ _) hK;unfold execOp; simp only [ho, ex, ei, Sem.run_bind, Instr.index, asIntOf, Qi hu, Result.andThen_ok, Sem.run_pure, e1]
 ·exact hv.elim
theorem Qnz {o : Oper} {t e : TypeId} {len n : Nat} {ag : Bool} {x i : Operand} {px pi : PV} {d : Nat} (ho : o.op = .index t x i) (hd : o.dst = some d) (hlt : d < C.N) (h : Qg C ρ fr hp a.tmps w)
  (hu : C.P.underlying t = some (.array len e)) (hn : tsz C.P e = some n) (hag : Qc2 C.P e = some ag) (hx : Qb C ρ hp w px (a.eval x)) (hi : Qb C ρ hp w pi (a.eval i)) (hv : Qh7 len n ag px pi d fr hp K) : Qd C ρ o a w K := by
 unfold Qh7 at hv;split at hv
 ·rename_i cs k m;obtain ⟨h0, h00, h1, h2, hK⟩ := hv;have ei := hi.int_inv;obtain ⟨vs, ex, g1, g2⟩ := hx;have hle : m.toNat * n + n <= vs.size := by omega
  have hcond : 0 <= m /\ m < len := ⟨h0, h00⟩
  have hrep := Qff (X := Xof C ρ hp) (w := w) (ag := ag) (off := m.toNat * n) (x :=.agg cs) (vs := vs.extract (m.toNat * n) (m.toNat * n + n)) (by simp; omega) h1 h2
   (fun j y hj hy => by rw [Qb6 vs _ _ _ hj hle]; exact g2 _ y hy)
  refine Qd.mk hd hlt h (fun w' =>?_) (Qb.ofData hrep) hK;unfold execOp; simp only [ho, ex, ei, Sem.run_bind, Instr.index, asIntOf, Qi hu, Result.andThen_ok, Sem.run_pure, if_pos hcond, Qad hn, part, Qd2 hag];cases ag with
  | true => simp only [if_true, Sem.run_bind, Qad hn, Result.andThen_ok, Sem.run_pure]
  | false =>
   have hn1 := h2 rfl;subst hn1;have hlt' : m.toNat * 1 < vs.size := by omega
   simp only [Bool.false_eq_true, if_false, Array.getElem?_eq_getElem hlt', Sem.run_pure, Result.andThen_ok];rw [Qb6 vs _ _ 0 (by omega) hle];have hlt2 : m.toNat < vs.size := by omega
   simp [Array.getD, hlt2]
 ·exact hv.elim
end Go.FW
namespace Go.FW
open Go
variable {C : Ctx} {ρ : Nat -> Option Nat} {fr : Fr} {hp : HP} {w : World} {a : Act} {K : Qa}
def Qf9 (C : Ctx) (ρ : Nat -> Option Nat) (o : Oper) (a : Act) (w : World) (K : Qa) : Prop :=
 ∃ v b, b < w.heap.size /\ (∀ w', w'.heap[b]? = w.heap[b]? -> (execOp a.eval o).run C.P w' = .ok (.value v) w') /\ ∃ fr' hp', Qg C ρ fr' hp' (a.put o.dst v).tmps w /\ K fr' hp'
theorem Qdc {P : Program} {t : TypeId} {n b off : Nat} {ag : Bool} {vs : Array Value} (hn : tsz P t = some n) (hag : Qc2 P t = some ag) (h1 : ag = false -> n = 1) (hs : vs.size = n)
  (w : World) (hc : ∀ j, j < n -> w.cell? ⟨b, off + j, none⟩ = some (vs.getD j undef)) :
  (loadVar t ⟨b, off, none⟩).run P w = .ok (if ag then .agg vs else vs.getD 0 undef) w := by
 unfold loadVar;simp only [Sem.run_bind, Qd2 hag, Result.andThen_ok];cases ag with
 | true =>
  have hl := run_loadCells_list (P := P) w ⟨b, off, none⟩ vs.toList (fun j v hj => by
   have hj' : j < vs.size := by simpa using (List.getElem?_eq_some_iff.1 hj).1
   rw [Addr.add_lit, hc j (by omega), Qdx vs j v hj])
  simp only [Array.length_toList, hs] at hl;simp only [if_true, Sem.run_bind, Qad hn, Result.andThen_ok, hl, Sem.run_pure]
 | false =>have hn1 := h1 rfl;subst hn1;have h0 := hc 0 (by omega);simp only [Nat.add_zero] at h0;simp only [Bool.false_eq_true, if_false, run_load, h0]
theorem Qcw {i e o j n cap : Nat} (h1 : i < cap) (h2 : o + n <= e) (h3 : j < n) : i * e + o + j < cap * e := by have : (i + 1) * e <= cap * e := Nat.mul_le_mul_right e h1;rw [Nat.add_mul, Nat.one_mul] at this;omega
theorem Qap {w : World} {b o : Nat} {cur : Array Value} {ty : TypeId} (h : w.heap[b]? = some (.cells cur ty (0, 0))) (ho : o < cur.size) : w.cell? ⟨b, o, none⟩ = some (cur.getD o undef) := by simp [World.cell?, h, ho, Array.getD]
theorem Qb7 {n : Nat} {f : Nat -> Value} {j : Nat} (hj : j < n) : (Array.ofFn (n := n) fun i => f i.val).getD j undef = f j := by simp [Array.getD, hj]
theorem Qp4 {o : Oper} {t : TypeId} {n : Nat} {ag : Bool} {x : Operand} {px : PV} {d : Nat} (ho : o.op = .load t x) (hd : o.dst = some d) (hlt : d < C.N) (h : Qg C ρ fr hp a.tmps w)
  (hn : tsz C.P t = some n) (hag : Qc2 C.P t = some ag) (hx : Qb C ρ hp w px (a.eval x)) (hv : ldK n ag px d fr hp K) : Qf9 C ρ o a w K := by
 have fin : ∀ (b off : Nat) (vs : Array Value) (p : PV), a.eval x = .pointer (some ⟨b, off, none⟩) -> (ag = false -> n = 1) -> b < w.heap.size -> vs.size = n ->
   (∀ j, j < n -> w.cell? ⟨b, off + j, none⟩ = some (vs.getD j undef)) -> Qk w (Xof C ρ hp) p (if ag then .agg vs else vs.getD 0 undef) -> K (upd fr d p) hp -> Qf9 C ρ o a w K := by
  intro b off vs p ex h1 hb hs hc hr hK;refine ⟨_, b, hb, fun w' hw' =>?_, upd fr d p, hp, by rw [hd]; exact h.upd (Qb.ofData hr) hlt, hK⟩;have := Qdc (P := C.P) hn hag h1 hs w' (fun j hj => by rw [Qby hw']; exact hc j hj);unfold execOp;simp only [ho, ex, Sem.run_bind, Instr.loadAt, Instr.sureAddr, Sem.run_pure, Result.andThen_ok, this]
 unfold ldK at hv;split at hv
 ·rename_i β i o';split at hv
  ·rename_i hb hβ;obtain ⟨h1, h2, h3, hK⟩ := hv;obtain ⟨b, hb2, g1, g2, g3⟩ := hx.mp_inv;rw [hβ] at g2; cases g2;have hown := h.own β hb hβ;have hblk := hown.blk;rw [g1] at hblk;obtain ⟨_, hlt', cur, cap, c1, c2, c3, c4, c5⟩ := hblk;have hxi := List.getElem?_eq_getElem h1;have hcl := (hown.len i _ hxi).1;have hcap : i < cap := by omega
   have hin : ∀ j, j < n -> i * hb.e + o' + j < cur.size := fun j hj => by rw [c2]; exact Qcw hcap h2 hj
   refine fin b (i * hb.e + o') (Array.ofFn (n := n) fun j => cur.getD (i * hb.e + o' + j.val) undef) _ g3 h3 hlt' (by simp) (fun j hj =>?_) ?_ hK
   ·rw [Qb7 (f := fun j => cur.getD (i * hb.e + o' + j) undef) hj]; exact Qap c1 (hin j hj)
   ·refine Qff (by simp) (by rw [hcl]; exact h2) h3 (fun j y hj hy =>?_);rw [Qb7 (f := fun j => cur.getD (i * hb.e + o' + j) undef) hj, Nat.add_assoc];exact c5 i _ hxi (o' + j) y hy
  ·exact hv.elim
 ·rename_i cs;obtain ⟨h1, h3, hK⟩ := hv;obtain ⟨b, off, ex, hpt⟩ := hx.pt_inv;cases hpt with
  | pt _ _ _ vs hX hb hcv hr =>
   refine fin b off (Array.ofFn (n := n) fun j => vs j.val) _ ex h3 hb (by simp) (fun j hj =>?_) ?_ hK
   ·rw [Qb7 hj]; exact hcv j (by omega)
   ·refine Qff (by simp) (by simpa [PV.cells] using h1) h3 (fun j y hj hy =>?_);rw [Qb7 hj];exact hr j y (by simpa [PV.cells] using hy)
 ·rename_i β o' m;obtain ⟨rfl, rfl, hK⟩ := hv;obtain ⟨b, u, e1, e2, e3, e4, e5⟩ := hx;refine ⟨_, b, e2, fun w' hw' =>?_, upd fr d (.mso β o' m), hp, by rw [hd]; exact h.upd (p :=.mso β o' m) (v := u) e5 hlt, hK⟩;have := Qdc (P := C.P) (t := t) (b := b) (off := 0) (vs := #[u]) hn hag (fun _ => rfl) rfl w' (fun j hj => by
   obtain rfl : j = 0 := by omega
   rw [Qby hw']; simpa using e4)
  unfold execOp;simp only [ho, e1, Sem.run_bind, Instr.loadAt, Instr.sureAddr, Sem.run_pure, Result.andThen_ok, this];rfl
 ·rename_i γ i o';split at hv
  ·rename_i γ' e ty xs hγ;obtain ⟨rfl, h1, h2, h3, hK⟩ := hv;obtain ⟨hB, b, hb, g1, g2, g3⟩ := hx.np_inv;have hsl := h.slots γ';rw [hγ] at hsl;obtain ⟨_, he0, b', hb', cur, cap, q1, q2, q3, q4, q5, q6, q7, q8, q9, q10, q11⟩ := hsl;rw [g1] at q1; cases q1;rw [g2] at q2; cases q2;rw [q4] at g3;have hlt' : b < w.heap.size := (Array.getElem?_eq_some_iff.1 q6).1;have hxi := List.getElem?_eq_getElem h1;have hcl := q10 i _ hxi;have hcap : i < cap := by omega
   have hin : ∀ j, j < n -> i * e + o' + j < cur.size := fun j hj => by rw [q7]; exact Qcw hcap h2 hj
   have hvs : ∀ j, j < n -> w.cell? ⟨b, i * e + o' + j, none⟩ = some ((Array.ofFn (n := n) fun j => cur.getD (i * e + o' + j.val) undef).getD j undef) := fun j hj => by rw [Qb7 (f := fun j => cur.getD (i * e + o' + j) undef) hj]; exact Qap q6 (hin j hj)
   have hrep := Qlh (C := C) (ρ := ρ) (hp := hp) (w := w) (ag := ag) (n := n) (off := o') (x := xs[i]) (vs := Array.ofFn (n := n) fun j => cur.getD (i * e + o' + j.val) undef) (by simp) (by rw [hcl]; exact h2) h3 (fun j y hj hy => by rw [Qb7 (f := fun j => cur.getD (i * e + o' + j) undef) hj, Nat.add_assoc];exact q11 i _ hxi (o' + j) y hy);refine ⟨_, b, hlt', fun w' hw' =>?_, upd fr d _, hp, by rw [hd]; exact h.upd hrep hlt, hK⟩;have := Qdc (P := C.P) (b := b) (off := i * e + o') (vs := Array.ofFn (n := n) fun j => cur.getD (i * e + o' + j.val) undef) hn hag h3 (by simp) w' (fun j hj => by rw [Qby hw']; exact hvs j hj);unfold execOp;simp only [ho, g3, Sem.run_bind, Instr.loadAt, Instr.sureAddr, Sem.run_pure, Result.andThen_ok, this]
  ·exact hv.elim
 ·exact hv.elim
theorem Qgt {tmps : Array Value} (h : Qg C ρ fr hp tmps w) {β b : Nat} {hb : HB} {l : List Nat} (_hB : isY β = false) (hβ : hp β = some hb) (hl : β ∈ l) (hρ : ρ β = some b) : ¬ Xof C ρ (Ql hp l) b := by
 have hblk := (h.own β hb hβ).blk;rw [hρ] at hblk;rintro (hx | ⟨γ, hg, h1, h2, h3⟩)
 ·exact Ctx.cls_notX hblk.1 (Qjs _hB) hx
 ·obtain ⟨hg0, g1, _, _, _, _, g6⟩ := Qdw h1;have := h.inj γ β b (by simp [g1]) (by simp [hβ]) h3 hρ;subst this;exact g6 h2 hl
theorem Qez {tmps : Array Value} (h : Qg C ρ fr hp tmps w) {p : PV} {v : Value} {l : List Nat} (hr : Qbh C ρ hp w p v) (hl : ∀ β ∈ p.ref1, β ∈ l) (hu : Qw hp p ≠ .undef) : Qc w (Xof C ρ (Ql hp l)) (Qw hp p) v := by
 cases p with
 | mp β i o =>
  obtain ⟨b, hb, g1, g2, rfl⟩ := hr;have hβl := hl β (by simp [PV.ref1]);have hown := h.own β hb g2;have hblk := hown.blk;rw [g1] at hblk;obtain ⟨_, hlt, cur, cap, c1, c2, c3, c4, c5⟩ := hblk;have hB : isY β = false := by
   cases hq : isY β with
   | false => rfl
   | true => simp [Qw, hq] at hu
  simp only [Qw, g2, hB] at hu ⊢;cases hx : hb.xs[i]? with
  | none => simp [hx] at hu
  | some x =>
   simp only [Bool.false_eq_true, if_false];have hi : i < hb.xs.length := (List.getElem?_eq_some_iff.1 hx).1;have hcl := (hown.len i x hx).1;refine Qc.pt _ b _ (fun j => cur.getD (i * hb.e + o + j) undef) (Qgt h hB g2 hβl g1) hlt (fun j hj =>?_) (fun j y hy =>?_)
   ·have hj' : o + (j + 1) <= hb.e := by simp [hcl] at hj; omega
    exact Qap c1 (by rw [c2]; exact Qcw (by omega) hj' (Nat.lt_succ_self j))
   ·rw [List.getElem?_drop] at hy;rw [Nat.add_assoc];exact (c5 i x hx (o + j) y hy).freeze
 | mso β o n =>
  obtain ⟨hb, g1, g2, g3⟩ := hr;have hB : isY β = false := by
   cases hq : isY β with
   | false => rfl
   | true => simp [Qw, hq] at hu
  simp only [Qw, g1, hB];rcases g3 with ⟨g3, rfl, rfl, rfl⟩ | ⟨b, cap, g3, rfl, g5, g6⟩
  ·simp only [List.take_zero]; exact .slE _ _ _ (Nat.zero_le _)
  ·have hβl := hl β (by simp [PV.ref1]);have hown := h.own β hb g1;have hblk := hown.blk;rw [g3] at hblk;obtain ⟨_, hlt, cur, cap', c1, c2, c3, c4, c5⟩ := hblk;obtain ⟨cur', ty', d1, d2⟩ := g5;rw [c1] at d1; cases d1;have hcc : o + cap = cap' := by rw [c2] at d2;exact (Nat.eq_of_mul_eq_mul_right hown.epos d2).symm
   subst hcc;have hlen : ((hb.xs.drop o).take n).length = n := by simp; omega
   have hget : ∀ (i : Nat) (x : PV), ((hb.xs.drop o).take n)[i]? = some x -> i < n /\ hb.xs[o + i]? = some x := fun i x hx => by
    have hi : i < n := by have := (List.getElem?_eq_some_iff.1 hx).1; omega
    rw [List.getElem?_take_of_lt hi, List.getElem?_drop] at hx;exact ⟨hi, hx⟩
   have := Qc.sl (w := w) (X := Xof C ρ (Ql hp l)) hb.e ((hb.xs.drop o).take n) b (o * hb.e) cap (fun i j => cur.getD ((o + i) * hb.e + j) undef) (Qgt h hB g1 hβl g3) hlt (by omega) (by omega)
    (fun i x hx => (hown.len _ x (hget i x hx).2).1)
    (fun i hi j hj => by rw [hlen] at hi;have := Qcw (i := o + i) (e := hb.e) (o := 0) (j := j) (n := hb.e) (cap := o + cap) (by omega) (by omega) hj;rw [Nat.add_zero] at this;rw [show o * hb.e + i * hb.e + j = (o + i) * hb.e + j by rw [Nat.add_mul]];exact Qap c1 (by rw [c2]; exact this))
    (fun i x hx j y hy => (c5 _ x (hget i x hx).2 j y hy).freeze)
   rwa [hlen] at this
 | undef => simp [Qw] at hu
 | rb => simp [Qw] at hu
 | nso => simp [Qw] at hu
 | np => simp [Qw] at hu
 | rag => simp [Qw] at hu
 | rtp => simp [Qw] at hu
 | rtq => simp [Qw] at hu
 | nst => simp [Qw] at hu
 | _ => exact Qc.freeze hr
theorem Qli {p : PV} (h : p.notU = true) : p ≠ .undef := by cases p <;> simp [PV.notU] at h ⊢
theorem Qiw {p : PV} (h : p.isData = true) : p ≠ .undef := by cases p <;> simp [PV.isData] at h ⊢
theorem Qb0 {tmps : Array Value} (h : Qg C ρ fr hp tmps w) {p : PV} {v : Value} {l : List Nat} (hr : Qb C ρ hp w p v) (hl : ∀ β ∈ p.refs, β ∈ l) (hd : (Qh hp p).isData = true) : Qk w (Xof C ρ (Ql hp l)) (Qh hp p) v := by
 cases p with
 | fn f first cap =>
  obtain ⟨fv, cv, rfl, h1, h2, h3, h4⟩ := hr;simp only [Qh, PV.isData, Bool.and_eq_true, List.all_eq_true, List.mem_map, forall_exists_index, and_imp, forall_apply_eq_imp_iff₂] at hd;refine Qc.fn f _ _ fv cv (by simp [h1]) (by simp [h2]) (fun i x hx =>?_) (fun i x hx =>?_)
  ·simp only [List.getElem?_map, Option.map_eq_some_iff] at hx;obtain ⟨y, hy, rfl⟩ := hx;exact Qez h (h3 i y hy) (fun β hβ => hl β (Qfd hy β hβ)) (Qli (hd.1 y (List.mem_of_getElem? hy)))
  ·simp only [List.getElem?_map, Option.map_eq_some_iff] at hx;obtain ⟨y, hy, rfl⟩ := hx;exact Qez h (h4 i y hy) (fun β hβ => hl β (Qf7 hy β hβ)) (Qli (hd.2 y (List.mem_of_getElem? hy)))
 | mp β i o => exact Qk.of_c (Qez (p :=.mp β i o) h hr hl (Qiw hd))
 | mso β o n => exact Qk.of_c (Qez (p :=.mso β o n) h hr hl (Qiw hd))
 | undef => simp [Qh, Qw, PV.isData] at hd
 | rb => simp [Qh, Qw, PV.isData] at hd
 | nso => simp [Qh, Qw, PV.isData] at hd
 | np => simp [Qh, Qw, PV.isData] at hd
 | rag => simp [Qh, Qw, PV.isData] at hd
 | rtp => simp [Qh, Qw, PV.isData] at hd
 | rtq => simp [Qh, Qw, PV.isData] at hd
 | nst => simp [Qh, Qw, PV.isData] at hd
 | tup ps => simp [Qh, Qw, PV.isData] at hd
 | agg cs => exact Qk.mono (p :=.agg cs) hr (fun _ _ _ => rfl) (fun _ _ hn hx => hn (Qfq hx)) (Nat.le_refl _)
 | _ => exact Qc.freeze hr
end Go.FW
