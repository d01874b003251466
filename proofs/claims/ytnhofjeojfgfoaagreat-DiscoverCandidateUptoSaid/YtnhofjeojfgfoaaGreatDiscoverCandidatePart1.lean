/- Part 1 of the proof of DiscoverCandidate: FwA, FwRA, FwRB, FwRC, FwRD. Own lemmas; no conditions. -/
import Derived.Test.YtnhofjeojfgfoaaGreatDiscoverCandidatePart0
import Derived.WalkKit
import Derived.RangeFuncNested
import Derived.Laws.AppendOwn
import Derived.OrdersIn
import Derived.TacticsIn
import Derived.BigFrameIn
import Derived.Maps.AppendAt
import Derived.Deep.AppendSrc
import Derived.OwnWalkIn
set_option maxHeartbeats 1000000
set_option linter.unusedSimpArgs false
set_option linter.unusedVariables false
set_option linter.unnecessarySimpa false
set_option maxRecDepth 100000
namespace Go.FW
open Go
inductive PV where
 | undef
 | int (k : IntKind) (n : Int)
 | bool (b : Bool)
 | nilS
 | sl (e : Nat) (xs : List PV)
 | agg (cs : List PV)
 | tup (vs : List PV)
 | fn (f : FuncId) (first cap : List PV)
 | pt (cs : List PV)
 | mp (β i o : Nat)
 | mso (β o n : Nat)
 | rb (β o n : Nat)
 | nso (γ o n : Nat)
 | np (γ i o : Nat)
 | rag (cs : List PV)
 | rtp (cs : List PV)
 | nst (γ e ty : Nat) (xs : List PV)
 | str (s : ByteArray)
 | rtq (cs : List PV) (q : PV)
 deriving Inhabited
abbrev PV.ms (β n : Nat) : PV :=.mso β 0 n
def PV.cells : PV -> List PV
 |.agg cs => cs
 | x => [x]
def PV.ncells : PV -> List PV
 |.rag cs => cs
 | x => x.cells
def PV.notU : PV -> Bool
 |.undef => false
 | _ => true
def PV.isData : PV -> Bool
 |.int .. | .bool _ | .nilS | .sl .. | .agg _ | .pt _ | .str _ => true
 |.fn _ first cap => first.all PV.notU && cap.all PV.notU
 | _ => false
inductive Qd (w : World) (X : Nat -> Prop) : PV -> Value -> Prop
 | int (k : IntKind) (n : Int) : Qd w X (.int k n) (.int k n)
 | bool (b : Bool) : Qd w X (.bool b) (.bool b)
 | str (s : ByteArray) : Qd w X (.str s) (.string s)
 | nilS : Qd w X .nilS (.slice none 0 0)
 | slE (e : Nat) (a : Option Addr) (cap : Nat) (hc : cap <= maxLen) : Qd w X (.sl e []) (.slice a 0 cap)
 | sl (e : Nat) (xs : List PV) (b off cap : Nat) (vs : Nat -> Nat -> Value) (hX : ¬ X b) (hb : b < w.heap.size) (hl : xs.length <= cap) (hc : cap <= maxLen)
   (he : ∀ (i : Nat) (x : PV), xs[i]? = some x -> x.cells.length = e)
   (hv : ∀ i, i < xs.length -> ∀ j, j < e -> w.cell? ⟨b, off + i * e + j, none⟩ = some (vs i j))
   (hr : ∀ (i : Nat) (x : PV), xs[i]? = some x -> ∀ (j : Nat) (y : PV), x.cells[j]? = some y -> Qd w X y (vs i j)) :
   Qd w X (.sl e xs) (.slice (some ⟨b, off, none⟩) xs.length cap)
 | pt (cs : List PV) (b off : Nat) (vs : Nat -> Value) (hX : ¬ X b) (hb : b < w.heap.size)
   (hv : ∀ j, j < cs.length -> w.cell? ⟨b, off + j, none⟩ = some (vs j))
   (hr : ∀ (j : Nat) (y : PV), cs[j]? = some y -> Qd w X y (vs j)) :
   Qd w X (.pt cs) (.pointer (some ⟨b, off, none⟩))
 | fn (f : FuncId) (first cap : List PV) (fv cv : Array Value) (h1 : fv.size = first.length) (h2 : cv.size = cap.length)
   (hr1 : ∀ (i : Nat) (x : PV), first[i]? = some x -> Qd w X x (fv.getD i undef)) (hr2 : ∀ (i : Nat) (x : PV), cap[i]? = some x -> Qd w X x (cv.getD i undef)) :
   Qd w X (.fn f first cap) (.func (.func f) fv cv)
structure Ext (Y : Nat -> Prop) (w w' : World) : Prop where
 os : w'.os = w.os
 tape : w'.tape = w.tape
 output : w'.output = w.output
 size : w.heap.size <= w'.heap.size
 block : ∀ b, b < w.heap.size -> ¬ Y b -> w'.heap[b]? = w.heap[b]?
theorem Ext.refl (Y : Nat -> Prop) (w : World) : Ext Y w w := ⟨rfl, rfl, rfl, Nat.le_refl _, fun _ _ _ => rfl⟩
theorem Ext.trans {Y : Nat -> Prop} {a b c : World} (h : Ext Y a b) (k : Ext Y b c) : Ext Y a c :=
  ⟨k.os.trans h.os, k.tape.trans h.tape, k.output.trans h.output, Nat.le_trans h.size k.size,
   fun i hi hY => (k.block i (Nat.lt_of_lt_of_le hi h.size) hY).trans (h.block i hi hY)⟩
theorem Ext.mono {Y Y' : Nat -> Prop} {a b : World} (h : Ext Y a b) (hY : ∀ i, i < a.heap.size -> Y i -> Y' i) : Ext Y' a b :=
 ⟨h.os, h.tape, h.output, h.size, fun i hi hn => h.block i hi (fun hy => hn (hY i hi hy))⟩
theorem Ext.trans' {Y Y' : Nat -> Prop} {a b c : World} (h : Ext Y a b) (k : Ext Y' b c) (hY : ∀ i, i < a.heap.size -> Y' i -> Y i) : Ext Y a c :=
  ⟨k.os.trans h.os, k.tape.trans h.tape, k.output.trans h.output, Nat.le_trans h.size k.size,
   fun i hi hn => (k.block i (Nat.lt_of_lt_of_le hi h.size) (fun hy => hn (hY i hi hy))).trans (h.block i hi hn)⟩
def Qi : Nat -> Prop := fun _ => False
theorem Qbz {w w' : World} {a : Addr} (h : w'.heap[a.block]? = w.heap[a.block]?) : w'.cell? a = w.cell? a := by simp [World.cell?, h]
theorem Qd.mono {w w' : World} {X X' : Nat -> Prop} {p : PV} {v : Value} (h : Qd w X p v)
  (hb : ∀ b, b < w.heap.size -> ¬ X b -> w'.heap[b]? = w.heap[b]?) (hx : ∀ b, b < w.heap.size -> ¬ X b -> ¬ X' b) (hs : w.heap.size <= w'.heap.size) : Qd w' X' p v := by
 induction h with
 | int k n => exact .int k n
 | bool b => exact .bool b
 | str s => exact .str s
 | nilS => exact .nilS
 | slE e a cap hc => exact .slE e a cap hc
 | sl e xs b off cap vs hX hb' hl hc he hv hr ih =>
  exact .sl e xs b off cap vs (hx b hb' hX) (Nat.lt_of_lt_of_le hb' hs) hl hc he
   (fun i hi j hj => by rw [Qbz (hb b hb' hX)]; exact hv i hi j hj) (fun i x hx' j y hy => ih i x hx' j y hy)
 | pt cs b off vs hX hb' hv hr ih =>exact .pt cs b off vs (hx b hb' hX) (Nat.lt_of_lt_of_le hb' hs) (fun j hj => by rw [Qbz (hb b hb' hX)]; exact hv j hj) (fun j y hy => ih j y hy)
 | fn f first cap fv cv h1 h2 hr1 hr2 ih1 ih2 => exact .fn f first cap fv cv h1 h2 ih1 ih2
theorem Qd.oneCell {w : World} {X : Nat -> Prop} {p : PV} {v : Value} (h : Qd w X p v) : v.oneCell' = true /\ v.cells = #[v] /\ p.cells = [p] := by cases h <;> exact ⟨rfl, rfl, rfl⟩
def Qn (w : World) (X : Nat -> Prop) : PV -> Value -> Prop
 |.agg cs, v => ∃ vs : Array Value, v = .agg vs /\ vs.size = cs.length /\ ∀ i x, cs[i]? = some x -> Qd w X x (vs.getD i undef)
 | p, v => Qd w X p v
def Qa6 (w : World) (X : Nat -> Prop) : PV -> Value -> Prop
 |.tup ps, v => ∃ vs : Array Value, v = .tuple vs /\ vs.size = ps.length /\ ∀ i x, ps[i]? = some x -> Qn w X x (vs.getD i undef)
 | p, v => Qn w X p v
theorem Qn.mono {w w' : World} {X X' : Nat -> Prop} {p : PV} {v : Value} (h : Qn w X p v)
  (hb : ∀ b, b < w.heap.size -> ¬ X b -> w'.heap[b]? = w.heap[b]?) (hx : ∀ b, b < w.heap.size -> ¬ X b -> ¬ X' b) (hs : w.heap.size <= w'.heap.size) : Qn w' X' p v := by
 cases p with
 | agg cs => obtain ⟨vs, rfl, h1, h2⟩ := h; exact ⟨vs, rfl, h1, fun i x hi => (h2 i x hi).mono hb hx hs⟩
 | _ => exact Qd.mono h hb hx hs
theorem Qa6.mono {w w' : World} {X X' : Nat -> Prop} {p : PV} {v : Value} (h : Qa6 w X p v)
  (hb : ∀ b, b < w.heap.size -> ¬ X b -> w'.heap[b]? = w.heap[b]?) (hx : ∀ b, b < w.heap.size -> ¬ X b -> ¬ X' b) (hs : w.heap.size <= w'.heap.size) : Qa6 w' X' p v := by
 cases p with
 | tup ps => obtain ⟨vs, rfl, h1, h2⟩ := h; exact ⟨vs, rfl, h1, fun i x hi => (h2 i x hi).mono hb hx hs⟩
 | agg cs => exact Qn.mono (p :=.agg cs) h hb hx hs
 | _ => exact Qd.mono h hb hx hs
theorem Qa6.of1 {w : World} {X : Nat -> Prop} {p : PV} {v : Value} (h : Qn w X p v) : Qa6 w X p v := by
 cases p with
 | tup ps => cases h
 | _ => exact h
theorem Qn.data {w : World} {X : Nat -> Prop} {p : PV} {v : Value} (h : Qn w X p v) : p.isData = true := by
 have hu : ∀ (x : PV) (u : Value), Qd w X x u -> x.notU = true := fun x u hx => by cases hx <;> rfl
 have hall : ∀ (l : List PV) (vs : Array Value), (∀ (i : Nat) (x : PV), l[i]? = some x -> Qd w X x (vs.getD i undef)) -> l.all PV.notU = true := fun l vs hl => by rw [List.all_eq_true];intro x hx;obtain ⟨i, hi⟩ := List.getElem?_of_mem hx;exact hu x _ (hl i x hi)
 cases p with
 | agg cs => rfl
 | fn f first cap =>
  have h' : Qd w X (.fn f first cap) v := h;cases h' with
  | fn _ _ _ fv cv h1 h2 h3 h4 => simp [PV.isData, hall _ _ h3, hall _ _ h4]
 | _ => cases h <;> rfl
theorem Qn.cells {w : World} {X : Nat -> Prop} {p : PV} {v : Value} (h : Qn w X p v) :
  v.cells.size = p.cells.length /\ ∀ j y, p.cells[j]? = some y -> Qd w X y (v.cells.getD j undef) := by
 by_cases ha : ∃ cs, p = .agg cs
 ·obtain ⟨cs, rfl⟩ := ha;obtain ⟨vs, rfl, h1, h2⟩ := h;exact ⟨h1, h2⟩
 ·have hc : Qd w X p v := by
   cases p with
   | agg cs => exact absurd ⟨cs, rfl⟩ ha
   | _ => exact h
  obtain ⟨_, h2, h3⟩ := hc.oneCell;rw [h2, h3];refine ⟨rfl, fun j y hy =>?_⟩
  match j, hy with
  | 0, hy => simp at hy; subst hy; exact hc
  | j + 1, hy => simp at hy
theorem Qn.of_c {w : World} {X : Nat -> Prop} {p : PV} {v : Value} (h : Qd w X p v) : Qn w X p v := by
 cases p with
 | agg cs => cases h
 | _ => exact h
theorem Qn.oneCells {w : World} {X : Nat -> Prop} {p : PV} {v : Value} (h : Qn w X p v) : ∀ u ∈ v.cells.toList, u.oneCell' = true := by
 intro u hu;obtain ⟨h1, h2⟩ := h.cells;obtain ⟨j, hj, rfl⟩ := List.getElem_of_mem hu;have hj' : j < v.cells.size := by simpa using hj
 have hp : j < p.cells.length := by omega
 have := (h2 j p.cells[j] (List.getElem?_eq_getElem hp)).oneCell.1;simpa [Array.getD, hj'] using this
open Go Go.RowKit
structure Qu (Y : Nat -> Prop) (w w' : World) : Prop where
 os : w'.os = w.os
 tape : w'.tape = w.tape
 output : w'.output = w.output
 size : w.heap.size <= w'.heap.size
 block : ∀ b, b < w.heap.size -> Y b -> w'.heap[b]? = w.heap[b]?
theorem Qu.refl (Y : Nat -> Prop) (w : World) : Qu Y w w := ⟨rfl, rfl, rfl, Nat.le_refl _, fun _ _ _ => rfl⟩
theorem Qu.trans {Y : Nat -> Prop} {a b c : World} (h : Qu Y a b) (k : Qu Y b c) : Qu Y a c :=
 ⟨k.os.trans h.os, k.tape.trans h.tape, k.output.trans h.output, Nat.le_trans h.size k.size, fun i hi hY => (k.block i (Nat.lt_of_lt_of_le hi h.size) hY).trans (h.block i hi hY)⟩
theorem Qu.mono {Y Y' : Nat -> Prop} {a b : World} (h : Qu Y a b) (hY : ∀ i, i < a.heap.size -> Y' i -> Y i) : Qu Y' a b :=
 ⟨h.os, h.tape, h.output, h.size, fun i hi hn => h.block i hi (hY i hi hn)⟩
theorem Ext.kept {X Y : Nat -> Prop} {a b : World} (h : Ext X a b) (hY : ∀ i, i < a.heap.size -> Y i -> ¬ X i) : Qu Y a b :=
 ⟨h.os, h.tape, h.output, h.size, fun i hi hn => h.block i hi (hY i hi hn)⟩
theorem Qu.putObj {Y : Nat -> Prop} (W : World) (l : Nat) (o : Obj) (h : ¬ Y l) : Qu Y W (W.putObj l o) :=
 ⟨rfl, rfl, rfl, by simp, fun _ _ hb => World.putObj_heap_other (fun e => h (e ▸ hb))⟩
theorem Qu.alloc (Y : Nat -> Prop) (W : World) (o : Obj) : Qu Y W (W.alloc o) :=
 ⟨rfl, rfl, rfl, by simp, fun b hb _ => Below.heap_alloc W o b hb⟩
theorem Ext.putObj {X : Nat -> Prop} (W : World) (l : Nat) (o : Obj) (h : X l) : Ext X W (W.putObj l o) :=
 ⟨rfl, rfl, rfl, by simp, fun b _ hb => World.putObj_heap_other (fun e => hb (e ▸ h))⟩
theorem Ext.alloc' (X : Nat -> Prop) (W : World) (o : Obj) : Ext X W (W.alloc o) :=
 ⟨rfl, rfl, rfl, by simp, fun b hb _ => Below.heap_alloc W o b hb⟩
def SlI (eI : TypeId) (v : Value) (c : List Int) (W : World) : Prop := W.ownsRow 0 eI 1 v c.length (c.map (Value.int .i64))
theorem SlI.lt {eI : TypeId} {v : Value} {c : List Int} {W : World} (h : SlI eI v c W) {b : Nat} (hb : v.ownBlock = some b) : ∃ cur, W.heap[b]? = some (.cells cur eI (0, 0)) := by
 rcases h.2 with ⟨rfl, _⟩ | ⟨g, cap, cur, rfl, _, hg, _⟩
 ·cases hb
 ·cases hb;exact ⟨cur, hg⟩
theorem SlI.kept {eI : TypeId} {v : Value} {c : List Int} {W W' : World} (h : SlI eI v c W) (hk : ∀ b, v.ownBlock = some b -> W'.heap[b]? = W.heap[b]?) : SlI eI v c W' := by
 refine ⟨h.1, ?_⟩;rcases h.2 with h2 | ⟨g, cap, cur, rfl, h3, hg, h4⟩
 ·exact .inl h2
 ·exact .inr ⟨g, cap, cur, rfl, h3, (hk g rfl).trans hg, h4⟩
structure Qu8 {γ : Type} (J : List γ -> (Nat -> Prop) -> World -> Prop) : Prop where
 kept : ∀ s Y W W', J s Y W -> Qu Y W W' -> J s Y W'
 lt : ∀ s Y W, J s Y W -> ∀ b, Y b -> b < W.heap.size
structure Qca (Y : Nat -> Prop) (U : Option Nat) (W : World) (Y' : Nat -> Prop) (W' : World) : Prop where
 own : ∀ b, Y' b -> Y b ∨ W.heap.size <= b ∨ U = some b
 ext : Ext Y W W'
def Qfl (F : Fence) (P : Program) (g : Nat) (lb : Array Value) (eI : TypeId) (B : Nat -> Prop) (xs : List (List Int)) (w : World) : Prop :=
 ∀ (n l : Nat) (J : List (List Int) -> (Nat -> Prop) -> World -> Prop) (Y0 : Nat -> Prop) (W : World), Qu B w W -> Qu8 J -> (∀ b, Y0 b -> ¬ B b) ->
  (∀ m pre c suf v Y W1, xs = pre ++ c :: suf -> J pre Y W1 -> SlI eI v c W1 -> (∀ b, v.ownBlock = some b -> ¬ Y b /\ W.heap.size <= b) ->
   YieldAt F m P l #[v] W1 fun e W' => e = .returned (.bool true) /\ ∃ Y', J (pre ++ [c]) Y' W' /\ Qca Y v.ownBlock W1 Y' W') ->
  J [] Y0 W ->
  CallsIn F n P g (#[.func (.yield l) #[] #[]] ++ lb) W fun e W' => (∃ v, e = .returned v) /\ ∃ Y', J xs Y' W' /\ Qca Y0 none W Y' W'
theorem RoundIn.depth0 {F : Fence} (hd : F.depth = none) {m m' : Nat} {P : Program} {l : Nat} {f : FuncId} {tmps : Array Value} {assign body : Code} {w : World} {R : Ending -> World -> Prop}
  (h : RoundIn F m P l f tmps assign body w R) : RoundIn F m' P l f tmps assign body w R := ⟨h.1, fun c cs _ => h.2 c cs (fun d h => by rw [hd] at h; cases h)⟩
theorem CallsIn.depth0 {F : Fence} (hd : F.depth = none) {m m' : Nat} {P : Program} {f : FuncId} {args : Array Value} {w : World} {R : Ending -> World -> Prop}
  (h : CallsIn F m P f args w R) : CallsIn F m' P f args w R := ⟨h.1, fun cs _ => h.2 cs (fun d h => by rw [hd] at h; cases h)⟩
variable {F : Fence} {n : Nat} {P : Program} {w : World}
def Qhi (I : List (List Int) -> (Nat -> Prop) -> World -> Prop) (s : List (List Int)) (Y : Nat -> Prop) (U : Option Nat) (W : World) : Exit -> Act -> World -> Prop
 |.normal, _, W' => ∃ Y', I s Y' W' /\ Qca Y U W Y' W'
 | _, _, _ => False
theorem Qie {g : Operand} {ps : Array Tmp} {assign body : Code} {Q : Exit -> Act -> World -> Prop} {a : Act} {eI : TypeId} {B : Nat -> Prop} {xs : List (List Int)} {w0 : World}
  (hro : F.round = none) (hd : F.depth = none) {gf : Nat} {lb : Array Value} (hg : a.eval g = .func (.func gf) #[] lb) (hFg : F.fn gf) (eg : ∀ args w, (callFunc gf args).run P w = .ok (.enter gf args) w)
  (hseq : Qfl F P gf lb eI B xs w0) (hw : Qu B w0 w) (hBlt : ∀ b, B b -> b < w0.heap.size) (hps : ps.size = 1)
  (I : List (List Int) -> (Nat -> Prop) -> World -> Prop) (hI : Qu8 I) (Y0 : Nat -> Prop) (hY0 : ∀ b, Y0 b -> ¬ B b) (h0 : I [] Y0 w) (a₁ : Value -> Act)
  (hassign : ∀ (l : Nat) (v : Value) (W : World) (K : Act -> World -> Prop), K (a₁ v) W ->
   assign.wpIn (F.inRound l) (n - 1 - 1) P (Exit.then K (fun _ _ _ => False)) { tmps := (ps.zip #[v]).foldl (fun t (p, v) => t.setIfInBounds p v) a.tmps, defers := [] } W)
  (hbody : ∀ (l : Nat) (pre : List (List Int)) (c : List Int) (suf : List (List Int)) (v : Value) (Y : Nat -> Prop) (W : World), xs = pre ++ c :: suf -> w.heap.size <= W.heap.size -> I pre Y W -> SlI eI v c W -> (∀ b, v.ownBlock = some b -> ¬ Y b /\ w.heap.size <= b) ->
   body.wpIn (F.inRound l) (n - 1 - 1) P (Qhi I (pre ++ [c]) Y v.ownBlock W) (a₁ v) W)
  (hdone : ∀ (D : Nat) (Y' : Nat -> Prop) (W : World), w.heap.size <= D -> ¬ Y' D -> I xs Y' W -> Qca Y0 none w Y' W -> W.heap[D]? = some (.deferred (some [])) -> Q .normal { a with defers := { target :=.collected D, args := #[] } :: a.defers } W) :
  (Code.rangeFunc g ps assign body).wpIn F n P Q a w := by
 refine wpIn_rangeFunc ?_;intro fn hfn;rw [hro];obtain ⟨rec, hrec⟩ : ∃ rec : LoopState -> Option Code -> Loop, rec = fun st pe => { state := st, pending := pe, fn, tmps := a.tmps, params := ps, assign, body, defers := w.heap.size } := ⟨_, rfl⟩
 obtain ⟨W1, hW1⟩ : ∃ W1, (w.alloc (.deferred (some []))).alloc (.loop (rec .ready none)) = W1 := ⟨_, rfl⟩
 have hL1 : W1.heap[w.heap.size + 1]? = some (.loop (rec .ready none)) := by rw [<- hW1]; have := World.alloc_heap_new (w.alloc (.deferred (some []))) (.loop (rec .ready none)); rwa [World.size_alloc] at this
 have hK1 : W1.heap[w.heap.size]? = some (.deferred (some [])) := by rw [<- hW1]; exact (Below.heap_alloc _ _ _ (by simp)).trans (World.alloc_heap_new w _)
 have hsz : W1.heap.size = w.heap.size + 2 := by rw [<- hW1]; simp
 have hkw : ∀ Y, Qu Y w W1 := fun Y => by rw [<- hW1]; exact (Qu.alloc Y _ _).trans (Qu.alloc Y _ _)
 have hew : ∀ Y, Ext Y w W1 := fun Y => by rw [<- hW1]; exact (Ext.alloc' Y _ _).trans (Ext.alloc' Y _ _)
 have hI1 : I [] Y0 W1 := hI.kept _ _ _ _ h0 (hkw _);have hYw := hI.lt _ _ _ h0;refine ⟨w.heap.size + 1, [{ target :=.collected w.heap.size, args := #[] }], W1, { target :=.fn (.func gf) lb, args := #[.func (.yield (w.heap.size + 1)) #[] #[]] }, W1, gf,
  #[.func (.yield (w.heap.size + 1)) #[] #[]] ++ lb, W1, ?_, ?_, ?_, ?_, ?_, ?_⟩
 ·rw [<- hW1, hrec]; exact run_enterLoop_outer _ _ _ _ _
 ·simp only [resolve, hg];simp [go_sem]
 ·intro f' hf'; simp [Target.leads] at hf'; subst hf'; exact hFg
 ·simp [invoke, go_sem, eg]
 ·intro h; rw [hd] at h; cases h
 ·
  refine (hseq (n - 1) (w.heap.size + 1)
   (fun pre Y W => ∃ Yi, (∀ b, Y b ↔ Yi b ∨ b = w.heap.size ∨ b = w.heap.size + 1) /\ (∀ b, Yi b -> b ≠ w.heap.size /\ b ≠ w.heap.size + 1) /\ I pre Yi W /\ W.heap[w.heap.size + 1]? = some (.loop (rec .ready none)) /\ W.heap[w.heap.size]? = some (.deferred (some [])))
   (fun b => Y0 b ∨ b = w.heap.size ∨ b = w.heap.size + 1)
   W1 (hw.trans (hkw _)) ⟨?_, ?_⟩ ?_ ?_ ⟨Y0, fun _ => Iff.rfl, fun b hb => by have := hYw b hb; omega, hI1, hL1, hK1⟩).mono ?_
  ·rintro s Y W W' ⟨Yi, h1, h2, h3, h4, h5⟩ hk;exact ⟨Yi, h1, h2, hI.kept _ _ _ _ h3 (hk.mono fun b _ hb => (h1 b).2 (.inl hb)), (hk.block _ (Array.getElem?_eq_some_iff.1 h4).1 ((h1 _).2 (by simp))).trans h4, (hk.block _ (Array.getElem?_eq_some_iff.1 h5).1 ((h1 _).2 (by simp))).trans h5⟩
  ·rintro s Y W ⟨Yi, h1, h2, h3, h4, h5⟩ b hb;rcases (h1 b).1 hb with h | rfl | rfl
   ·exact hI.lt _ _ _ h3 b h
   ·exact (Array.getElem?_eq_some_iff.1 h5).1
   ·exact (Array.getElem?_eq_some_iff.1 h4).1
  ·rintro b (h | rfl | rfl) hB
   ·exact hY0 b h hB
   ·have := hBlt _ hB; have := hw.size; omega
   ·have := hBlt _ hB; have := hw.size; omega
  ·
   rintro m pre c suf v Y W hxs ⟨Yi, hY, hYi, hi, hl, hk⟩ hv hvY;have hlt : w.heap.size + 1 < W.heap.size := (Array.getElem?_eq_some_iff.1 hl).1;have hy := run_yield (P := P) (args := #[v]) hl (by rw [hrec]; simp [hps]);rw [hrec] at hy;have hvl : v.ownBlock ≠ some (w.heap.size + 1) := fun e => by obtain ⟨cur, h⟩ := hv.lt e;rw [hl] at h; cases h
   have hvl2 : v.ownBlock ≠ some w.heap.size := fun e => by obtain ⟨cur, h⟩ := hv.lt e;rw [hk] at h; cases h
   obtain ⟨W2, hW2⟩ : ∃ W2, W.putObj (w.heap.size + 1) (.loop { rec .ready none with state :=.busy }) = W2 := ⟨_, rfl⟩
   have hsz2 : W2.heap.size = W.heap.size := by rw [<- hW2]; simp
   have hl2 : W2.heap[w.heap.size + 1]? = some (.loop { rec .ready none with state :=.busy }) := by rw [<- hW2]; exact World.putObj_heap_same hlt
   have hk2 : W2.heap[w.heap.size]? = some (.deferred (some [])) := by rw [<- hW2]; exact (World.putObj_heap_other (by omega)).trans hk
   refine ⟨fn, _, assign, body, hy, RoundIn.depth0 hd (roundIn_of_wpIn hfn (hassign _ v W _ ⟨_, run_beginRound hl (by rw [hrec]), ?_⟩))⟩;rw [hW2];refine wpIn_mono (hbody _ pre c suf v Yi W2 hxs (by omega) (hI.kept _ _ _ _ hi (by rw [<- hW2]; exact Qu.putObj _ _ _ (fun h => (hYi _ h).2 rfl))) (hv.kept fun b hb => by rw [<- hW2]; exact World.putObj_heap_other (fun e => hvl (by rw [hb, e]))) (fun b hb => ⟨fun h => (hvY b hb).1 ((hY b).2 (.inl h)), by have := (hvY b hb).2; omega⟩)) ?_;rintro e a3 W3 hp;cases e with
   | normal =>
    obtain ⟨Y', hi3, hown, hext⟩ := hp;have hl3 := (hext.block _ (Array.getElem?_eq_some_iff.1 hl2).1 (fun h => (hYi _ h).2 rfl)).trans hl2;have hk3 := (hext.block _ (Array.getElem?_eq_some_iff.1 hk2).1 (fun h => (hYi _ h).1 rfl)).trans hk2;have hr := run_endRound (P := P) none hl3;have hY'ne : ∀ b, Y' b -> b ≠ w.heap.size /\ b ≠ w.heap.size + 1 := fun b hb => by
     rcases hown b hb with h | h | h
     ·exact hYi b h
     ·omega
     ·exact ⟨fun e => hvl2 (by rw [h, e]), fun e => hvl (by rw [h, e])⟩
    refine ⟨_, _, hr, rfl, fun b => Y' b ∨ b = w.heap.size ∨ b = w.heap.size + 1, ⟨Y', fun _ => Iff.rfl, hY'ne, hI.kept _ _ _ _ hi3 (Qu.putObj _ _ _ (fun h => (hY'ne _ h).2 rfl)), ?_, (World.putObj_heap_other (by omega)).trans hk3⟩, ?_, ?_⟩
    ·rw [World.putObj_heap_same (Array.getElem?_eq_some_iff.1 hl3).1, hrec];rfl
    ·rintro b (h | rfl | rfl)
     ·rcases hown b h with h | h | h
      ·exact .inl ((hY b).2 (.inl h))
      ·exact .inr (.inl (by omega))
      ·exact .inr (.inr h)
     ·exact .inl ((hY _).2 (by simp))
     ·exact .inl ((hY _).2 (by simp))
    ·refine Ext.trans (b := W2) ?_ (Ext.trans (hext.mono fun b _ h => (hY b).2 (.inl h)) (Ext.putObj _ _ _ ((hY _).2 (by simp))));rw [<- hW2]; exact Ext.putObj _ _ _ ((hY _).2 (by simp))
   | ret => exact hp.elim
   | exit id => exact hp.elim
   | goto t => exact hp.elim
   | panic ch => exact hp.elim
   | outgrown => exact hp.elim
  ·
   rintro e W2 ⟨⟨v, rfl⟩, Y', ⟨Yi, hY, hYi, hi, hl, hk⟩, hown, hext⟩;refine ⟨none, _, by have := run_endLoop (P := P) hl (by rw [hrec]; simp); rw [hrec] at this; exact this, hdone _ Yi _ (Nat.le_refl _) (fun h => (hYi _ h).1 rfl) (hI.kept _ _ _ _ hi (Qu.putObj _ _ _ (fun h => (hYi _ h).2 rfl))) ⟨fun b hb =>?_, ?_⟩ ((World.putObj_heap_other (by omega)).trans hk)⟩
   ·rcases hown b ((hY b).2 (.inl hb)) with (h | h | h) | h | h
    ·exact .inl h
    ·exact absurd h (hYi b hb).1
    ·exact absurd h (hYi b hb).2
    ·exact .inr (.inl (by omega))
    ·cases h
   ·refine ⟨hext.os.trans (hew Y0).os, hext.tape.trans (hew Y0).tape, hext.output.trans (hew Y0).output, by have := hext.size; simp; omega, fun b hb hn =>?_⟩;rw [World.putObj_heap_other (by omega)];exact (hext.block b (by omega) (fun h => by rcases h with h | h | h; exact hn h; omega; omega)).trans ((hew Y0).block b hb hn)
end Go.FW
namespace Go.FW
open Go Go.RowKit
section
variable {F : Fence} {n : Nat} {P : Program} {ops : Array Oper} {Q : Exit -> Act -> World -> Prop}
def unI : List Bool -> Nat
 | [] => 0
 | true :: l => unI l
 | false :: l => unI l + 1
theorem Qlw : ∀ {l : List Bool} {i : Nat}, l[i]? = some false -> unI (l.set i true) + 1 = unI l
 | [], i, h => by simp at h
 | b :: l, 0, h => by simp at h; subst h; simp [unI]
 | b :: l, i + 1, h => by simp at h;have := Qlw h;cases b <;> simp [unI] <;> omega
theorem Qlx : ∀ (n : Nat), unI (List.replicate n false) = n
 | 0 => rfl
 | n + 1 => by simp [List.replicate_succ, unI, Qlx n]
theorem Qjz : ∀ {l : List Bool} {i : Nat}, unI l = 0 -> l[i]? ≠ some false
 | [], i, _ => by simp
 | true :: l, 0, _ => by simp
 | true :: l, i + 1, h => by simpa using Qjz (l := l) (i := i) (by simpa [unI] using h)
 | false :: l, _, h => by simp [unI] at h
def lsI (l : Array Bool) : Nat -> Bool := fun i => l.getD i false
theorem Qtb {l : Array Bool} {i : Nat} (h : l.getD i true = false) : lsI (l.setIfInBounds i true) = fun k => k == i || lsI l k := by
 funext k;unfold lsI;have hi : i < l.size := by
  rcases Nat.lt_or_ge i l.size with h' | h'
  ·exact h'
  ·simp [Array.getElem?_eq_none h'] at h
 by_cases hk : i = k
 ·subst hk; simp [hi]
 ·rw [getD_set_ne false hk]; simp [Ne.symm hk]
def afI (ops : Array Oper) (i : Nat) : List Nat := match ops[i]? with
 | some o => (o.after.toList.filter (Region.binds .any)).map (·.on)
 | none => []
theorem Qnz (I : (Nat -> Bool) -> Act -> World -> Prop)
  (hlt : ∀ i, i < ops.size -> ∀ k ∈ afI ops i, k < i)
  (hstep : ∀ l i, i < ops.size -> l i = false -> (∀ k ∈ afI ops i, l k = true) -> ∀ a w, I l a w -> wpOpIn F n P ops Q i (I (fun k => k == i || l k)) a w)
  (hend : ∀ l a w, (∀ i, i < ops.size -> l i = true) -> I l a w -> Q .normal a w) :
  ∀ (m : Nat) (l : Array Bool) (a : Act) (w : World), unI l.toList = m -> l.size = ops.size -> I (lsI l) a w -> wpAnyIn F n P .any ops Q m l a w := by
 have fin : ∀ (l : Array Bool), Region.ready .any ops l = [] -> l.size = ops.size -> ∀ i, i < ops.size -> lsI l i = true := by
  intro l hr hz i;induction i using Nat.strongRecOn with
  | ind i ih =>
   intro hi;cases h : lsI l i with
   | true => rfl
   | false =>
    exfalso;have ho : ops[i]? = some ops[i] := by simp [hi]
    have : i ∈ Region.ready .any ops l := by
     refine mem_ready.2 ⟨?_, _, ho, ?_⟩
     ·unfold lsI at h;have hil : i < l.size := by omega
      simp [hil] at h ⊢;exact h
     ·intro e he hb;have hk : e.on ∈ afI ops i := by unfold afI;rw [ho];exact List.mem_map.2 ⟨e, List.mem_filter.2 ⟨by simpa using he, hb⟩, rfl⟩
      have hki := hlt i hi _ hk;exact ih e.on hki (by omega)
    rw [hr] at this; cases this
 intro m;induction m with
 | zero =>
  intro l a w hn hz hI;have hr : Region.ready .any ops l = [] := by
   cases h : Region.ready .any ops l with
   | nil => rfl
   | cons i is =>
    have hm : i ∈ Region.ready .any ops l := by rw [h]; exact List.mem_cons_self
    obtain ⟨h1, _⟩ := mem_ready.1 hm;refine absurd ?_ (Qjz (i := i) hn);rcases Nat.lt_or_ge i l.size with h' | h'
    ·simp [h'] at h1 ⊢; exact h1
    ·simp [Array.getElem?_eq_none h'] at h1
  exact ⟨hr, hend _ a w (fin l hr hz) hI⟩
 | succ m ih =>
  intro l a w hn hz hI;refine ⟨fun hr => hend _ a w (fin l hr hz) hI, fun i hi =>?_⟩;obtain ⟨h1, o, ho, h2⟩ := mem_ready.1 hi;have hil : i < l.size := by
   rcases Nat.lt_or_ge i l.size with h' | h'
   ·exact h'
   ·simp [Array.getElem?_eq_none h'] at h1
  have hls : lsI l i = false := by unfold lsI;simp [hil] at h1 ⊢;exact h1
  refine wpOpIn_mono (fun a' w' hA =>?_) (hstep (lsI l) i (by omega) hls ?_ a w hI)
  ·have := Qlw (l := l.toList) (i := i) (by simp [hil] at h1 ⊢; exact h1);exact ih _ a' w' (by rw [Array.toList_setIfInBounds]; omega) (by simpa using hz) (by rw [Qtb h1]; exact hA)
  ·intro k hk;unfold afI at hk;rw [ho] at hk;obtain ⟨e, he, rfl⟩ := List.mem_map.1 hk;obtain ⟨he, hb⟩ := List.mem_filter.1 he;exact h2 e (by simpa using he) hb
theorem Qqc {id : Nat} {a : Act} {w : World} (hm : P.follows .mixedOrders = true) (I : (Nat -> Bool) -> Act -> World -> Prop)
  (hlt : ∀ i, i < ops.size -> ∀ k ∈ afI ops i, k < i) (h0 : I (fun _ => false) a w.drew)
  (hstep : ∀ l i, i < ops.size -> l i = false -> (∀ k ∈ afI ops i, l k = true) -> ∀ a w, I l a w -> wpOpIn F n P ops Q i (I (fun k => k == i || l k)) a w)
  (hend : ∀ l a w, (∀ i, i < ops.size -> l i = true) -> I l a w -> Q .normal a w) : (Code.region id ops true).wpIn F n P Q a w := by
 refine wpIn_region_any hm (Qnz I hlt hstep hend _ _ a _ ?_ (by simp) ?_)
 ·rw [Array.toList_replicate, Qlx]
 ·have : lsI (Array.replicate ops.size false) = fun _ => false := by funext k; unfold lsI; simp [Array.getD]
  rw [this]; exact h0
theorem Qly {tmps : Array Value} {d k : Nat} {v : Value} (h : d ≠ k) : (tmps.setIfInBounds d v)[k]?.getD undef = tmps[k]?.getD undef := by simp [Array.getElem?_setIfInBounds_ne h]
structure Qbt (ops : Array Oper) (N : Nat) (V : Nat -> Value) (Z : List (Nat × Value)) (Wd : (Nat -> Bool) -> World -> Prop) (l : Nat -> Bool) (a : Act) (w : World) : Prop where
 d0 : a.defers = []
 sz : a.tmps.size = N
 fixed : ∀ z ∈ Z, a.tmps[z.1]?.getD undef = z.2
 slot : ∀ i o d, l i = true -> ops[i]? = some o -> o.dst = some d -> a.tmps[d]?.getD undef = V i
 cl : ∀ j, l j = true -> ∀ k ∈ afI ops j, l k = true
 wd : Wd l w
def apI (ops : Array Oper) (N : Nat) (Z : List (Nat × Value)) (i : Nat) : Bool :=
 match (ops[i]?).bind (·.dst) with
 | some d => decide (d < N) && Z.all (fun z => z.1 != d) && (List.range ops.size).all fun j => j == i || (ops[j]?).bind (·.dst) != some d
 | none => false
variable {N : Nat} {V : Nat -> Value} {Z : List (Nat × Value)} {Wd : (Nat -> Bool) -> World -> Prop} {l : Nat -> Bool} {a : Act} {w w' : World} {i : Nat}
theorem Qbt.put (h : Qbt ops N V Z Wd l a w) (hpr : ∀ k ∈ afI ops i, l k = true) (ha : apI ops N Z i = true) {o : Oper} (ho : ops[i]? = some o) (hw : Wd (fun k => k == i || l k) w') :
  Qbt ops N V Z Wd (fun k => k == i || l k) (a.put o.dst (V i)) w' := by
 unfold apI at ha;rw [ho] at ha;cases hd : o.dst with
 | none => simp [hd] at ha
 | some d =>
  simp only [Option.bind_some, hd, Bool.and_eq_true, decide_eq_true_eq, List.all_eq_true, List.mem_range, bne_iff_ne, Bool.or_eq_true, beq_iff_eq] at ha;obtain ⟨⟨h1, h2⟩, h3⟩ := ha;have hp : a.put (some d) (V i) = { a with tmps := a.tmps.setIfInBounds d (V i) } := rfl;rw [hp];refine ⟨h.d0, by simp [h.sz], fun z hz =>?_, fun j oj dj hj hoj hdj =>?_, fun j hj k hk =>?_, hw⟩
  ·rw [<- h.fixed z hz];have := h2 z hz;simp only;rw [Qly (Ne.symm this)]
  ·simp only;by_cases hji : j = i
   ·subst hji;rw [ho] at hoj; cases hoj;rw [hd] at hdj; cases hdj;simp [h.sz, h1]
   ·have hjs : j < ops.size := (Array.getElem?_eq_some_iff.1 hoj).1;have h4 := (h3 j hjs).resolve_left hji;rw [hoj] at h4;have h5 : dj ≠ d := fun e => h4 (by simp [hdj, e]);rw [Qly (Ne.symm h5)];exact h.slot j oj dj (by have : (j == i) = false := (by simpa using hji); rw [this] at hj; simpa using hj) hoj hdj
  ·by_cases hji : j = i
   ·subst hji; simp [hpr k hk]
   ·have : (j == i) = false := by simpa using hji
    rw [this] at hj;simp [h.cl j (by simpa using hj) k hk]
theorem Qbt.val (h : Qbt ops N V Z Wd l a w) (hpr : ∀ k ∈ afI ops i, l k = true) (ha : apI ops N Z i = true) {o : Oper} (ho : ops[i]? = some o) (hg : Region.wanted o (yielded ops a.tmps) = true)
  (hab : o.about P w a.eval = none) (hop : ∀ c, o.op ≠ .defer c) (hrun : (execOp a.eval o).run P w = .ok (.value (V i)) w') (hw : Wd (fun k => k == i || l k) w') :
  wpOpIn F n P ops Q i (Qbt ops N V Z Wd (fun k => k == i || l k)) a w := by
 unfold wpOpIn;rw [ho];simp only [hg, if_true];refine ⟨fun f hf => (by rw [hab] at hf; cases hf), ?_⟩;have : o.semAt F.round a.eval = execOp a.eval o := by
  cases F.round with
  | none => simp [Oper.semAt]
  | some l => exact Oper.semAt_some l _ _ hop
 rw [this, hrun];exact h.put hpr ha ho hw
theorem Qbt.skip (h : Qbt ops N V Z Wd l a w) (hpr : ∀ k ∈ afI ops i, l k = true) (ha : apI ops N Z i = true) {o : Oper} (ho : ops[i]? = some o) (hg : Region.wanted o (yielded ops a.tmps) = false)
  (hab : ∀ f, o.about P w a.eval = some f -> F.fn f) (hV : V i = undef) (hw : Wd (fun k => k == i || l k) w) : wpOpIn F n P ops Q i (Qbt ops N V Z Wd (fun k => k == i || l k)) a w := by
 unfold wpOpIn;rw [ho];simp only [hg, Bool.false_eq_true, if_false];have := h.put hpr ha ho hw;rw [hV] at this;exact ⟨hab, this⟩
theorem Qbt.yld (h : Qbt ops N V Z Wd l a w) (hpr : ∀ k ∈ afI ops i, l k = true) (hd : F.depth = none) (ha : apI ops N Z i = true) {o : Oper} (ho : ops[i]? = some o) (hg : Region.wanted o (yielded ops a.tmps) = true) {c : Call} (hop : o.op = .call c) {f x : Operand} {ty : Array TypeId}
  (hc : c = { callee :=.value f, args := #[x], argTypes := ty }) {y : Nat} (hf : a.eval f = .func (.yield y) #[] #[]) {v : Value} (hx : a.eval x = v) {R : Ending -> World -> Prop} {m : Nat} (hy : YieldAt F m P y #[v] w R)
  (hR : ∀ e w', R e w' -> e = .returned (V i) /\ Wd (fun k => k == i || l k) w') : wpOpIn F n P ops Q i (Qbt ops N V Z Wd (fun k => k == i || l k)) a w := by
 obtain ⟨fn, tmps, assign, body, h1, h2⟩ := hy;unfold wpOpIn;rw [ho];simp only [hg, if_true];have hres : (resolve a.eval c o.type).run P w = .ok { target :=.fn (.yield y) #[], args := #[v] } w := by subst hc;simp only [resolve, hf, List.map_toArray, List.map_cons, List.map_nil, hx];rfl
 refine ⟨fun g hgf =>?_, ?_⟩
 ·simp [Oper.about, hop, hres, Target.leads] at hgf
 ·have : o.semAt F.round a.eval = execOp a.eval o := by
   cases F.round with
   | none => simp [Oper.semAt]
   | some l => exact Oper.semAt_some l _ _ (by rw [hop]; intro c h; cases h)
  have hrun : (execOp a.eval o).run P w = .ok (.round y fn tmps assign body) w := by simp only [execOp, hop, Sem.run_bind, hres, Result.andThen];simp [go_sem, invoke, h1]
  rw [this, hrun];refine ⟨fun h => (by rw [hd] at h; cases h), (RoundIn.depth0 hd h2).mono fun e w' he =>?_⟩;obtain ⟨rfl, hw⟩ := hR e w' he;exact h.put hpr ha ho hw
theorem Qbt.app (h : Qbt ops N V Z Wd l a w) (hpr : ∀ k ∈ afI ops i, l k = true) (ha : apI ops N Z i = true) {o : Oper} (ho : ops[i]? = some o) (hg : Region.wanted o (yielded ops a.tmps) = true) {s x : Operand} {t : TypeId}
  (hop : o.op = Op.call { callee := Callee.builtin Builtin.append, args := #[s, x], argTypes := #[t, t] }) {v u : Value} (hs : a.eval s = v) (hx : a.eval x = u) (hrun : (Builtin.append_ #[t, t] o.type #[v, u]).run P w = .ok (V i) w') (hw : Wd (fun k => k == i || l k) w') :
  wpOpIn F n P ops Q i (Qbt ops N V Z Wd (fun k => k == i || l k)) a w := by
 refine h.val hpr ha ho hg ?_ (by rw [hop]; intro c hc; cases hc) ?_ hw
 ·simp [Oper.about, hop, resolve, Target.leads, Sem.run_pure]
 ·simp [execOp, hop, resolve, invoke, builtin, hs, hx, hrun, Result.andThen]
theorem Qdm {id : Nat} {a : Act} {w : World} (hm : P.follows .mixedOrders = true) (N : Nat) (V : Nat -> Value) (Z : List (Nat × Value)) (Wd : (Nat -> Bool) -> World -> Prop)
  (hlt : ∀ i, i < ops.size -> ∀ k ∈ afI ops i, k < i) (h0 : Qbt ops N V Z Wd (fun _ => false) a w.drew)
  (hstep : ∀ l i, i < ops.size -> l i = false -> (∀ k ∈ afI ops i, l k = true) -> ∀ a w, Qbt ops N V Z Wd l a w -> wpOpIn F n P ops Q i (Qbt ops N V Z Wd (fun k => k == i || l k)) a w)
  (hend : ∀ l a w, (∀ i, i < ops.size -> l i = true) -> Qbt ops N V Z Wd l a w -> Q .normal a w) : (Code.region id ops true).wpIn F n P Q a w :=
 Qqc hm _ hlt h0 hstep hend
end
end Go.FW
namespace Go.FW
open Go Go.RowKit
section
variable {F : Fence} {n : Nat} {P : Program}
def Mks (lo : Nat) : List Deferred -> Nat -> World -> Prop
 | [], _, _ => True
 | d :: ds, hi, W => ∃ D, d = { target :=.collected D, args := #[] } /\ lo <= D /\ D < hi /\ W.heap[D]? = some (.deferred (some [])) /\ Mks lo ds D W
def Mks.blk : List Deferred -> Nat -> Prop
 | [], _ => False
 | d :: ds, b => d.target = .collected b ∨ Mks.blk ds b
theorem Mks.lt {lo : Nat} {W : World} : ∀ {ds : List Deferred} {hi b : Nat}, Mks lo ds hi W -> Mks.blk ds b -> lo <= b /\ b < hi /\ W.heap[b]? = some (.deferred (some []))
 | [], _, _, _, h => h.elim
 | d :: ds, hi, b, ⟨D, h1, h2, h3, h4, h5⟩, h => by
  subst h1;rcases h with h | h
  ·cases h; exact ⟨h2, h3, h4⟩
  ·have := Mks.lt h5 h; exact ⟨this.1, by omega, this.2.2⟩
theorem Mks.kept {lo : Nat} {W W' : World} : ∀ {ds : List Deferred} {hi : Nat}, Mks lo ds hi W -> (∀ b, Mks.blk ds b -> W'.heap[b]? = W.heap[b]?) -> Mks lo ds hi W'
 | [], _, _, _ => trivial
 | _ :: _, _, ⟨D, h1, h2, h3, h4, h5⟩, h => ⟨D, h1, h2, h3, (h D (.inl (by rw [h1]))).trans h4, h5.kept fun b hb => h b (.inr hb)⟩
theorem Mks.hi {lo : Nat} {W : World} : ∀ {ds : List Deferred} {hi hi' : Nat}, Mks lo ds hi W -> hi <= hi' -> Mks lo ds hi' W
 | [], _, _, _, _ => trivial
 | _ :: _, _, _, ⟨D, h1, h2, h3, h4, h5⟩, h => ⟨D, h1, h2, by omega, h4, h5⟩
theorem Qd7 {fn : Func} {tmps : Array Value} {R : Ending -> World -> Prop} {lo : Nat} : ∀ (ds : List Deferred) (hi : Nat) (w : World), Mks lo ds hi w ->
  (∀ w', Ext (fun b => Mks.blk ds b) w w' -> LeavesIn F n P fn tmps R [] .returning w') -> LeavesInM F n P fn tmps R ds .returning w
 | [], _, w, _, h => h w (Ext.refl _ _)
 | d :: ds, hi, w, ⟨D, h1, h2, h3, h4, h5⟩, h => by
  have hD : ∀ b, Mks.blk ds b -> b ≠ D := fun b hb e => by have := h5.lt hb; omega
  refine ⟨by simp, .inl ⟨D, _, by rw [h1], run_takeDeferred h4, Qd7 ds D _ (h5.kept fun b hb => World.putObj_heap_other (hD b hb)) fun w' hw => h w' ?_⟩⟩;exact (Ext.putObj w D _ (.inl (by rw [h1]))).trans (hw.mono fun b _ hb =>.inr hb)
end
end Go.FW
namespace Go.FW
open Go Go.RowKit
theorem Qj0 {P : Program} {t eI : TypeId} {i : TypeInfo} (ht : P.underlying t = some (.slice eI)) (hi : P.info? eI = some i) (hz : i.zero = some (.int .i64 0)) (hs : i.size = 1) (hb : i.bytes = 8)
  {w : World} {ty : TypeId} {v u : Value} {b c : List Int} (hv : SlI eI v b w) (hb0 : 0 < b.length) (hu : SlI eI u c w) (hl : b.length + c.length <= 1000) :
  ∃ v' w', (Builtin.append_ #[t, t] ty #[v, u]).run P w = .ok v' w' /\ SlI eI v' (b ++ c) w' /\ w.grownBy w' v.ownBlock /\ (v'.ownBlock = v.ownBlock ∨ v'.ownBlock = some w.heap.size) := by
 rcases hu.2 with ⟨rfl, h0⟩ | ⟨g, cap, cur, rfl, _, hg, _⟩
 ·have hc : c = [] := List.eq_nil_of_length_eq_zero h0;subst hc;rcases hv.2 with ⟨rfl, h1⟩ | ⟨g, cap, cur, rfl, h2, hg, h3, h4, h5, h6⟩
  ·omega
  ·refine ⟨_, _, run_append_room_src w t t ty eI i ht hi g 0 b.length cap (.slice none 0 0) 0 [] (Src.ofNil w ht 0) (by omega) (by simp) (by simp), ?_, ?_, .inl rfl⟩
   ·simp only [List.append_nil, Nat.add_zero];exact hv
   ·exact ⟨rfl, rfl, rfl, Nat.le_refl _, fun _ _ _ => rfl⟩
 ·have hcell := hu.cells (g := g) rfl;obtain ⟨v', w', h1, h2, h3, _, h5⟩ := run_append_own_at (P := P) w 0 t ty eI i (.int .i64 0) 1 8 ht hi hz hs hb rfl (by decide) v b.length _ hv ⟨g, 0, none⟩ c.length cap (c.map (Value.int .i64)) (by simp) hcell (fun x hx => by obtain ⟨y, _, rfl⟩ := List.mem_map.1 hx; rfl) (by simp only [maxLen]; omega) (by omega) (Nat.zero_le _);refine ⟨v', w', h1, ?_, h3, h5⟩;unfold SlI;rw [List.length_append, List.map_append];exact h2
theorem Qbd {F : Fence} {n : Nat} {P : Program} (w : World) {ops : Array Oper} {rest : List Oper} {o : Oper} {a : Act} {Q : Exit -> Act -> World -> Prop}
  (hg : o.guard = none) (s x : Operand) (t : TypeId) (hop : o.op = Op.call { callee := Callee.builtin Builtin.append, args := #[s, x], argTypes := #[t, t] })
  (base : Nat) (e : TypeId) (i : TypeInfo) (z : Value) (size bytes : Nat) (h1 : P.underlying t = some (.slice e)) (h2 : P.info? e = some i) (h3 : i.zero = some z) (h4 : i.size = size) (h5 : i.bytes = bytes) (h6 : z.cells.size = size) (h7 : 0 < size)
  (v : Value) (k : Nat) (xs : List Value) (hs : a.eval s = v) (hown : w.ownsRow base e size v k xs) (ad : Addr) (m c : Nat) (news : List Value) (hx : a.eval x = .slice (some ad) m c) (hn : news.length = m * size)
  (hc : ∀ j u, news[j]? = some u -> w.cell? (ad.add j) = some u) (h1c : ∀ u ∈ news, u.oneCell' = true) (b1 : k + m <= maxLen) (b2 : (k + m) * bytes <= 140737488355328) (b3 : base <= w.heap.size)
  (hK : ∀ v' w', w'.ownsRow base e size v' (k + m) (xs ++ news) -> w.grownBy w' v.ownBlock -> (v'.ownBlock = v.ownBlock ∨ v'.ownBlock = some w.heap.size) -> wpListIn F n P ops Q rest (a.put o.dst v') w') :
  wpListIn F n P ops Q (o :: rest) a w := by
 refine wpListIn_plain hg fun K hK' =>?_;obtain ⟨v', w', hrun, r1, r2, _, r3⟩ := run_append_own_at (P := P) w base t o.type e i z size bytes h1 h2 h3 h4 h5 h6 h7 v k xs hown ad m c news hn hc h1c b1 b2 b3;unfold Oper.wpIn;refine ⟨?_, ?_⟩
 ·simp [Oper.about, hop, resolve, Target.leads, Sem.run_pure]
 ·rw [Oper.semAt_plain F _ _ (by rw [hop]; intro c hc'; cases hc')];simp [execOp, hop, resolve, invoke, builtin, hs, hx, hrun, Result.andThen];exact hK' _ _ (hK v' w' r1 r2 r3)
end Go.FW
