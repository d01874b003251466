/- Part 1 of the proof of TriangularMakes: FwA, FwRA, FwRB, FwRF, FwRG, FwRH, FwB, FwC, FwD, FwE, FwF, FwG, FwH, FwI, FwJ, FwK, FwL, FwLN, FwM, FwN. Own lemmas; no conditions. -/
import Derived.Test.YtdjoomkeehihmaaGreatTriangularMakesPart0
import Derived.WalkKit
import Derived.RangeFuncNested
import Derived.Laws.AppendOwn
import Derived.OrdersIn
import Derived.TacticsIn
import Derived.BigFrameIn
import Derived.Laws.Rows
import Derived.Laws.ResultCell
import Derived.Orders
import Derived.Laws.StructEq
set_option maxHeartbeats 1000000
set_option linter.unusedSimpArgs false
set_option linter.unusedVariables false
set_option linter.unnecessarySimpa false
set_option maxRecDepth 100000
namespace Go.FW
open Go
inductive PV where
 |undef
 |int (k:IntKind) (n:Int)
 |bool (b:Bool)
 |aa
 |sl (e:Nat) (xs:List PV)
 |agg (cs:List PV)
 |au (vs:List PV)
 |fn (f:FuncId) (first cap:List PV)
 |pt (cs:List PV)
 |mp (β i o:Nat)
 |ax (β o n:Nat)
 |rb (β o n:Nat)
 |aM (γ o n:Nat)
 |np (γ i o:Nat)
 |aT (cs:List PV)
 |eO (cs:List PV)
 |aN (γ e ty:Nat) (xs:List PV)
 |str (s:ByteArray)
 |eP (cs:List PV) (q:PV)
 deriving Inhabited
abbrev PV.ms(β n:Nat):PV:=.ax β 0 n
def PV.cells:PV->List PV
 |.agg cs=>cs
 |x=>[x]
def PV.bj:PV->List PV
 |.aT cs=>cs
 |x=>x.cells
def PV.gU:PV->Bool
 |.undef=>false
 |_=>true
def PV.aD:PV->Bool
 |.int .. | .bool _| .aa| .sl .. | .agg _| .pt _| .str _=>true
 |.fn _ first cap=>first.all PV.gU&&cap.all PV.gU
 |_=>false
inductive Qu(w:World)(X:Nat->Prop):PV->Value->Prop
 |int (k:IntKind) (n:Int):Qu w X (.int k n) (.int k n)
 |bool (b:Bool):Qu w X (.bool b) (.bool b)
 |str (s:ByteArray):Qu w X (.str s) (.string s)
 |aa:Qu w X .aa (.slice none 0 0)
 |gH (e:Nat) (a:Option Addr) (cap:Nat) (hc:cap<=maxLen):Qu w X (.sl e []) (.slice a 0 cap)
 | sl (e:Nat) (xs:List PV) (b off cap:Nat) (vs:Nat->Nat->Value) (hX:¬X b) (hb:b<w.heap.size) (hl:xs.length<=cap) (hc:cap<=maxLen)
   (he:∀(i:Nat)(x:PV),xs[i]? =some x->x.cells.length=e)
   (hv:∀i,i<xs.length->∀j,j<e->w.cell? ⟨b,off+i*e+j,none⟩=some (vs i j))
   (hr:∀(i:Nat)(x:PV),xs[i]? =some x->∀(j:Nat)(y:PV),x.cells[j]? =some y->Qu w X y (vs i j)):
   Qu w X (.sl e xs) (.slice (some ⟨b,off,none⟩) xs.length cap)
 | pt (cs:List PV) (b off:Nat) (vs:Nat->Value) (hX:¬X b) (hb:b<w.heap.size)
   (hv:∀j,j<cs.length->w.cell? ⟨b,off+j,none⟩=some (vs j))
   (hr:∀(j:Nat)(y:PV),cs[j]? =some y->Qu w X y (vs j)):
   Qu w X (.pt cs) (.pointer (some ⟨b,off,none⟩))
 | fn (f:FuncId) (first cap:List PV) (fv cv:Array Value) (h1:fv.size=first.length) (h2:cv.size=cap.length)
   (si:∀(i:Nat)(x:PV),first[i]? =some x->Qu w X x (fv.getD i undef)) (oa:∀(i:Nat)(x:PV),cap[i]? =some x->Qu w X x (cv.getD i undef)):
   Qu w X (.fn f first cap) (.func (.func f) fv cv)
structure Ext(Y:Nat->Prop)(w w':World):Prop where
 os:w'.os=w.os
 tape:w'.tape=w.tape
 output:w'.output=w.output
 size:w.heap.size<=w'.heap.size
 block:∀b,b<w.heap.size->¬Y b->w'.heap[b]? =w.heap[b]?
theorem Ext.refl(Y:Nat->Prop)(w:World):Ext Y w w:=⟨rfl,rfl,rfl,Nat.le_refl _,fun _ _ _=>rfl⟩
theorem Ext.trans{Y:Nat->Prop}{a b c:World}(h:Ext Y a b)(k:Ext Y b c):Ext Y a c:=
  ⟨k.os.trans h.os,k.tape.trans h.tape,k.output.trans h.output,Nat.le_trans h.size k.size,
   fun i hi hY=>(k.block i (Nat.lt_of_lt_of_le hi h.size) hY).trans (h.block i hi hY)⟩
theorem Ext.mono{Y Y':Nat->Prop}{a b:World}(h:Ext Y a b)(hY:∀i,i<a.heap.size->Y i->Y' i):Ext Y' a b:=
 ⟨h.os,h.tape,h.output,h.size,fun i hi hn=>h.block i hi (fun hy=>hn (hY i hi hy))⟩
theorem Ext.trans'{Y Y':Nat->Prop}{a b c:World}(h:Ext Y a b)(k:Ext Y' b c)(hY:∀i,i<a.heap.size->Y' i->Y i):Ext Y a c:=
  ⟨k.os.trans h.os,k.tape.trans h.tape,k.output.trans h.output,Nat.le_trans h.size k.size,
   fun i hi hn=>(k.block i (Nat.lt_of_lt_of_le hi h.size) (fun hy=>hn (hY i hi hy))).trans (h.block i hi hn)⟩
def bO:Nat->Prop:=fun _=>False
theorem uF{w w':World}{a:Addr}(h:w'.heap[a.block]? =w.heap[a.block]?):w'.cell? a=w.cell? a:=by simp[World.cell?,h]
theorem Ym{w:World}{b o:Nat}{v:Value}(h:w.cell? ⟨b,o,none⟩=some v):b<w.heap.size:=by
 rcases Nat.lt_or_ge b w.heap.size with h'|h'
 ·exact h'
 ·simp[World.cell?,Array.getElem?_eq_none h']at h
theorem Qu.mono{w w':World}{X X':Nat->Prop}{p:PV}{v:Value}(h:Qu w X p v)
  (hb:∀b,b<w.heap.size->¬X b->w'.heap[b]? =w.heap[b]?) (hx:∀b,b<w.heap.size->¬X b->¬X' b) (hs:w.heap.size<=w'.heap.size):Qu w' X' p v:=by
 induction h with
 |int k n=>exact .int k n
 |bool b=>exact .bool b
 |str s=>exact .str s
 |aa=>exact .aa
 |gH e a cap hc=>exact .gH e a cap hc
 | sl e xs b off cap vs hX aw hl hc he hv hr ih=>
  exact .sl e xs b off cap vs (hx b aw hX) (Nat.lt_of_lt_of_le aw hs) hl hc he
   (fun i hi j hj=>by rw[uF (hb b aw hX)];exact hv i hi j hj) (fun i x aS j y hy=>ih i x aS j y hy)
 |pt cs b off vs hX aw hv hr ih=>exact .pt cs b off vs (hx b aw hX) (Nat.lt_of_lt_of_le aw hs) (fun j hj=>by rw[uF (hb b aw hX)];exact hv j hj) (fun j y hy=>ih j y hy)
 |fn f first cap fv cv h1 h2 si oa MA Fa=>exact .fn f first cap fv cv h1 h2 MA Fa
theorem Qu.qY{w:World}{X:Nat->Prop}{p:PV}{v:Value}(h:Qu w X p v):v.oneCell'=true/\v.cells= #[v]/\p.cells=[p]:=by cases h<;>exact⟨rfl,rfl,rfl⟩
def aY(w:World)(X:Nat->Prop):PV->Value->Prop
 |.agg cs,v=>∃vs:Array Value,v= .agg vs/\vs.size=cs.length/\∀i x,cs[i]? =some x->Qu w X x (vs.getD i undef)
 |p,v=>Qu w X p v
def dB(w:World)(X:Nat->Prop):PV->Value->Prop
 |.au ps,v=>∃vs:Array Value,v= .tuple vs/\vs.size=ps.length/\∀i x,ps[i]? =some x->aY w X x (vs.getD i undef)
 |p,v=>aY w X p v
theorem aY.mono{w w':World}{X X':Nat->Prop}{p:PV}{v:Value}(h:aY w X p v)
  (hb:∀b,b<w.heap.size->¬X b->w'.heap[b]? =w.heap[b]?) (hx:∀b,b<w.heap.size->¬X b->¬X' b) (hs:w.heap.size<=w'.heap.size):aY w' X' p v:=by
 cases p with
 |agg cs=>obtain⟨vs,rfl,h1,h2⟩:=h;exact⟨vs,rfl,h1,fun i x hi=>(h2 i x hi).mono hb hx hs⟩
 |_=>exact Qu.mono h hb hx hs
theorem dB.mono{w w':World}{X X':Nat->Prop}{p:PV}{v:Value}(h:dB w X p v)
  (hb:∀b,b<w.heap.size->¬X b->w'.heap[b]? =w.heap[b]?) (hx:∀b,b<w.heap.size->¬X b->¬X' b) (hs:w.heap.size<=w'.heap.size):dB w' X' p v:=by
 cases p with
 |au ps=>obtain⟨vs,rfl,h1,h2⟩:=h;exact⟨vs,rfl,h1,fun i x hi=>(h2 i x hi).mono hb hx hs⟩
 |agg cs=>exact aY.mono (p:=.agg cs) h hb hx hs
 |_=>exact Qu.mono h hb hx hs
theorem dB.We{w:World}{X:Nat->Prop}{p:PV}{v:Value}(h:aY w X p v):dB w X p v:=by
 cases p with
 |au ps=>cases h
 |_=>exact h
theorem aY.data{w:World}{X:Nat->Prop}{p:PV}{v:Value}(h:aY w X p v):p.aD=true:=by
 have hu:∀(x:PV)(u:Value),Qu w X x u->x.gU=true:=fun x u hx=>by cases hx<;>rfl
 have cu:∀(l:List PV)(vs:Array Value),(∀(i:Nat)(x:PV),l[i]? =some x->Qu w X x (vs.getD i undef))->l.all PV.gU=true:=fun l vs hl=>by rw[List.all_eq_true];intro x hx;obtain⟨i,hi⟩:=List.getElem?_of_mem hx;exact hu x _ (hl i x hi)
 cases p with
 |agg cs=>rfl
 |fn f first cap=>
  have h':Qu w X (.fn f first cap) v:=h;cases h' with
  |fn _ _ _ fv cv h1 h2 h3 h4=>simp[PV.aD,cu _ _ h3,cu _ _ h4]
 |_=>cases h<;>rfl
theorem aY.cells{w:World}{X:Nat->Prop}{p:PV}{v:Value}(h:aY w X p v):
  v.cells.size=p.cells.length/\∀j y,p.cells[j]? =some y->Qu w X y (v.cells.getD j undef):=by
 by_cases ha:∃cs,p= .agg cs
 ·obtain⟨cs,rfl⟩:=ha;obtain⟨vs,rfl,h1,h2⟩:=h;exact⟨h1,h2⟩
 ·have hc:Qu w X p v:=by
   cases p with
   |agg cs=>exact absurd ⟨cs,rfl⟩ ha
   |_=>exact h
  obtain⟨_,h2,h3⟩:=hc.qY;rw[h2,h3];refine⟨rfl,fun j y hy=>?_⟩
  match j,hy with
  |0,hy=>simp at hy;subst hy;exact hc
  |j+1,hy=>simp at hy
theorem aY.pW{w:World}{X:Nat->Prop}{p:PV}{v:Value}(h:Qu w X p v):aY w X p v:=by
 cases p with
 |agg cs=>cases h
 |_=>exact h
theorem aY.Wl{w:World}{X:Nat->Prop}{p:PV}{v:Value}(h:aY w X p v):∀u∈v.cells.toList,u.oneCell'=true:=by
 intro u hu;obtain⟨h1,h2⟩:=h.cells;obtain⟨j,hj,rfl⟩:=List.getElem_of_mem hu;have fJ:j<v.cells.size:=by simpa using hj
 have hp:j<p.cells.length:=by omega
 have:=(h2 j p.cells[j] (List.getElem?_eq_getElem hp)).qY.1;simpa[Array.getD,fJ]using this
abbrev Ka0:=@Sem.run_pure
abbrev Ka1:=@List.getElem?_append
abbrev Ka2:=@Nat.mul_add
abbrev Ka3:=@List.getLast?_eq_getElem?
abbrev Ka4:=@List.any_eq_true
abbrev Ka5:=@List.length_drop
abbrev Ka6:=@Rat.intCast_eq_zero_iff
abbrev Ka7:=@Nat.mul_le_mul_left
abbrev Ka8:=@List.replicate_zero
abbrev Ka9:=@List.getElem?_drop
abbrev KaA:=@List.flatMap_nil
abbrev KaB:=@Option.some.injEq
abbrev KaC:=@List.contains_nil
abbrev KaD:=@Int.natAbs_natCast
abbrev KaE:=@List.getElem?_of_mem
abbrev KaF:=@List.length_take
abbrev KaG:=@Array.getElem?_eq_some_iff
abbrev KaH:=@Nat.add_mul
abbrev KaI:=@List.mem_map
abbrev KaJ:=@List.getElem?_take_of_lt
abbrev KaK:=@Nat.lt_of_lt_of_le
abbrev KaL:=@Bool.false_eq_true
abbrev KaM:=@Nat.mul_le_mul
abbrev KaN:=@List.nil_append
abbrev KaO:=@List.mem_cons
abbrev KaP:=@List.mem_singleton
abbrev KaQ:=@Nat.mod_eq_of_lt
abbrev KaR:=@List.cons_append
abbrev KaS:=@Nat.mul_comm
abbrev KaT:=@Nat.add_zero
abbrev KaU:=@List.mem_append
abbrev KaV:=@List.length_map
abbrev KaW:=@Rat.intCast_natCast
abbrev KaX:=@List.length_cons
abbrev KaY:=@Nat.pos_of_ne_zero
abbrev KaZ:=@Array.getD_eq_getD_getElem?
abbrev Kaa:=@Option.map_eq_some_iff
abbrev Kab:=@Option.bind_eq_some_iff
abbrev Kac:=@Nat.le_refl
abbrev Kad:=@List.getElem?_eq_some_iff
abbrev Kae:=@List.take_of_length_le
abbrev Kaf:=@Nat.mul_le_mul_right
abbrev Kag:=@List.take_succ_eq_append_getElem
abbrev Kah:=@List.getElem_mem
abbrev Kai:=@List.mem_of_getElem?
abbrev Kaj:=@Result.andThen_ok
abbrev Kak:=@List.append_nil
abbrev Kal:=@List.drop_of_length_le
abbrev Kam:=@List.getElem?_eq_getElem
abbrev Kan:=@Sem.run_bind
abbrev Kao:=@List.getD_eq_getElem?_getD
abbrev Kap:=@List.length_append
abbrev Kaq:=@List.mem_flatMap
abbrev Kar:=@List.length_eq_zero_iff
abbrev Kas:=@List.take_length
abbrev Kat:=@Bool.and_eq_true
abbrev Kau:=@List.flatMap_cons
abbrev Kav:=@List.contains_cons
abbrev Kaw:=@List.getElem?_map
abbrev Kax:=@List.all_eq_true
abbrev Kay:=@Nat.le_trans
abbrev Kaz:=@List.drop_eq_getElem_cons
abbrev Kb0:=@Nat.mul_zero
abbrev Kb1:=@Rat.mkRat_eq_div
abbrev Kb2:=@Rat.intCast_le_intCast
abbrev Kb3:=@List.length_zipWith
abbrev Kb4:=@List.flatMap_append
abbrev Kb5:=@List.take_zero
abbrev Kb6:=@Array.mapM_eq_mapM_toList
abbrev Kb7:=@List.getElem?_append_left
abbrev Kb8:=@List.length_set
abbrev Kb9:=@Rat.natCast_mul
abbrev KbA:=@Nat.eq_of_mul_eq_mul_right
abbrev KbB:=@List.any_eq_false
abbrev KbC:=@Nat.pow_le_pow_right
abbrev KbD:=@List.headD_eq_head?_getD
abbrev KbE:=@List.replicate_succ
abbrev KbF:=@Nat.mul_one
abbrev KbG:=@List.mem_append_right
abbrev KbH:=@Nat.zero_mul
abbrev KbI:=@Nat.gcd_dvd_left
abbrev KbJ:=@List.append_cons
abbrev KbK:=@List.append_assoc
abbrev KbL:=@List.size_toArray
abbrev KbM:=@Int.toNat_natCast
abbrev KbN:=@Nat.pow_pos
abbrev KbO:=@List.mem_cons_self
abbrev KbP:=@Nat.sub_self
abbrev KbQ:=@Nat.add_comm
abbrev KbR:=@List.mem_filterMap
abbrev KbS:=@Bool.or_eq_true
abbrev KbT:=@Option.getD_some
abbrev KbU:=@Nat.gcd_dvd_right
abbrev KbV:=@List.foldl_append
abbrev KbW:=@Rat.le_trans
abbrev KbX:=@Nat.min_eq_left
abbrev KbY:=@Bool.true_and
abbrev KbZ:=@List.range_succ
abbrev Kba:=@List.map_congr_left
abbrev Kbb:=@List.mem_of_mem_take
abbrev Kbc:=@Nat.zero_add
abbrev Kbd:=@List.getElem_of_mem
abbrev Kbe:=@Array.getElem?_eq_getElem
abbrev Kbf:=@Nat.mul_assoc
abbrev Kbg:=@Nat.mul_div_cancel_left
abbrev Kbh:=@List.length_nil
abbrev Kbi:=@Rat.mul_le_mul_of_nonneg_right
abbrev Kbj:=@List.map_cons
abbrev Kbk:=@List.filterMap_cons
abbrev Kbl:=@List.mem_cons_of_mem
abbrev Kbm:=@Nat.div_lt_iff_lt_mul
abbrev Kbn:=@List.take_append_drop
abbrev Kbo:=@List.drop_zero
abbrev Kbp:=@Nat.div_add_mod
abbrev Kbq:=@List.length_pos_iff
abbrev Kbr:=@Rat.mul_le_mul_of_nonneg_left
abbrev Kbs:=@Rat.intCast_mul
abbrev Kbt:=@Nat.mod_lt
abbrev Kbu:=@List.map_nil
abbrev Kbv:=@List.mem_of_mem_drop
abbrev Kbw:=@Nat.zero_le
abbrev Kbx:=@Nat.mul_left_comm
abbrev Kby:=@Addr.add_lit
abbrev Kbz:=@Nat.pow_succ
abbrev Kc0:=@Nat.eq_zero_or_pos
abbrev Kc1:=@Nat.gcd_zero_right
abbrev Kc2:=@Rat.intCast_neg
abbrev Kc3:=@List.all_eq_false
abbrev Kc4:=@Rat.mkRat_self
abbrev Kc5:=@Bool.false_and
abbrev Kc6:=@Nat.lt_or_ge
abbrev Kc7:=@List.map_map
abbrev Kc8:=@List.map_set
abbrev Kc9:=@Bool.or_true
abbrev KcA:=@Rat.div_def
abbrev KcB:=@List.getElem_map
abbrev KcC:=@Int.natAbs_neg
abbrev KcD:=@Array.getElem?_eq_none
abbrev KcE:=@Nat.lt_of_le_of_lt
abbrev KcF:=@List.getLast?_cons
abbrev KcG:=@List.countP_append
abbrev KcH:=@Int.le_refl
abbrev KcI:=@List.foldl_cons
abbrev KcJ:=@List.cons.injEq
abbrev KcK:=@Nat.div_le_self
abbrev KcL:=@Bool.true_or
abbrev KcM:=@List.filterMap_append
abbrev KcN:=@Prod.mk.injEq
abbrev KcO:=@Int.fdiv_eq_ediv_of_nonneg
abbrev KcP:=@Option.ne_none_iff_exists'
abbrev KcQ:=@List.mem_append_left
abbrev KcR:=@List.mapM_cons
abbrev KcS:=@List.mem_or_eq_of_mem_set
abbrev KcT:=@List.ext_getElem
abbrev KcU:=@Nat.one_mul
abbrev KcV:=@List.getElem?_range
abbrev KcW:=@Option.pure_def
abbrev KcX:=@List.mem_replicate
abbrev KcY:=@Option.some.inj
abbrev KcZ:=@Int.ofNat_dvd_left
abbrev Kca:=@List.getElem?_take
abbrev Kcb:=@List.length_filterMap_le
abbrev Kcc:=@Nat.div_eq_of_lt
abbrev Kcd:=@List.eq_nil_of_length_eq_zero
abbrev Kce:=@Nat.mul_pos
abbrev Kcf:=@Bool.or_eq_false_iff
abbrev Kcg:=@Nat.add_assoc
abbrev Kch:=@Rat.mul_nonneg
abbrev Kci:=@Array.size_append
abbrev Kcj:=@Option.map_some
abbrev Kck:=@List.getElem?_append_right
abbrev Kcl:=@Nat.sub_zero
abbrev Kcm:=@Bool.false_or
abbrev Kcn:=@Nat.dvd_trans
abbrev Kco:=@List.mem_range
abbrev Kcp:=@Nat.add_mul_mod_self_left
abbrev Kcq:=@Int.natAbs_mul
abbrev Kcr:=@Nat.eq_zero_of_gcd_eq_zero_right
abbrev Kcs:=@Nat.add_mul_div_left
abbrev Kct:=@Array.getElem?_setIfInBounds_ne
abbrev Kcu:=@List.head?_drop
abbrev Kcv:=@List.getElem_append_left
abbrev Kcw:=@Array.eq_empty_of_size_eq_zero
abbrev Kcx:=@Nat.gcd_comm
abbrev Kcy:=@Option.bind_eq_bind
abbrev Kcz:=@List.mem_map_of_mem
abbrev Kda:=@Option.bind_some
abbrev Kdb:=@Nat.lt_succ_self
abbrev Kdc:=@Nat.min_eq_right
abbrev Kdd:=@Nat.gcd_le_right
abbrev Kde:=@List.getElem_set
abbrev Kdf:=@List.not_mem_nil
abbrev Kdg:=@Nat.dvd_mul_left
abbrev Kdh:=@List.sum_cons
abbrev Kdi:=@Bool.and_true
abbrev Kdj:=@Rat.one_mul
open Go Go.RowKit
structure vg(Y:Nat->Prop)(w w':World):Prop where
 os:w'.os=w.os
 tape:w'.tape=w.tape
 output:w'.output=w.output
 size:w.heap.size<=w'.heap.size
 block:∀b,b<w.heap.size->Y b->w'.heap[b]? =w.heap[b]?
theorem vg.trans{Y:Nat->Prop}{a b c:World}(h:vg Y a b)(k:vg Y b c):vg Y a c:=
 ⟨k.os.trans h.os,k.tape.trans h.tape,k.output.trans h.output,Kay h.size k.size,fun i hi hY=>(k.block i (KaK hi h.size) hY).trans (h.block i hi hY)⟩
theorem vg.mono{Y Y':Nat->Prop}{a b:World}(h:vg Y a b)(hY:∀i,i<a.heap.size->Y' i->Y i):vg Y' a b:=
 ⟨h.os,h.tape,h.output,h.size,fun i hi hn=>h.block i hi (hY i hi hn)⟩
theorem Ext.tB(X:Nat->Prop)(W:World)(o:Obj):Ext X W (W.alloc o):=
 ⟨rfl,rfl,rfl,by simp,fun b hb _=>Below.heap_alloc W o b hb⟩
theorem CallsIn.aln{F:Fence}(hd:F.depth=none){m m':Nat}{P:Program}{f:FuncId}{args:Array Value}{w:World}{R:Ending->World->Prop}
  (h:CallsIn F m P f args w R):CallsIn F m' P f args w R:=⟨h.1,fun cs _=>h.2 cs (fun d h=>by rw[hd]at h;cases h)⟩
variable {F : Fence} {n : Nat} {P : Program} {w : World}
end Go.FW
namespace Go.FW
open Go Go.RowKit
section
variable {F : Fence} {n : Nat} {P : Program} {ops : Array Oper} {Q : Exit -> Act -> World -> Prop}
def oR:List Bool->Nat
 | []=>0
 |true::l=>oR l
 |false::l=>oR l+1
theorem Ot:∀ {l:List Bool} {i:Nat},l[i]? =some false->oR (l.set i true)+1=oR l
 | [],i,h=>by simp at h
 |b::l,0,h=>by simp at h;subst h;simp[oR]
 |b::l,i+1,h=>by simp at h;have:=Ot h;cases b<;>simp[oR]<;>omega
theorem Ou:∀(n:Nat),oR (List.replicate n false)=n
 |0=>rfl
 |n+1=>by simp[KbE,oR,Ou n]
theorem Nj:∀ {l:List Bool} {i:Nat},oR l=0->l[i]? ≠some false
 | [],i,_=>by simp
 |true::l,0,_=>by simp
 |true::l,i+1,h=>by simpa using Nj (l:=l) (i:=i) (by simpa[oR]using h)
 |false::l,_,h=>by simp[oR]at h
def oM(l:Array Bool):Nat->Bool:=fun i=>l.getD i false
theorem ad4{l:Array Bool}{i:Nat}(h:l.getD i true=false):oM (l.setIfInBounds i true)=fun k=>k==i||oM l k:=by
 funext k;unfold oM;have hi:i<l.size:=by
  rcases Kc6 i l.size with h'|h'
  ·exact h'
  ·simp[KcD h']at h
 by_cases hk:i=k
 ·subst hk;simp[hi]
 ·rw[getD_set_ne false hk];simp[Ne.symm hk]
def lJ(ops:Array Oper)(i:Nat):List Nat:=match ops[i]? with
 |some o=>(o.after.toList.filter (Region.binds .any)).map (·.on)
 |none=>[]
theorem ZY(I:(Nat->Bool)->Act->World->Prop)
  (ar:∀i,i<ops.size->∀k∈lJ ops i,k<i)
  (kv:∀l i,i<ops.size->l i=false->(∀k∈lJ ops i,l k=true)->∀a w,I l a w->wpOpIn F n P ops Q i (I (fun k=>k==i||l k)) a w)
  (tQ:∀l a w,(∀i,i<ops.size->l i=true)->I l a w->Q .normal a w):
  ∀(m:Nat)(l:Array Bool)(a:Act)(w:World),oR l.toList=m->l.size=ops.size->I (oM l) a w->wpAnyIn F n P .any ops Q m l a w:=by
 have fin:∀(l:Array Bool),Region.ready .any ops l=[]->l.size=ops.size->∀i,i<ops.size->oM l i=true:=by
  intro l hr hz i;induction i using Nat.strongRecOn with
  | ind i ih=>
   intro hi;cases h:oM l i with
   |true=>rfl
   | false=>
    exfalso;have ho:ops[i]? =some ops[i]:=by simp[hi]
    have:i∈Region.ready .any ops l:=by
     refine mem_ready.2 ⟨?_,_,ho,?_⟩
     ·unfold oM at h;have dm:i<l.size:=by omega
      simp[dm]at h⊢;exact h
     ·intro e he hb;have hk:e.on∈lJ ops i:=by unfold lJ;rw[ho];exact KaI.2 ⟨e,List.mem_filter.2 ⟨by simpa using he,hb⟩,rfl⟩
      have vO:=ar i hi _ hk;exact ih e.on vO (by omega)
    rw[hr]at this;cases this
 intro m;induction m with
 | zero=>
  intro l a w hn hz hI;have hr:Region.ready .any ops l=[]:=by
   cases h:Region.ready .any ops l with
   |nil=>rfl
   |cons i is=>
    have hm:i∈Region.ready .any ops l:=by rw[h];exact KbO
    obtain⟨h1,_⟩:=mem_ready.1 hm;refine absurd ?_ (Nj (i:=i) hn);rcases Kc6 i l.size with h'|h'
    ·simp[h']at h1 ⊢;exact h1
    ·simp[KcD h']at h1
  exact⟨hr,tQ _ a w (fin l hr hz) hI⟩
 | succ m ih=>
  intro l a w hn hz hI;refine⟨fun hr=>tQ _ a w (fin l hr hz) hI,fun i hi=>?_⟩;obtain⟨h1,o,ho,h2⟩:=mem_ready.1 hi;have dm:i<l.size:=by
   rcases Kc6 i l.size with h'|h'
   ·exact h'
   ·simp[KcD h']at h1
  have hls:oM l i=false:=by unfold oM;simp[dm]at h1⊢;exact h1
  refine wpOpIn_mono (fun a' w' hA=>?_) (kv (oM l) i (by omega) hls ?_ a w hI)
  ·have:=Ot (l:=l.toList) (i:=i) (by simp[dm]at h1 ⊢;exact h1);exact ih _ a' w' (by rw[Array.toList_setIfInBounds];omega) (by simpa using hz) (by rw[ad4 h1];exact hA)
  ·intro k hk;unfold lJ at hk;rw[ho]at hk;obtain⟨e,he,rfl⟩:=KaI.1 hk;obtain⟨he,hb⟩:=List.mem_filter.1 he;exact h2 e (by simpa using he) hb
theorem abt{id:Nat}{a:Act}{w:World}(hm:P.follows .mixedOrders=true)(I:(Nat->Bool)->Act->World->Prop)
  (ar:∀i,i<ops.size->∀k∈lJ ops i,k<i) (h0:I (fun _=>false) a w.drew)
  (kv:∀l i,i<ops.size->l i=false->(∀k∈lJ ops i,l k=true)->∀a w,I l a w->wpOpIn F n P ops Q i (I (fun k=>k==i||l k)) a w)
  (tQ:∀l a w,(∀i,i<ops.size->l i=true)->I l a w->Q .normal a w):(Code.region id ops true).wpIn F n P Q a w:=by
 refine wpIn_region_any hm (ZY I ar kv tQ _ _ a _ ?_ (by simp) ?_)
 ·rw[Array.toList_replicate,Ou]
 ·have:oM (Array.replicate ops.size false)=fun _=>false:=by funext k;unfold oM;simp[Array.getD]
  rw[this];exact h0
theorem Ov{tmps:Array Value}{d k:Nat}{v:Value}(h:d≠k):(tmps.setIfInBounds d v)[k]?.getD undef=tmps[k]?.getD undef:=by simp[Kct h]
structure jv(ops:Array Oper)(N:Nat)(V:Nat->Value)(Z:List (Nat×Value))(Wd:(Nat->Bool)->World->Prop)(l:Nat->Bool)(a:Act)(w:World):Prop where
 d0:a.defers=[]
 sz:a.tmps.size=N
 fixed:∀z∈Z,a.tmps[z.1]?.getD undef=z.2
 slot:∀i o d,l i=true->ops[i]? =some o->o.dst=some d->a.tmps[d]?.getD undef=V i
 cl:∀j,l j=true->∀k∈lJ ops j,l k=true
 wd:Wd l w
def Af(ops:Array Oper)(N:Nat)(Z:List (Nat×Value))(i:Nat):Bool:=
 match(ops[i]?).bind (·.dst)with
 |some d=>decide (d<N)&&Z.all (fun z=>z.1 !=d)&&(List.range ops.size).all fun j=>j==i||(ops[j]?).bind (·.dst) !=some d
 |none=>false
variable {N : Nat} {V : Nat -> Value} {Z : List (Nat × Value)} {Wd : (Nat -> Bool) -> World -> Prop} {l : Nat -> Bool} {a : Act} {w w' : World} {i : Nat}
theorem jv.put(h:jv ops N V Z Wd l a w)(dz:∀k∈lJ ops i,l k=true)(ha:Af ops N Z i=true){o:Oper}(ho:ops[i]? =some o)(hw:Wd (fun k=>k==i||l k) w'):
  jv ops N V Z Wd (fun k=>k==i||l k) (a.put o.dst (V i)) w':=by
 unfold Af at ha;rw[ho]at ha;cases hd:o.dst with
 |none=>simp[hd]at ha
 | some d=>
  simp only[Kda,hd,Kat,decide_eq_true_eq,Kax,Kco,bne_iff_ne,KbS,beq_iff_eq]at ha;obtain⟨⟨h1,h2⟩,h3⟩:=ha;have hp:a.put (some d) (V i)={ a with tmps:=a.tmps.setIfInBounds d (V i) }:=rfl;rw[hp];refine⟨h.d0,by simp[h.sz],fun z hz=>?_,fun j oj dj hj mZ rY=>?_,fun j hj k hk=>?_,hw⟩
  ·rw[<-h.fixed z hz];have:=h2 z hz;simp only;rw[Ov (Ne.symm this)]
  ·simp only;by_cases dW:j=i
   ·subst dW;rw[ho]at mZ;cases mZ;rw[hd]at rY;cases rY;simp[h.sz,h1]
   ·have hjs:j<ops.size:=(KaG.1 mZ).1;have h4:=(h3 j hjs).resolve_left dW;rw[mZ]at h4;have h5:dj≠d:=fun e=>h4 (by simp[rY,e]);rw[Ov (Ne.symm h5)];exact h.slot j oj dj (by have:(j==i)=false:=(by simpa using dW);rw[this]at hj;simpa using hj) mZ rY
  ·by_cases dW:j=i
   ·subst dW;simp[dz k hk]
   ·have:(j==i)=false:=by simpa using dW
    rw[this]at hj;simp[h.cl j (by simpa using hj) k hk]
theorem jv.val(h:jv ops N V Z Wd l a w)(dz:∀k∈lJ ops i,l k=true)(ha:Af ops N Z i=true){o:Oper}(ho:ops[i]? =some o)(hg:Region.wanted o (yielded ops a.tmps)=true)
  (vD:o.about P w a.eval=none) (hop:∀c,o.op≠ .defer c) (bm:(execOp a.eval o).run P w= .ok (.value (V i)) w') (hw:Wd (fun k=>k==i||l k) w'):
  wpOpIn F n P ops Q i (jv ops N V Z Wd (fun k=>k==i||l k)) a w:=by
 unfold wpOpIn;rw[ho];simp only[hg,if_true];refine⟨fun f hf=>(by rw[vD]at hf;cases hf),?_⟩;have:o.semAt F.round a.eval=execOp a.eval o:=by
  cases F.round with
  |none=>simp[Oper.semAt]
  |some l=>exact Oper.semAt_some l _ _ hop
 rw[this,bm];exact h.put dz ha ho hw
theorem jv.app(h:jv ops N V Z Wd l a w)(dz:∀k∈lJ ops i,l k=true)(ha:Af ops N Z i=true){o:Oper}(ho:ops[i]? =some o)(hg:Region.wanted o (yielded ops a.tmps)=true){s x:Operand}{t:TypeId}
  (hop:o.op=Op.call { callee:=Callee.builtin Builtin.append,args:= #[s,x],argTypes:= #[t,t] }) {v u:Value} (hs:a.eval s=v) (hx:a.eval x=u) (bm:(Builtin.append_ #[t,t] o.type #[v,u]).run P w= .ok (V i) w') (hw:Wd (fun k=>k==i||l k) w'):
  wpOpIn F n P ops Q i (jv ops N V Z Wd (fun k=>k==i||l k)) a w:=by
 refine h.val dz ha ho hg ?_ (by rw[hop];intro c hc;cases hc) ?_ hw
 ·simp[Oper.about,hop,resolve,Target.leads,Ka0]
 ·simp[execOp,hop,resolve,invoke,builtin,hs,hx,bm,Result.andThen]
end
end Go.FW
namespace Go.FW
open Go Go.RowKit
section
variable {F : Fence} {n : Nat} {P : Program} {ops : Array Oper} {Q : Exit -> Act -> World -> Prop}
variable {N : Nat} {V : Nat -> Value} {Z : List (Nat × Value)} {Wd : (Nat -> Bool) -> World -> Prop} {l : Nat -> Bool} {a : Act} {w w' : World} {i : Nat}
end
end Go.FW
namespace Go.FW
open Go Go.RowKit
section
variable {F : Fence} {n : Nat} {P : Program} {ops : Array Oper} {Q : Exit -> Act -> World -> Prop}
variable {G : Type} {N : Nat} {V : G -> Nat -> Value} {Z : List (Nat × Value)} {Wd : G -> (Nat -> Bool) -> World -> Prop} {l : Nat -> Bool} {a : Act} {w w' : World} {i : Nat} {g : G}
def mH(ops:Array Oper)(N:Nat)(V:G->Nat->Value)(Z:List (Nat×Value))(Wd:G->(Nat->Bool)->World->Prop)(l:Nat->Bool)(a:Act)(w:World):Prop:=∃g,jv ops N (V g) Z (Wd g) l a w
theorem mH.of(h:wpOpIn F n P ops Q i (jv ops N (V g) Z (Wd g) l) a w):wpOpIn F n P ops Q i (mH ops N V Z Wd l) a w:=wpOpIn_mono (fun _ _ h=>⟨g,h⟩) h
theorem jv.alh(h:jv ops N (V g) Z (Wd g) l a w)(dz:∀k∈lJ ops i,l k=true)(hd:F.depth=none)(ha:Af ops N Z i=true){o:Oper}(ho:ops[i]? =some o)(hg:Region.wanted o (yielded ops a.tmps)=true){c:Call}(hop:o.op= .call c){f:FuncId}{xs:Array Operand}{ty:Array TypeId}
  (hc:c={ callee:=.value (.func f),args:=xs,argTypes:=ty }) {vs:Array Value} (hx:xs.map a.eval=vs) (hFf:F.fn f) (ef:∀args w,(callFunc f args).run P w= .ok (.enter f args) w) {R:Ending->World->Prop} {m:Nat} (hy:CallsIn F m P f vs w R)
  (hR:∀e w',R e w'->∃g',e= .returned (V g' i)/\(∀j,l j=true->V g' j=V g j)/\Wd g' (fun k=>k==i||l k) w'):wpOpIn F n P ops Q i (mH ops N V Z Wd (fun k=>k==i||l k)) a w:=by
 unfold wpOpIn;rw[ho];simp only[hg,if_true];have dq:(resolve a.eval c o.type).run P w= .ok { target:=.fn (.func f) #[],args:=vs } w:=by subst hc;simp only[resolve,hx];simp[Deferred.ofValue,Act.eval]
 refine⟨fun f' hf=>?_,?_⟩
 ·simp[Oper.about,hop,dq,Target.leads]at hf;subst hf;exact hFf
 ·have:o.semAt F.round a.eval=execOp a.eval o:=by
   cases F.round with
   |none=>simp[Oper.semAt]
   |some l=>exact Oper.semAt_some l _ _ (by rw[hop];intro c h;cases h)
  have bm:(execOp a.eval o).run P w= .ok (.enter f vs) w:=by simp only[execOp,hop,Kan,dq,Result.andThen];simp[go_sem,invoke,ef]
  rw[this,bm];refine⟨fun h=>(by rw[hd]at h;cases h),(CallsIn.aln hd hy).mono fun e w' he=>?_⟩;obtain⟨g',rfl,hV,hw⟩:=hR e w' he;have h2:jv ops N (V g') Z (fun _ _=>True) l a w:=⟨h.d0,h.sz,h.fixed,fun j o d hj ho hd=>by rw[hV j hj];exact h.slot j o d hj ho hd,h.cl,trivial⟩
  have t:=h2.put (w':=w') dz ha ho trivial;exact⟨g',t.d0,t.sz,t.fixed,t.slot,t.cl,hw⟩
theorem jv.sto{V:Nat->Value}{Wd:(Nat->Bool)->World->Prop}(h:jv ops N V Z Wd l a w)(dz:∀k∈lJ ops i,l k=true){o:Oper}(ho:ops[i]? =some o)(UO:o.dst=none)(hg:Region.wanted o (yielded ops a.tmps)=true)
  (vD:o.about P w a.eval=none) (hop:∀c,o.op≠ .defer c) (bm:(execOp a.eval o).run P w= .ok .skip w') (hw:Wd (fun k=>k==i||l k) w'):
  wpOpIn F n P ops Q i (jv ops N V Z Wd (fun k=>k==i||l k)) a w:=by
 unfold wpOpIn;rw[ho];simp only[hg,if_true];refine⟨fun f hf=>(by rw[vD]at hf;cases hf),?_⟩;have:o.semAt F.round a.eval=execOp a.eval o:=by
  cases F.round with
  |none=>simp[Oper.semAt]
  |some l=>exact Oper.semAt_some l _ _ hop
 rw[this,bm];show jv ops N V Z Wd (fun k=>k==i||l k) (a.put o.dst undef) w';rw[UO];refine⟨h.d0,h.sz,h.fixed,fun j oj d hj mZ rY=>?_,fun j hj k hk=>?_,hw⟩
 ·by_cases dW:j=i
  ·subst dW;rw[ho]at mZ;cases mZ;rw[UO]at rY;cases rY
  ·have:(j==i)=false:=(by simpa using dW)
   rw[this]at hj;exact h.slot j oj d (by simpa using hj) mZ rY
 ·by_cases dW:j=i
  ·subst dW;simp[dz k hk]
  ·have:(j==i)=false:=(by simpa using dW)
   rw[this]at hj;simp[h.cl j (by simpa using hj) k hk]
theorem ZZ{id:Nat}{a:Act}{w:World}(hm:P.follows .mixedOrders=true)(N:Nat)(V:G->Nat->Value)(Z:List (Nat×Value))(Wd:G->(Nat->Bool)->World->Prop)
  (ar:∀i,i<ops.size->∀k∈lJ ops i,k<i) (h0:mH ops N V Z Wd (fun _=>false) a w.drew)
  (kv:∀l i,i<ops.size->l i=false->(∀k∈lJ ops i,l k=true)->∀a w,mH ops N V Z Wd l a w->wpOpIn F n P ops Q i (mH ops N V Z Wd (fun k=>k==i||l k)) a w)
  (tQ:∀l a w,(∀i,i<ops.size->l i=true)->mH ops N V Z Wd l a w->Q .normal a w):(Code.region id ops true).wpIn F n P Q a w:=
 abt hm _ ar h0 kv tQ
end
end Go.FW
namespace Go.FW
open Go
theorem ad5{w:World}{X:Nat->Prop}{base:Nat}{e:TypeId}{v:Value}{vs:List Value}{ps:List PV}{n:Nat}(h:w.ownsRow base e 1 v n vs)(hn:ps.length=n)(hX:∀b,v.ownBlock=some b->¬X b)(hc:∀p∈ps,p.cells=[p])
  (hr:∀j (hj:j<ps.length),Qu w X ps[j] (vs.getD j undef)):Qu w X (.sl 1 ps) v:=by
 subst hn;obtain⟨hl,hv⟩:=h;rcases hv with⟨rfl,h0⟩|⟨g,cap,cur,rfl,hb,hg,ks,iN,fM,bn⟩
 ·have:ps=[]:=Kar.1 h0;subst this;exact .gH 1 _ _ (Kbw _)
 ·refine .sl 1 ps g 0 cap (fun i _=>vs.getD i undef) (hX g rfl) (KaG.1 hg).1 ks iN ?_ ?_ ?_
  ·intro i x hx;rw[hc x (Kai hx)];rfl
  ·intro i hi j hj;obtain rfl:j=0:=by omega
   have lT:i<cur.size:=by omega
   have e1:vs.getD i undef=cur[i]:=by rw[Kao,<-bn,Kca,if_pos (by omega)];simp[lT]
   simp only[World.cell?,Kbc,KbF,KaT,hg,e1];simp[lT]
  ·intro i x hx j y hy;have hm:=Kai hx;rw[hc x hm]at hy;obtain⟨hi,rfl⟩:=Kad.1 hx
   match j,hy with
   |0,hy=>simp at hy;subst hy;exact hr i hi
theorem BX{P:Program}{fn:Func}{p u:Tmp}{ty:TypeId}(h:fn.results= #[.cell p ty,.tmp u])(tmps:Array Value)(w:World)(g:Nat)(t:TypeId)(cs:Array Value)(fr:Nat×Nat)(d:TypeDesc)
  (hp:tmps.getD p undef= .pointer (some ⟨g,0,none⟩)) (hg:w.heap[g]? =some (.cells cs t fr))
  (hu:P.underlying ty=some d)
  (hd:(match d with| .struct _| .array _ _=>true|_=>false)=true) (hi:(P.info? ty).map (·.size)=some cs.size):
  (results fn tmps).run P w= .ok (.tuple #[.agg cs,tmps.getD u undef]) w:=by
 rw[results_cell_tmp h,hp];simp[asAddr,run_loadVar_row w g t ty cs fr d hg hu hd hi,Result.andThen]
theorem Ext.setCell{Y:Nat->Prop}(w:World)(a:Addr)(v:Value)(h:Y a.block):Ext Y w (w.setCell a v):=
 ⟨rfl,rfl,rfl,by simp[World.setCell],fun b _ hn=>heap_setCell_other w a b v (fun e=>hn (e▸h))⟩
theorem Qu.Ag{w:World}{X:Nat->Prop}{ps:List PV}{v:Value}(h:Qu w X (.sl 2 ps) v){i:Nat}(hi:i<ps.length){p q:PV}(hp:ps[i]= .agg [p,q]):
  ∃b off cap u1 u2,v= .slice (some ⟨b,off,none⟩) ps.length cap/\w.cell? ⟨b,off+i*2,none⟩=some u1/\w.cell? ⟨b,off+i*2+1,none⟩=some u2/\Qu w X p u1/\Qu w X q u2/\¬X b/\b<w.heap.size:=by
 generalize hY:PV.sl 2 ps=Y at h;cases h with
 |gH e a cap=>cases hY;simp at hi
 |sl e xs b off cap vs hX hb hl hc he hv hr=>
  cases hY;have hx:ps[i]? =some (.agg [p,q]):=by rw[Kam hi,hp]
  exact⟨b,off,cap,vs i 0,vs i 1,rfl,hv i hi 0 (by omega),hv i hi 1 (by omega),hr i _ hx 0 p rfl,hr i _ hx 1 q rfl,hX,hb⟩
 |_=>cases hY
theorem abu{w:World}{X:Nat->Prop}{base:Nat}{ty:TypeId}{v:Value}{vs:List Value}{ps:List PV}{n e:Nat}(h:w.ownsRow base ty e v n vs)(hn:ps.length=n)(hX:∀b,v.ownBlock=some b->¬X b)(hc:∀p∈ps,p.cells.length=e)
  (hr:∀j (hj:j<ps.length) k y,ps[j].cells[k]? =some y->Qu w X y (vs.getD (j*e+k) undef)):Qu w X (.sl e ps) v:=by
 subst hn;obtain⟨hl,hv⟩:=h;rcases hv with⟨rfl,h0⟩|⟨g,cap,cur,rfl,hb,hg,ks,iN,fM,bn⟩
 ·have:ps=[]:=Kar.1 h0;subst this;exact .gH e _ _ (Kbw _)
 ·refine .sl e ps g 0 cap (fun i k=>vs.getD (i*e+k) undef) (hX g rfl) (KaG.1 hg).1 ks iN (fun i x hx=>hc x (Kai hx)) ?_ ?_
  ·intro i hi j hj;have ar:i*e+j<ps.length*e:=by have:=Kaf e (show i+1<=ps.length from hi);rw[KaH]at this;omega
   have lT:i*e+j<cur.size:=by have:=Kaf e ks;omega
   have e1:vs.getD (i*e+j) undef=cur[i*e+j]:=by rw[Kao,<-bn,Kca,if_pos ar];simp[lT]
   simp only[World.cell?,Kbc,hg,e1];simp[lT]
  ·intro i x hx j y hy;obtain⟨hi,rfl⟩:=Kad.1 hx;exact hr i hi j y hy
attribute [go_sem_proc ↓] reduceIte
inductive aO where
 |t (n:Nat)
 |c (p:PV)
 deriving Inhabited
inductive cx where
 |mv (d:Nat) (x:aO)
 |pick (d:Nat) (c a b:aO)
 |bin (d:Nat) (op:BinOp) (bt:Bool) (x y:aO)
 |eqs (d:Nat) (ng:Bool) (x y:aO)
 |BF (d:Nat) (ng:Bool) (x y:aO)
 |BE (d:Nat) (x:aO)
 |BD (d:Nat) (x i:aO)
 |un (d:Nat) (op:UnOp) (x:aO)
 |conv (d:Nat) (k:IntKind) (x:aO)
 |len (d:Nat) (x:aO)
 |mx (d:Nat) (x y:aO)
 |mn (d:Nat) (x y:aO)
 |idx (d e:Nat) (x i:aO)
 |Bp (d n e:Nat) (x i:aO)
 |Br (d n e:Nat) (ag:Bool) (x i:aO)
 |cz (d off:Nat) (x:aO)
 |xL (d off n:Nat) (ag:Bool) (x:aO)
 |ld (d n:Nat) (ag:Bool) (x:aO)
 |st (n:Nat) (x v:aO)
 |box (d n ty:Nat) (v:aO)
 |alloc (d n ty:Nat) (z:PV)
 |mk (d e bytes ty:Nat) (z:PV) (l c:aO)
 |bs (d e ty:Nat) (parts:List aO)
 |app (d e bytes ty:Nat) (s x:aO)
 |tD (d e:Nat) (s x:aO)
 |sl (d e:Nat) (x:aO) (lo hi mx:Option aO)
 |ext (d:Nat) (x:aO) (i:Nat)
 |bT (d:Nat) (zero:List PV) (parts:List (Nat×Nat×aO))
 |fn (d f:Nat) (first cap:List aO)
 |call (d:Option Nat) (pr:Bool) (f:aO) (args:List aO)
 |Bw (d:Option Nat) (x:aO)
 |bad (d:Option Nat)
 deriving Inhabited
def cx.dst:cx->Option Nat
 |.mv d _| .pick d _ _ _| .bin d _ _ _ _| .eqs d _ _ _| .BF d _ _ _| .BE d _| .BD d _ _| .un d _ _| .conv d _ _| .len d _| .mx d _ _| .mn d _ _| .idx d _ _ _| .Bp d _ _ _ _| .Br d _ _ _ _ _| .cz d _ _| .xL d _ _ _ _
 |.ld d _ _ _| .box d _ _ _| .alloc d _ _ _| .mk d _ _ _ _ _ _| .bs d _ _ _| .app d _ _ _ _ _| .tD d _ _ _| .sl d _ _ _ _ _| .ext d _ _| .bT d _ _| .fn d _ _ _=>some d
 |.st _ _ _=>none
 |.call d _ _ _| .Bw d _| .bad d=>d
structure uu where
 g:Option (Nat×Bool)
 o:cx
 deriving Inhabited
inductive RT where
 |nil
 |o (g:Option (Nat×Bool)) (o:cx) (r:RT)
 |br (a b:RT)
 |wk (r:RT)
 deriving Inhabited
inductive SC where
 |skip
 |rg (r:RT)
 |raw (id:Nat) (ops:Array Oper)
 |seq (a b:SC)
 |cond (c:aO) (a b:SC)
 |block (id:Nat) (a:SC)
 |loop (a:SC)
 |exit (id:Nat)
 |ret
 deriving Inhabited
def zt:Value->Option PV
 |.int k n=>some (.int k n)
 |.bool b=>some (.bool b)
 |.string s=>some (.str s)
 |.slice none 0 0=>some .aa
 |_=>none
def rD:Value->Option PV
 |.agg cs=>(cs.toList.mapM zt).map .agg
 |v=>zt v
def bY:Operand->Option aO
 |.tmp t=>some (.t t)
 |.const v=>(rD v).map .c
 |.func f=>some (.c (.fn f [] []))
 |.global _=>none
def ee(P:Program)(t:TypeId):Option Nat:=(P.info? t).map (·.size)
def lH(P:Program)(t:TypeId):Option Bool:=(P.underlying t).map fun d=>match d with| .struct _| .array _ _=>true|_=>false
def rH(P:Program)(t:TypeId):Option TypeId:=match P.underlying t with|some (.slice e)=>some e|_=>none
def jJ(P:Program)(t:TypeId):Option (Nat×Nat×PV):=(P.info? t).bind fun i=>i.zero.bind fun z=>(rD z).map fun p=>(i.size,i.bytes,p)
def nE:Option Operand->Option (Option aO)
 |none=>some none
 |some x=>(bY x).map some
def zV(P:Program)(t:TypeId)(parts:List (Nat×Operand)):Option (List (Nat×Nat×aO)):=
 match P.underlying t with
 |some (.struct fs)=>(fs.toList.mapM fun f=>(P.info? f.type).map fun i=>(f.offset,i.size)).bind fun pl=>parts.mapM fun p=>(pl[p.1]?).bind fun q=>(bY p.2).map fun y=>(q.1,q.2,y)
 |some (.array _ e)=>(ee P e).bind fun n=>parts.mapM fun p=>(bY p.2).map fun y=>(p.1*n,n,y)
 |_=>none
def Fi(P:Program)(t:TypeId):Bool:=match P.underlying t with
 |some (.struct fs)=>match fs.toList with
  | [f, g] => f.name != "_" && g.name != "_" && f.offset == 0 && g.offset == 1 && (match P.underlying f.type with | some (.int _) => true | _ => false) && (match P.underlying g.type with | some (.int _) => true | _ => false) && !(P.stoodInHeld t) && !(P.eqGuardType P.depth t)
  |_=>false
 |_=>false
def BQ:BinOp->Option Bool
 |.eql=>some false
 |.neq=>some true
 |_=>none
def xu(P:Program)(t:TypeId):Bool:=match P.underlying t with|some .string=>true|_=>false
def yC(P:Program)(op:BinOp)(t:TypeId)(d:Nat)(x y:aO):cx:=
 match(if Fi P t then BQ op else none)with
 |some ng=>.eqs d ng x y
 |none=>match(if xu P t then BQ op else none)with
  |some ng=>.BF d ng x y
  |none=>.bin d op (match P.underlying t with|some .bool=>true|_=>false) x y
def ad6 : List String := ["geoprover/matrix.reduce", "geoprover/matrix.subtract", "geoprover/geoproverref09.echelon"]
def Pf(P:Program)(f:aO):Bool:=match f with
 |.c (.fn g _ _)=>(P.funcs[g]?).any fun fn=>ad6.contains fn.name
 |_=>false
def mo(P:Program)(draw:Bool)(o:Oper):Option cx:=
 match o.op,o.dst with
 |.move x,some d| .assign x,some d=>(bY x).map (.mv d)
 |.pick c a b,some d=>(bY c).bind fun c=>(bY a).bind fun a=>(bY b).map fun b=>.pick d c a b
 |.binOp op t x y _,some d=>(bY x).bind fun x=>(bY y).map fun y=>yC P op t d x y
 |.unOp op _ x,some d=>(bY x).map (.un d op)
 |.convert s t x,some d=>match P.underlying s,P.underlying t with
  |some _,some (.int k)=>(bY x).map (.conv d k)
  |_,_=>none
 |.indexAddr t x i,some d=>(bY x).bind fun x=>(bY i).bind fun i=>match P.underlying t with
  |some (.slice e)=>(ee P e).map fun n=>.idx d n x i
  |some (.array len e)=>(ee P e).map fun n=>.Bp d len n x i
  |_=>none
 |.index t x i,some d=>(bY x).bind fun x=>(bY i).bind fun i=>match P.underlying t with
  |some (.array len e)=>(ee P e).bind fun n=>(lH P e).map fun ag=>.Br d len n ag x i
  |some .string=>some (.BD d x i)
  |_=>none
 |.fieldAddr t x j,some d=>(bY x).bind fun x=>match P.underlying t with
  |some (.struct fs)=>(fs[j]?).bind fun f=>(ee P f.type).bind fun n=>if n=0 then none else some (.cz d f.offset x)
  |_=>none
 |.field t x j,some d=>(bY x).bind fun x=>match P.underlying t with
  |some (.struct fs)=>(fs[j]?).bind fun f=>(ee P f.type).bind fun n=>(lH P f.type).map fun ag=>.xL d f.offset n ag x
  |_=>none
 |.load t x,some d=>(bY x).bind fun x=>(ee P t).bind fun n=>(lH P t).map fun ag=>.ld d n ag x
 |.store t x v,none=>(bY x).bind fun x=>(bY v).bind fun v=>(ee P t).map fun n=>.st n x v
 |.box t v,some d=>(bY v).bind fun v=>(ee P t).map fun n=>.box d n t v
 |.alloc t,some d=>(jJ P t).map fun(n,_,z)=>.alloc d n t z
 |.makeSlice t l c,some d=>(bY l).bind fun l=>(bY c).bind fun c=>(rH P t).bind fun e=>(jJ P e).map fun(n,by_,z)=>.mk d n by_ e z l c
 |.buildSlice t len parts,some d=>(rH P t).bind fun e=>(jJ P e).bind fun r=>
   if parts.toList.map (·.1)=List.range len/\len*r.1<=16777216/\r.2.2.cells.length=r.1 then(parts.toList.mapM fun p=>bY p.2).map fun ps=>.bs d r.1 e ps else none
 |.build t parts,some d=>(jJ P t).bind fun(_,_,z)=>(zV P t parts.toList).map fun ps=>.bT d z.cells ps
 |.slice t x lo hi m,some d=>(bY x).bind fun x=>(nE lo).bind fun lo=>(nE hi).bind fun hi=>(nE m).bind fun m=>(rH P t).bind fun e=>(ee P e).map fun n=>.sl d n x lo hi m
 |.extract x i,some d=>(bY x).map fun x=>.ext d x i
 |.makeFunc (.func f) first cap,some d=>(first.toList.mapM bY).bind fun first=>(cap.toList.mapM bY).map fun cap=>.fn d f first cap
 |.nilCheck x,d=>(bY x).map fun x=>.Bw d x
 |.call c,d=>match c.callee,c.args.toList,c.argTypes.toList,d with
  |.value f,args,_,d=>(bY f).bind fun f=>(args.mapM bY).map fun args=>.call d (draw&& !Pf P f) f args
  |.builtin .len,[x],[t],some d=>if xu P t then(bY x).map fun x=>.BE d x else(rH P t).bind fun _=>(bY x).map fun x=>.len d x
  |.builtin .max,[x,y],_,some d=>(bY x).bind fun x=>(bY y).map fun y=>.mx d x y
  |.builtin .min,[x,y],_,some d=>(bY x).bind fun x=>(bY y).map fun y=>.mn d x y
  |.builtin .append,[s,x],[t,u],some d=>(bY s).bind fun s=>(bY x).bind fun x=>(rH P t).bind fun e=>if t=u then(jJ P e).bind fun r=>if r.2.2.cells.length=r.1 then some (.app d r.1 r.2.1 e s x)else none else none
  |.builtin .copy,[s,x],[t,u],some d=>(bY s).bind fun s=>(bY x).bind fun x=>(rH P t).bind fun e=>if t=u then(ee P e).map fun n=>.tD d n s x else none
  |_,_,_,_=>none
 |_,_=>none
def fN(P:Program)(draw:Bool)(o:Oper):cx:=(mo P draw o).getD (.bad o.dst)
def ry(P:Program)(n:Nat)(draw:Bool)(ops:Array Oper)(o:Oper):Option uu:=
 if o.dst.all (· <n)then
  match o.guard with
  |none=>some ⟨none,fN P draw o⟩
  |some (j,want)=>match(ops[j]?).bind (·.dst)with
   |some s=>if s<n then some ⟨some (s,want),fN P draw o⟩else none
   |none=>none
 else none
def cx.cls:cx->Nat
 |.ld .. =>1
 |.box .. | .alloc .. | .mk .. | .bs .. | .call .. | .bad _=>2
 |.st .. | .app .. | .tD .. =>3
 |_=>0
def cx.iK:cx->Bool
 |.st .. | .app .. | .tD .. =>true
 |.call _ pr _ _=> !pr
 |_=>false
def cx.aoE:cx->Bool
 |.call .. =>true
 |_=>false
def qj(ops:Array Oper):Nat->Nat->Nat->Bool
 |0,_,_=>false
 |n+1,i,j=>match ops[j]? with
  |none=>false
  |some o=>o.after.toList.any fun e=>Region.binds .any e&&(e.on==i||qj ops n i e.on)
def tj(P:Program)(ops:Array Oper)(i:Nat):Nat:=((ops[i]?).map fun o=>(fN P true o).cls).getD 9
def xm(P:Program)(dr:Bool)(ops:Array Oper)(i:Nat):Bool:=((ops[i]?).map fun o=>(fN P dr o).iK).getD false
def Fs(P:Program)(dr:Bool)(ops:Array Oper)(aW:Array Bool)(i:Nat):Bool:=
  (Region.ready .any ops aW).contains i&&Region.free .any ops aW i&&
  (match tj P ops i with
   |0=>true
   |1=>(List.range ops.size).all fun j=> !xm P dr ops j||qj ops ops.size i j
   |_=>false)
def tC:List RT->RT
 | []=>.nil
 | [r]=>r
 |r::rs=>.br r (tC rs)
def o0(P:Program)(N:Nat)(dr:Bool)(ops:Array Oper):Nat->Array Bool->Option RT
 |0,aW=>if Region.ready .any ops aW==[]then some .nil else none
 |n+1,aW=>
  if Region.ready .any ops aW==[]then some .nil else
  match(List.range ops.size).find? (Fs P dr ops aW)with
  |some i=>((ops[i]?).bind (ry P N dr ops)).bind fun g=>(o0 P N dr ops n (aW.setIfInBounds i true)).map fun r=>.o g.g g.o r
  |none=>((Region.ready .any ops aW).mapM fun i=>((ops[i]?).bind (ry P N dr ops)).bind fun g=>(o0 P N dr ops n (aW.setIfInBounds i true)).map fun r=>RT.o g.g g.o r).map tC
def zM(P:Program)(N:Nat)(dr:Bool)(ops:Array Oper):Nat->Array Bool->Option RT
 |0,aW=>if Region.ready .any ops aW==[]then some .nil else none
 | n+1,aW=>
  if Region.ready .any ops aW==[]then some .nil else
  match(List.range ops.size).find? (Fs P dr ops aW)with
  |some i=>((ops[i]?).bind (ry P N dr ops)).bind fun g=>(zM P N dr ops n (aW.setIfInBounds i true)).map fun r=>.o g.g g.o r
  |none=>match Region.ready .any ops aW with
   | [i]=>((ops[i]?).bind (ry P N dr ops)).bind fun g=>(zM P N dr ops n (aW.setIfInBounds i true)).map fun r=>.o g.g g.o r
   |_=>none
theorem B1{P:Program}{N:Nat}{dr:Bool}{ops:Array Oper}:∀(n:Nat)(aW:Array Bool)(r:RT),zM P N dr ops n aW=some r->o0 P N dr ops n aW=some r
 |0,aW,r,h=>h
 | n +1,aW,r,h=>by
  unfold zM at h;unfold o0;split
  ·rename_i hr;rw[if_pos hr]at h;exact h
  ·rename_i hr;rw[if_neg hr]at h;split at h
   ·rename_i i hf;simp only[Kab,Kaa]at h⊢;obtain⟨g,hg,r',fK,rfl⟩:=h;exact⟨g,hg,r',B1 n _ _ fK,rfl⟩
   ·rename_i hf;split at h
    ·rename_i i EN;simp only[Kab,Kaa]at h;obtain⟨g,⟨o,ho,hg⟩,r',fK,rfl⟩:=h;simp[EN,ho,hg,B1 n _ _ fK,tC]
    ·cases h
def RT.count:RT->Nat
 |.nil=>1
 |.o _ _ r=>r.count
 |.br a b=>a.count+b.count
 |.wk r=>r.count
def xw:List uu->RT
 | []=>.nil
 |g::gs=>.o g.g g.o (xw gs)
def ad7(P:Program)(ops:Array Oper):Bool:=decide (ops.size<=100)&&ops.toList.any fun o=>(fN P false o).aoE
def ad8(P:Program)(ops:Array Oper):Bool:=
 let cs:=ops.toList.map (fN P true)
 decide (100<ops.size)||4<=(cs.filter fun o=>match o with| .app .. =>true|_=>false).length||
  (3<=(cs.filter fun o=>match o with| .box .. | .alloc .. =>true|_=>false).length&&3<=(cs.filter fun o=>match o with| .st .. =>true|_=>false).length)
def zu(P:Program)(N:Nat)(ops:Array Oper)(dr:Bool)(most:Nat):Option SC:=
 if ad8 P ops then none else
 match o0 P N dr ops ops.size (Array.replicate ops.size false)with
 |some r=>if r.count<=most then some (.rg r)else none
 |none=>none
def zw(P:Program)(N:Nat)(ops:Array Oper)(draw:Bool):Option SC:=
 if draw then
  if Region.noSelect ops then
   match(if ad7 P ops then(zM P N false ops ops.size (Array.replicate ops.size false)).map .rg else none)with
   |some s=>some s
   |none=>zu P N ops true 100
  else none
 else(ops.toList.mapM (ry P N false ops)).map fun l=>.rg (xw l)
def fD(P:Program)(N:Nat):Code->Option SC
 |.skip=>some .skip
 |.region id ops draw=>match zw P N ops draw with
  |some s=>some s
  |none=>if draw then some (.raw id ops)else none
 |.seq a b=>(fD P N a).bind fun a=>(fD P N b).map fun b=>.seq a b
 |.cond c a b=>(bY c).bind fun c=>(fD P N a).bind fun a=>(fD P N b).map fun b=>.cond c a b
 |.block id a=>(fD P N a).map (.block id)
 |.loop a=>(fD P N a).map .loop
 |.exit id=>some (.exit id)
 |.ret=>some .ret
 |_=>none
inductive RV where
 |t (s:Nat)
 |cell (s n:Nat) (ag:Bool)
 deriving Inhabited
def mq(P:Program)(r:ResultVar):Option RV:=
 match r with
 |.tmp t=>some (.t t)
 |.cell a t=>(ee P t).bind fun n=>(lH P t).map fun ag=>.cell a n ag
def RT.strip:RT->RT
 |.nil=>.nil
 |.o g p r=>.o g p r.strip
 |.br a b=>.br a.strip b.strip
 |.wk r=>r.strip
def SC.strip:SC->SC
 |.rg r=>.rg r.strip
 |.seq a b=>.seq a.strip b.strip
 |.cond c a b=>.cond c a.strip b.strip
 |.block id a=>.block id a.strip
 |.loop a=>.loop a.strip
 |s=>s
theorem RN:∀l:List uu,(xw l).strip=xw l
 | []=>rfl
 |g::gs=>by simp only[xw,RT.strip,RN gs]
theorem SR:∀l:List RT,(∀r∈l,r.strip=r)->(tC l).strip=tC l
 | [],_=>rfl
 | [r],h=>h r (by simp)
 |r::s::l,h=>by have:=SR (s::l) fun x hx=>h x (Kbl _ hx);simp only[tC,RT.strip,h r (by simp),this]
theorem Nc{α β:Type}{f:α->Option β}{Q:β->Prop}(hf:∀a b,f a=some b->Q b):∀(l:List α)(rs:List β),l.mapM f=some rs->∀r∈rs,Q r
 | [],rs,h=>by simp at h;subst h;simp
 |a::l,rs,h=>by
  simp only[KcR,Kcy,KcW,Kab,KaB]at h;obtain⟨b,h1,bs,h2,rfl⟩:=h;intro r hr;rcases KaO.1 hr with rfl|hr
  ·exact hf _ _ h1
  ·exact Nc hf l bs h2 r hr
theorem B2{P:Program}{N:Nat}{dr:Bool}{ops:Array Oper}:∀(n:Nat)(aW:Array Bool)(r:RT),o0 P N dr ops n aW=some r->r.strip=r
 |0,aW,r,h=>by
  unfold o0 at h;split at h
  ·cases h;rfl
  ·cases h
 | n+1,aW,r,h=>by
  unfold o0 at h;split at h
  ·cases h;rfl
  ·split at h
   ·simp only[Kab,Kaa]at h;obtain⟨g,_,r',fK,rfl⟩:=h;simp only[RT.strip,B2 n _ _ fK]
   ·simp only[Kaa]at h;obtain⟨rs,fj,rfl⟩:=h;refine SR rs (Nc (fun i b hb=>?_) _ rs fj);simp only[Kab,Kaa]at hb;obtain⟨g,_,r',fK,rfl⟩:=hb;simp only[RT.strip,B2 n _ _ fK]
theorem Qxb{P:Program}{N:Nat}{ops:Array Oper}{draw:Bool}{s:SC}(h:zw P N ops draw=some s):s.strip=s:=by
 unfold zw at h;split at h
 ·split at h
  ·have key:∀(dr:Bool) (most:Nat) (s:SC),zu P N ops dr most=some s->s.strip=s:=fun dr most s hc=>by
    unfold zu at hc;split at hc
    ·cases hc
    split at hc
    ·rename_i r hr;split at hc
     ·cases hc;simp only[SC.strip,B2 _ _ _ hr]
     ·cases hc
    ·cases hc
   split at h
   ·rename_i s' dY;cases h;split at dY
    ·simp only[Kaa]at dY;obtain⟨r,hr,rfl⟩:=dY;simp only[SC.strip,B2 _ _ _ (B1 _ _ _ hr)]
    ·cases dY
   ·exact key _ _ _ h
  ·cases h
 ·simp only[Kaa]at h;obtain⟨gs,_,rfl⟩:=h;simp only[SC.strip,RN]
theorem WT{P:Program}{N:Nat}:∀(c:Code)(s:SC),fD P N c=some s->s.strip=s:=by
 intro c;induction c with
 |skip=>intro s h;simp[fD]at h;subst h;rfl
 | region id ops draw=>
  intro s h;simp only[fD]at h;split at h
  ·rename_i s' dY;cases h;exact Qxb dY
  ·split at h
   ·cases h;rfl
   ·cases h
 |seq x y kA v9=>intro s h;simp only[fD,Kab,Kaa]at h;obtain⟨sx,hx,sy,hy,rfl⟩:=h;simp only[SC.strip,kA _ hx,v9 _ hy]
 |cond c x y kA v9=>intro s h;simp only[fD,Kab,Kaa]at h;obtain⟨pc,fV,sx,hx,sy,hy,rfl⟩:=h;simp only[SC.strip,kA _ hx,v9 _ hy]
 |block id x kA=>intro s h;simp only[fD,Kaa]at h;obtain⟨sx,hx,rfl⟩:=h;simp only[SC.strip,kA _ hx]
 |loop x kA=>intro s h;simp only[fD,Kaa]at h;obtain⟨sx,hx,rfl⟩:=h;simp only[SC.strip,kA _ hx]
 |exit id=>intro s h;simp[fD]at h;subst h;rfl
 |ret=>intro s h;simp[fD]at h;subst h;rfl
 |_=>intro s h;simp[fD]at h
structure az where
 n:Nat
 rs:List RV
 body:SC
 deriving Inhabited
def Qe(P:Program)(f:Func):Option az:=
 f.body.bind fun c=>(fD P f.ntmps c).bind fun b=>(f.results.toList.mapM (mq P)).map fun rs=>⟨f.ntmps,rs,b⟩
def az.strip(s:az):az:=⟨s.n,s.rs,s.body.strip⟩
abbrev Zo(o:cx)(r:RT):RT:=.o none o r
abbrev Zg(g:Nat)(b:Bool)(o:cx)(r:RT):RT:=.o (some (g,b)) o r
abbrev Zm(d x:Nat)(r:RT):RT:=.o none (.mv d (.t x)) r
abbrev Zc(d:Nat)(n:Int)(r:RT):RT:=.o none (.mv d (.c (.int .i64 n))) r
abbrev Zf(d o x:Nat)(r:RT):RT:=.o none (.cz d o (.t x)) r
abbrev Zl(d n x:Nat)(r:RT):RT:=.o none (.ld d n false (.t x)) r
abbrev Zh(d n x:Nat)(r:RT):RT:=.o none (.ld d n true (.t x)) r
abbrev Zs(n x v:Nat)(r:RT):RT:=.o none (.st n (.t x) (.t v)) r
abbrev Zi(d e x i:Nat)(r:RT):RT:=.o none (.idx d e (.t x) (.t i)) r
abbrev Zb(d:Nat)(o:BinOp)(x y:Nat)(r:RT):RT:=.o none (.bin d o false (.t x) (.t y)) r
abbrev Zk(d:Nat)(o:BinOp)(x:Nat)(n:Int)(r:RT):RT:=.o none (.bin d o false (.t x) (.c (.int .i64 n))) r
abbrev Zn(d x:Nat)(r:RT):RT:=.o none (.len d (.t x)) r
abbrev Zu(d x:Nat)(r:RT):RT:=.o none (.un d .not (.t x)) r
abbrev Zq(d:Nat)(p:Bool)(f:Nat)(l:List aO)(r:RT):RT:=.o none (.call (some d) p (.c (.fn f [] [])) l) r
abbrev Zr(r:RT)(y:SC):SC:=.seq (.rg r) y
abbrev Zz(n:Int):PV:=.int .i64 n
theorem D0{p:Prop}(h:p:=by first|omega|rfl|(simp+decide only[go_sem]<;>rfl)|fail):p:=h
theorem D1{p A0:Prop}(x0:A0)(h:A0->p:=by intro x0;first|omega|rfl|(simp+decide only[go_sem,x0]<;>rfl)|fail):p:=h x0
theorem D2{p A0 A1:Prop}(x0:A0)(x1:A1)(h:A0->A1->p:=by intro x0 x1;first|omega|rfl|(simp+decide only[go_sem,x0,x1]<;>rfl)|fail):p:=h x0 x1
theorem D3{p A0 A1 A2:Prop}(x0:A0)(x1:A1)(x2:A2)(h:A0->A1->A2->p:=by intro x0 x1 x2;first|omega|rfl|(simp+decide only[go_sem,x0,x1,x2]<;>rfl)|fail):p:=h x0 x1 x2
theorem D4{p A0 A1 A2 A3:Prop}(x0:A0)(x1:A1)(x2:A2)(x3:A3)(h:A0->A1->A2->A3->p:=by intro x0 x1 x2 x3;first|omega|rfl|(simp+decide only[go_sem,x0,x1,x2,x3]<;>rfl)|fail):p:=h x0 x1 x2 x3
theorem D5{p A0 A1 A2 A3 A4:Prop}(x0:A0)(x1:A1)(x2:A2)(x3:A3)(x4:A4)(h:A0->A1->A2->A3->A4->p:=by intro x0 x1 x2 x3 x4;first|omega|rfl|(simp+decide only[go_sem,x0,x1,x2,x3,x4]<;>rfl)|fail):p:=h x0 x1 x2 x3 x4
theorem D6{p A0 A1 A2 A3 A4 A5:Prop}(x0:A0)(x1:A1)(x2:A2)(x3:A3)(x4:A4)(x5:A5)(h:A0->A1->A2->A3->A4->A5->p:=by intro x0 x1 x2 x3 x4 x5;first|omega|rfl|(simp+decide only[go_sem,x0,x1,x2,x3,x4,x5]<;>rfl)|fail):p:=h x0 x1 x2 x3 x4 x5
theorem E0{p:Prop}(h:p:=by first|omega|rfl|(simp+decide only[go_sem,dV,Kav,KaC,Kau,KaA,Kak]<;>rfl)|fail):p:=h
theorem E1{p A0:Prop}(x0:A0)(h:A0->p:=by intro x0;first|omega|rfl|(simp+decide only[go_sem,dV,Kav,KaC,Kau,KaA,Kak,x0]<;>rfl)|fail):p:=h x0
theorem E2{p A0 A1:Prop}(x0:A0)(x1:A1)(h:A0->A1->p:=by intro x0 x1;first|omega|rfl|(simp+decide only[go_sem,dV,Kav,KaC,Kau,KaA,Kak,x0,x1]<;>rfl)|fail):p:=h x0 x1
abbrev Fr:=Nat->PV
structure HB where
 e:Nat
 ty:TypeId
 xs:List PV
 fz:Bool
abbrev HP:=Nat->Option HB
def af(f:Fr)(a:Nat)(v:PV):Fr:=fun b=>if b=a then v else f b
def Qy(h:HP)(a:Nat)(v:HB):HP:=fun b=>if b=a then some v else h b
def bE:Fr:=fun _=>.undef
def aE:HP:=fun _=>none
def b9(β:Nat):Bool:=decide (1000000<=β)
def bG(β:Nat):Bool:=decide (1000000<=β)&&decide (β<2000000)
def iW(β:Nat):Bool:=decide (1500000<=β)&&decide (β<2000000)
theorem DC{β:Nat}(h:bG β=false):iW β=false:=by simp[bG]at h;simp[iW];omega
theorem uZ{β:Nat}(h:b9 β=false):bG β=false:=by simp[b9]at h;simp[bG];omega
def PV.bN:PV->List Nat
 |.mp β _ _=>[β]
 |.ax β _ _| .rb β _ _=>[β]
 |_=>[]
def PV.refs:PV->List Nat
 |.mp β _ _=>[β]
 |.ax β _ _| .rb β _ _=>[β]
 |.fn _ first cap=>first.flatMap PV.bN++cap.flatMap PV.bN
 |_=>[]
def PV.kB:PV->Bool
 |.mp .. | .ax .. | .rb .. | .int .. | .bool _| .aa| .sl .. | .pt _| .np .. | .aM .. =>true
 |_=>false
def PV.dP:PV->List Nat
 |.ax β _ _=>[β]
 |.aM γ _ _| .np γ _ _=>[γ]
 |_=>[]
def PV.ep:PV->List Nat
 |.aM γ _ _| .np γ _ _=>[γ]
 |_=>[]
def PV.bS:PV->List Nat
 |.aM γ _ _| .np γ _ _=>[γ]
 |.aT cs=>cs.flatMap PV.dP
 |.eO cs=>cs.flatMap PV.dP
 |.eP cs _=>cs.flatMap PV.dP
 |.aN γ _ _ xs=>γ::xs.flatMap fun x=>x.bj.flatMap PV.dP
 |.fn _ first cap=>first.flatMap PV.ep++cap.flatMap PV.ep
 |_=>[]
def bX(β:Nat)(p:PV):PV:=if p.refs.contains β then .undef else p
def cI(β:Nat)(fr:Fr):Fr:=fun i=>bX β (fr i)
def cB(hp:HP):PV->PV
 |.mp β i o=>if bG β then .undef else match hp β with
  |some hb=>match hb.xs[i]? with
   |some x=>.pt (x.cells.drop o)
   |none=>.undef
  |none=>.undef
 |.ax β o n=>if bG β then .undef else match hp β with
  |some hb=>.sl hb.e ((hb.xs.drop o).take n)
  |none=>.undef
 |.rb _ _ _| .aM _ _ _| .np _ _ _| .aT _| .eO _| .eP _ _| .aN _ _ _ _=>.undef
 |p=>p
def aK(hp:HP):PV->PV
 |.fn f first cap=>.fn f (first.map (cB hp)) (cap.map (cB hp))
 |p=>cB hp p
def cb(hp:HP)(l:List Nat):HP:=fun β=>if l.contains β then(hp β).map fun hb=>{ hb with fz:=true }else hp β
def ev(fr:Fr):aO->PV
 |.t n=>fr n
 |.c p=>p
def eE:Bool->Nat->Nat->PV->PV
 |true,n,o,x=>.agg ((x.cells.drop o).take n)
 |false,_,o,x=>(x.cells.drop o).headD .undef
def ra(x:PV)(o:Nat)(v:PV):PV:=.agg (x.cells.take o++v.cells++x.cells.drop (o+v.cells.length))
def PV.oe:PV->Bool
 |.ax .. | .aM .. | .undef=>true
 |_=>false
def nA(cs:List PV):PV:=if cs.any PV.oe then .aT cs else .agg cs
def gQ:List PV->PV
 | [c]=>c
 |cs=>nA cs
def qX(ag:Bool)(n o:Nat)(x:PV):PV:=if ag then nA ((x.bj.drop o).take n)else(x.bj.drop o).headD .undef
def fl:PV->Option (List PV)
 |.aT cs=>if cs.all PV.gU then some cs else none
 |.aM γ o n=>some [.aM γ o n]
 |.ax β o n=>if b9 β then some [.ax β o n]else none
 |.int k n=>some [.int k n]
 |.bool b=>some [.bool b]
 |.aa=>some [.aa]
 |.sl e xs=>some [.sl e xs]
 |.pt cs=>some [.pt cs]
 |.agg cs=>some cs
 |_=>none
def pg(l:List PV)(o:Nat)(cs:List PV):List PV:=l.take o++cs++l.drop (o+cs.length)
def iZ(γ:Nat):PV->PV
 |.aN bB e ty xs=>if bB=γ then .undef else .aN bB e ty xs
 |p=>p
def iF(γ:Nat)(fr:Fr):Fr:=fun i=>iZ γ (fr i)
def im(β:Nat):PV->PV
 |.ax du o n=>if du=β then .undef else .ax du o n
 |.aM γ o n=>if γ=β then .undef else .aM γ o n
 |p=>p
def cZ(β:Nat):PV->PV
 |.aN γ e ty xs=>if γ=β then .undef else .aN γ e ty (xs.map fun x=>gQ (x.bj.map (im β)))
 |.aT cs=>.aT (cs.map (im β))
 |.eO cs=>.eO (cs.map (im β))
 |.eP cs q=>.eP (cs.map (im β)) q
 |.aM γ o n=>if γ=β then .undef else .aM γ o n
 |.np γ i o=>if γ=β then .undef else .np γ i o
 |.fn f first cap=>if(first.flatMap PV.ep++cap.flatMap PV.ep).contains β then .undef else bX β (.fn f first cap)
 |p=>bX β p
def fF(β:Nat)(fr:Fr):Fr:=fun i=>cZ β (fr i)
abbrev Qg:=Fr->HP->Prop
def ck(op:BinOp)(bt:Bool)(a b:PV)(d:Nat)(fr:Fr)(hp:HP)(K:Qg):Prop:=
 match a,b with
 |.int k x,.int k' y=>
  match op with
  |.shl=>0<=y/\K (af fr d (.int k (k.wrap (x*2^(min y.toNat k.bits))))) hp
  |.shr=>0<=y/\K (af fr d (.int k (x.fdiv (2^(min y.toNat k.bits))))) hp
  |.add=>k=k'/\K (af fr d (.int k (k.wrap (x+y)))) hp
  |.sub=>k=k'/\K (af fr d (.int k (k.wrap (x-y)))) hp
  |.mul=>k=k'/\K (af fr d (.int k (k.wrap (x*y)))) hp
  |.quo=>k=k'/\y≠0/\K (af fr d (.int k (k.wrap (x.tdiv y)))) hp
  |.rem=>k=k'/\y≠0/\K (af fr d (.int k (x.tmod y))) hp
  |.and=>k=k'/\K (af fr d (.int k (k.wrap (BitVec.ofInt k.bits x&&&BitVec.ofInt k.bits y).toNat))) hp
  |.or=>k=k'/\K (af fr d (.int k (k.wrap (BitVec.ofInt k.bits x|||BitVec.ofInt k.bits y).toNat))) hp
  |.xor=>k=k'/\K (af fr d (.int k (k.wrap (BitVec.ofInt k.bits x^^^BitVec.ofInt k.bits y).toNat))) hp
  |.andNot=>False
  |.eql=>k=k'/\K (af fr d (.bool (decide (x=y)))) hp
  |.neq=>k=k'/\K (af fr d (.bool (!decide (x=y)))) hp
  |.lss=>k=k'/\K (af fr d (.bool (decide (x<y)))) hp
  |.leq=>k=k'/\K (af fr d (.bool (decide (x<=y)))) hp
  |.gtr=>k=k'/\K (af fr d (.bool (decide (y<x)))) hp
  |.geq=>k=k'/\K (af fr d (.bool (decide (y<=x)))) hp
 |.bool x,.bool y=>
  match op with
  |.eql=>bt=true/\K (af fr d (.bool (x==y))) hp
  |.neq=>bt=true/\K (af fr d (.bool (!(x==y)))) hp
  |_=>False
 |_,_=>False
def qu(ng:Bool)(a b:PV)(d:Nat)(fr:Fr)(hp:HP)(K:Qg):Prop:=
 match a,b with
 |.agg [.int k x,.int l y],.agg [.int k' x',.int l' y']=>k=k'/\l=l'/\K (af fr d (.bool (ng !=(decide (x=x')&&decide (y=y'))))) hp
 |_,_=>False
def qv(ng:Bool)(a b:PV)(d:Nat)(fr:Fr)(hp:HP)(K:Qg):Prop:=
 match a,b with
 |.str x,.str y=>K (af fr d (.bool (ng !=decide (x=y)))) hp
 |_,_=>False
def vh(a:PV)(d:Nat)(fr:Fr)(hp:HP)(K:Qg):Prop:=
 match a with
 |.str s=>K (af fr d (.int .i64 s.size)) hp
 |_=>False
def tp(a i:PV)(d:Nat)(fr:Fr)(hp:HP)(K:Qg):Prop:=
 match a,i with
 |.str s,.int _ n=>0<=n/\n<s.size/\K (af fr d (.int .u8 (s.get! n.toNat).toNat)) hp
 |_,_=>False
def rI(c a b:PV)(d:Nat)(fr:Fr)(hp:HP)(K:Qg):Prop:=
 match c with
 |.bool t=>(t=true->K (af fr d a) hp)/\(t=false->K (af fr d b) hp)
 |_=>False
def uo(op:UnOp)(a:PV)(d:Nat)(fr:Fr)(hp:HP)(K:Qg):Prop:=
 match op,a with
 |.not,.bool b=>K (af fr d (.bool !b)) hp
 |.neg,.int k n=>K (af fr d (.int k (k.wrap (0-n)))) hp
 |_,_=>False
def u9(k:IntKind)(a:PV)(d:Nat)(fr:Fr)(hp:HP)(K:Qg):Prop:=
 match a with
 |.int _ n=>K (af fr d (.int k (k.wrap n))) hp
 |_=>False
def ox(a:PV)(d:Nat)(fr:Fr)(hp:HP)(K:Qg):Prop:=
 match a with
 |.aa=>K (af fr d (.int .i64 0)) hp
 |.sl _ xs=>K (af fr d (.int .i64 xs.length)) hp
 |.ax _ _ n=>K (af fr d (.int .i64 n)) hp
 |.aM _ _ n=>K (af fr d (.int .i64 n)) hp
 |_=>False
def we(a b:PV)(d:Nat)(fr:Fr)(hp:HP)(K:Qg):Prop:=
 match a,b with
 |.int k x,.int _ y=>K (af fr d (.int k (max x y))) hp
 |_,_=>False
def wc(a b:PV)(d:Nat)(fr:Fr)(hp:HP)(K:Qg):Prop:=
 match a,b with
 |.int k x,.int _ y=>K (af fr d (.int k (min x y))) hp
 |_,_=>False
def dG(e:Nat)(a i:PV)(d:Nat)(fr:Fr)(hp:HP)(K:Qg):Prop:=
 match a,i with
 |.sl e' xs,.int _ n=>e=e'/\0<=n/\∃h:n.toNat<xs.length,K (af fr d (.pt (xs[n.toNat]'h).cells)) hp
 |.ax β o m,.int _ n=>0<=n/\n.toNat<m/\(hp β).map (·.e)=some e/\K (af fr d (.mp β (o+n.toNat) 0)) hp
 |.aM γ o m,.int _ n=>0<=n/\n.toNat<m/\(hp γ).map (·.e)=some e/\K (af fr d (.np γ (o+n.toNat) 0)) hp
 |_,_=>False
def qn(len e:Nat)(a i:PV)(d:Nat)(fr:Fr)(hp:HP)(K:Qg):Prop:=
 match a,i with
 |.mp β j o,.int _ n=>0<=n/\n<len/\K (af fr d (.mp β j (o+n.toNat*e))) hp
 |.pt cs,.int _ n=>0<=n/\n<len/\n.toNat*e<=cs.length/\K (af fr d (.pt (cs.drop (n.toNat*e)))) hp
 |_,_=>False
def xx(len e:Nat)(ag:Bool)(a i:PV)(d:Nat)(fr:Fr)(hp:HP)(K:Qg):Prop:=
 match a,i with
 |.agg cs,.int _ n=>0<=n/\n<len/\n.toNat*e+e<=cs.length/\(ag=false->e=1)/\K (af fr d (eE ag e (n.toNat*e) (.agg cs))) hp
 |_,_=>False
def qw(off:Nat)(a:PV)(d:Nat)(fr:Fr)(hp:HP)(K:Qg):Prop:=
 match a with
 |.mp β i o=>K (af fr d (.mp β i (o+off))) hp
 |.np γ i o=>K (af fr d (.np γ i (o+off))) hp
 |.pt cs=>off<=cs.length/\K (af fr d (.pt (cs.drop off))) hp
 |_=>False
def qo(off n:Nat)(ag:Bool)(a:PV)(d:Nat)(fr:Fr)(hp:HP)(K:Qg):Prop:=
 match a with
 |.agg cs=>off+n<=cs.length/\(ag=false->n=1)/\K (af fr d (eE ag n off (.agg cs))) hp
 |.aT cs=>off+n<=cs.length/\(ag=false->n=1)/\K (af fr d (qX ag n off (.aT cs))) hp
 |_=>False
def kE(n:Nat)(ag:Bool)(a:PV)(d:Nat)(fr:Fr)(hp:HP)(K:Qg):Prop:=
 match a with
 |.mp β i o=>match hp β with
  |some hb=>∃h:i<hb.xs.length,o+n<=hb.e/\(ag=false->n=1)/\K (af fr d (eE ag n o (hb.xs[i]'h))) hp
  |none=>False
 |.pt cs=>n<=cs.length/\(ag=false->n=1)/\K (af fr d (eE ag n 0 (.agg cs))) hp
 |.rb β o m=>n=1/\ag=false/\K (af fr d (.ax β o m)) hp
 |.np γ i o=>match fr γ with
  |.aN bB e _ xs=>bB=γ/\∃h:i<xs.length,o+n<=e/\(ag=false->n=1)/\K (af fr d (qX ag n o (xs[i]'h))) hp
  |_=>False
 |_=>False
def oQ (n:Nat) (a v:PV) (fr:Fr) (hp:HP) (K:Qg):Prop:=
 match a with
 |.mp β i o=>match cb hp v.refs β with
  | some hb=>hb.fz=false/\(aK hp v).aD=true/\(aK hp v).cells.length=n/\∃h:i<hb.xs.length,o+n<=hb.e/\
    K fr (Qy (cb hp v.refs) β { hb with xs:=hb.xs.set i (if n=hb.e then aK hp v else ra (hb.xs[i]'h) o (aK hp v)) })
  |none=>False
 |.np γ i o=>match fr γ with
  |.aN bB e ty xs=>bB=γ/\(∃hb,hp γ=some hb/\hb.fz=false)/\∃h:i<xs.length,o+n<=e/\match fl v with
   |some cs=>cs.length=n/\K (af (iF γ fr) γ (.aN γ e ty (xs.set i (gQ (pg (xs[i]'h).bj o cs))))) hp
   |none=>False
  |_=>False
 |_=>False
def cX(d:Nat):Nat:=4000000+d
def tq(n ty:Nat)(cs:List PV)(d:Nat)(fr:Fr)(hp:HP)(K:Qg):Prop:=
 (cs.length=n/\0<n/\cs.all PV.gU=true/\cs.all (fun x=> !(x.dP.contains (cX d)))=true)/\
  K (af (af (fF (cX d) fr) (cX d) (.aN (cX d) n ty [.aT cs])) d (.np (cX d) 0 0)) (Qy hp (cX d) ⟨n,ty,[],false⟩)
def fR(n ty:Nat)(v:PV)(d:Nat)(fr:Fr)(hp:HP)(K:Qg):Prop:=
 match v with
 |.aT cs=>tq n ty cs d fr hp K
 |v=>match(match v with| .ax β o m=>if bG β then some (β,o,m)else none|_=>none)with
 |some (β,o,m)=>K (af fr d (.rb β o m)) hp
 |none=>
 (aK hp v).aD=true/\(aK hp v).cells.length=n/\0<n/\K (af (cI d fr) d (.mp d 0 0)) (Qy (cb hp v.refs) d ⟨n,ty,[aK hp v],false⟩)
def m8(e by_ ty:Nat)(z l c:PV)(d:Nat)(fr:Fr)(hp:HP)(K:Qg):Prop:=
 match l,c with
 |.int _ L,.int _ C=>0<e/\z.cells.length=e/\0<=L/\L<=C/\by_*C<=281474976710656/\C<=9223372036854775807/\
   K (af (cI d fr) d (.ms d L.toNat)) (Qy hp d ⟨e,ty,List.replicate L.toNat z,false⟩)
 |_,_=>False
def HA(hp:HP)(e:Nat)(ps:List PV):Prop:=∀p∈ps,(aK hp p).aD=true/\(aK hp p).cells.length=e
def lE:PV->Bool
 |.ax β 0 _=>decide (5000000<=β)
 |_=>false
def oy:List PV->Bool
 | [x]=>lE x
 |_=>false
def TX(e ty:Nat)(ps:List PV)(d:Nat)(fr:Fr)(hp:HP)(K:Qg):Prop:=
 e=1/\K (af (af (fF (cX d) fr) (cX d) (.aN (cX d) 1 ty ps)) d (.aM (cX d) 0 1)) (Qy hp (cX d) ⟨1,ty,[],false⟩)
def xy (e by_ ty:Nat) (s x:PV) (d:Nat) (fr:Fr) (hp:HP) (K:Qg):Prop:=
 match x with
 |.aM δ 0 1=>match fr δ with
  |.aN M6 1 _ [y]=>M6=δ/\lE y=true/\e=1/\
   match s with
   |.aa=>by_<=140737488355328/\K (af (af (fF (cX d) fr) (cX d) (.aN (cX d) 1 ty [y])) d (.aM (cX d) 0 1)) (Qy hp (cX d) ⟨1,ty,[],false⟩)
   |.aM γ 0 k=>match fr γ with
    |.aN bB 1 oh xs=>(bB=γ/\γ<5000000/\bG γ=false/\oh=ty/\k=xs.length/\xs.all lE=true/\(k+1)*by_<=140737488355328/\k+1<=9223372036854775807)/\(∃hb,hp γ=some hb/\hb.fz=false)/\
      K (af (af (fF γ fr) γ (.aN γ 1 ty (xs++[y]))) d (.aM γ 0 (k+1))) (Qy hp γ ⟨1,ty,[],false⟩)
    |_=>False
   |_=>False
  |_=>False
 |_=>False
def DQ(e ty:Nat)(ps:List PV)(d:Nat)(fr:Fr)(hp:HP)(K:Qg):Prop:=
 0<e/\HA hp e ps/\K (af (cI d fr) d (.ms d ps.length)) (Qy (cb hp (ps.flatMap PV.refs)) d ⟨e,ty,ps.map (aK hp),false⟩)
def nM(e ty:Nat)(ps:List PV)(d:Nat)(fr:Fr)(hp:HP)(K:Qg):Prop:=if oy ps=true then TX e ty ps d fr hp K else DQ e ty ps d fr hp K
def jt(hp:HP):PV->Option (Nat×List PV)
 |.aa=>some (0,[])
 |.sl e xs=>some (e,xs)
 |.ax β o n=>(hp β).map fun hb=>(hb.e,(hb.xs.drop o).take n)
 |_=>none
def iH (e by_ ty:Nat) (s x:PV) (d:Nat) (fr:Fr) (hp:HP) (K:Qg):Prop:=
 match jt hp x with
 |none=>xy e by_ ty s x d fr hp K
 | some (e',ys)=>0<e/\(e'=e∨ys=[])/\
  match s with
  |.aa=>ys.length*by_<=140737488355328/\ys.length<=9223372036854775807/\
    K (af (cI d fr) d (.ms d ys.length)) (Qy hp d ⟨e,ty,ys,false⟩)
  |.ax β 0 n=>match hp β with
   | some hb=>(b9 β=false/\hb.fz=false/\hb.e=e/\hb.ty=ty/\n<=hb.xs.length/\(n+ys.length)*by_<=140737488355328/\n+ys.length<=9223372036854775807/\
     K (af (cI β fr) d (.ms β (n+ys.length))) (Qy hp β ⟨e,ty,hb.xs.take n++ys,false⟩))∨
    (b9 β=true/\bG β=false/\(ys≠[]/\hb.fz=false/\hb.e=e/\hb.ty=ty/\n<=hb.xs.length/\(n+ys.length)*by_<=140737488355328/\n+ys.length<=9223372036854775807)/\
     K (af (fF β fr) d (.ms β (n+ys.length))) (Qy hp β ⟨e,ty,hb.xs.take n++ys,false⟩))
   |none=>False
  |_=>False
def tt (e:Nat) (s x:PV) (d:Nat) (fr:Fr) (hp:HP) (K:Qg):Prop:=
 match jt hp x,s with
 |some (e',ys),.ax β 0 n=>match hp β with
  | some hb=>0<e/\hb.fz=false/\hb.e=e/\(e'=e∨ys=[])/\n=hb.xs.length/\
    K (af fr d (.int .i64 (min (ys.length:Int) n))) (Qy hp β { hb with xs:=ys.take n++hb.xs.drop ys.length })
  |none=>False
 |_,_=>False
def il(d:Int):Option PV->Option Int
 |none=>some d
 |some (.int _ n)=>some n
 |some _=>none
def iA(e:Nat)(a:PV)(lo hi mx:Option PV)(d:Nat)(fr:Fr)(hp:HP)(K:Qg):Prop:=
 match a with
 |.aa=>match il 0 lo,il 0 hi,il 0 mx with
  |some L,some H,some M=>L=0/\H=0/\M=0/\(mx.isSome->hi.isSome)/\K (af fr d .aa) hp
  |_,_,_=>False
 |.sl e' xs=>match il 0 lo,il xs.length hi,il xs.length mx with
  |some L,some H,some M=>e'=e/\0<=L/\L<=H/\H<=M/\M<=xs.length/\(mx.isSome->hi.isSome)/\K (af fr d (.sl e ((xs.take H.toNat).drop L.toNat))) hp
  |_,_,_=>False
 |.ax β o n=>match il 0 lo,il n hi,mx with
  |some L,some H,none=>(hp β).map (·.e)=some e/\0<=L/\L<=H/\H<=n/\(L=0∨L<n)/\K (af fr d (.ax β (o+L.toNat) (H.toNat-L.toNat))) hp
  |_,_,_=>False
 |_=>False
def ki(a:PV)(i:Nat)(d:Nat)(fr:Fr)(hp:HP)(K:Qg):Prop:=
 match a with
 |.au ps=>match ps[i]? with
  |some p=>p.aD=true/\K (af fr d p) hp
  |none=>False
 |.eO ps=>match ps[i]? with
  |some p=>K (af fr d p) hp
  |none=>False
 |.eP cs q=>match i with
  |0=>K (af fr d (.aT cs)) hp
  |1=>K (af fr d q) hp
  |_=>False
 |_=>False
def gZ(cells:List PV):List (Nat×List PV)->List PV
 | []=>cells
 |(o,xs)::r=>gZ (cells.take o++xs++cells.drop (o+xs.length)) r
def Ft(hp:HP)(len:Nat)(ps:List (Nat×Nat×PV)):Prop:=∀p∈ps,(aK hp p.2.2).aD=true/\(aK hp p.2.2).cells.length=p.2.1/\p.1+p.2.1<=len
def z8(zero:List PV)(ps:List (Nat×Nat×PV))(d:Nat)(fr:Fr)(hp:HP)(K:Qg):Prop:=
 Ft hp zero.length ps/\K (af fr d (.agg (gZ zero (ps.map fun p=>(p.1,(aK hp p.2.2).cells))))) (cb hp (ps.flatMap fun p=>p.2.2.refs))
def PV.kD:PV->Bool
 |.aM .. | .aT _=>true
 |.ax β _ _=>decide (2000000<=β)
 |_=>false
def s0(len:Nat)(ps:List (Nat×Nat×PV)):Prop:=∀p∈ps,∃cs,fl p.2.2=some cs/\cs.length=p.2.1/\p.1+p.2.1<=len
def kn(zero:List PV)(ps:List (Nat×Nat×PV))(d:Nat)(fr:Fr)(hp:HP)(K:Qg):Prop:=
 if ps.any (fun p=>p.2.2.kD)then s0 zero.length ps/\K (af fr d (.aT (gZ zero (ps.map fun p=>(p.1,(fl p.2.2).getD []))))) hp
 else z8 zero ps d fr hp K
def z9(a:PV)(d:Option Nat)(fr:Fr)(hp:HP)(K:Qg):Prop:=
 match a,d with
 |.mp _ _ _,some d| .pt _,some d| .fn _ _ _,some d=>K (af fr d a) hp
 |.mp _ _ _,none| .pt _,none| .fn _ _ _,none=>K fr hp
 |_,_=>False
structure Ctx where
 P:Program
 N:Nat
 w0:World
 X0:Nat->Prop
 Em:∀b,X0 b->b<w0.heap.size
 hN:N<=1000000
 fx:Nat->Option Nat
 oI:∀β b,fx β=some b->b<w0.heap.size/\(iW β=false->¬X0 b)
 Z0:Nat->Prop
 LC:∀b,Z0 b->b<w0.heap.size/\¬X0 b/\∀β,fx β≠some b
@[reducible] def Ctx.plain (P : Program) (N : Nat) (w : World) (X : Nat -> Prop) (hX : ∀ b, X b -> b < w.heap.size) (hN : N <= 1000000) : Ctx :=
 ⟨P, N, w, X, hX, hN, fun _ => none, (fun _ _ h => nomatch h), bO, fun _ h => h.elim⟩
def Ctx.Y0(C:Ctx):Nat->Prop:=fun b=>(∃β,iW β=false/\C.fx β=some b)∨C.Z0 b
theorem Ctx.hY0(C:Ctx):∀b,C.Y0 b->b<C.w0.heap.size/\¬C.X0 b
 |b,.inl ⟨β,hr,h⟩=>⟨(C.oI β b h).1,(C.oI β b h).2 hr⟩
 |b,.inr h=>⟨(C.LC b h).1,(C.LC b h).2.1⟩
theorem Ctx.MQ{P:Program}{N:Nat}{w w':World}{X:Nat->Prop}{hX:∀b,X b->b<w.heap.size}{hN:N<=1000000}(h:Ext (Ctx.plain P N w X hX hN).Y0 w w'):Ext bO w w':=
 h.mono fun b _ hb=>by
  rcases hb with⟨β,_,hb⟩|hb
  ·cases hb
  ·exact hb
def Ctx.cls(C:Ctx)(β b:Nat):Prop:=if bG β=true then C.fx β=some b else C.w0.heap.size<=b∨C.Z0 b
theorem Ctx.La{C:Ctx}{β b:Nat}(h:C.cls β b)(hr:iW β=false):C.w0.heap.size<=b∨C.Y0 b:=by
 unfold Ctx.cls at h;split at h
 ·exact .inr (.inl ⟨β,hr,h⟩)
 ·exact h.imp id .inr
theorem Ctx.DS{C:Ctx}{β b:Nat}(h:C.cls β b)(hB:bG β=false):C.w0.heap.size<=b∨C.Z0 b:=by
 unfold Ctx.cls at h
 rwa[if_neg (by simp[hB])]at h
theorem Ctx.ali{C:Ctx}{β b:Nat}(h:C.w0.heap.size<=b∨C.Z0 b)(hB:bG β=false):C.cls β b:=by
 unfold Ctx.cls
 rwa[if_neg (by simp[hB])]
theorem Ctx.WM{C:Ctx}{b:Nat}(h:C.w0.heap.size<=b∨C.Z0 b):C.w0.heap.size<=b∨C.Y0 b:=h.imp id .inr
theorem Ctx.WN{C:Ctx}{β b:Nat}(h:C.w0.heap.size<=b∨C.Z0 b):C.fx β≠some b:=fun e=>by
 rcases h with h|h
 ·have:=(C.oI β b e).1;omega
 ·exact(C.LC b h).2.2 β e
theorem Ctx.K9{C:Ctx}{β b:Nat}(h:C.cls β b)(hr:iW β=false):¬C.X0 b:=fun hx=>by
 rcases Ctx.La h hr with h|h
 ·have:=C.Em b hx;omega
 ·exact(C.hY0 b h).2 hx
def aH(C:Ctx)(ρ:Nat->Option Nat)(hp:HP):Nat->Prop:=fun b=>C.X0 b∨∃β hb,hp β=some hb/\hb.fz=false/\ρ β=some b
def dn(w:World)(b e cap:Nat):Prop:=∃cur ty,w.heap[b]? =some (.cells cur ty (0,0))/\cur.size=cap*e
def xz(w:World)(X:Nat->Prop)(b:Nat)(hb:HB):Prop:=
 ∃(cur:Array Value)(cap:Nat),w.heap[b]? =some (.cells cur hb.ty (0,0))/\cur.size=cap*hb.e/\hb.xs.length<=cap/\cap<=maxLen/\
  ∀(i:Nat)(x:PV),hb.xs[i]? =some x->∀(j:Nat)(y:PV),x.cells[j]? =some y->Qu w X y (cur.getD (i*hb.e+j) undef)
structure WO(C:Ctx)(ρ:Nat->Option Nat)(hp:HP)(w:World)(β:Nat)(hb:HB):Prop where
 lK:0<hb.e
 len:∀(i:Nat)(x:PV),hb.xs[i]? =some x->x.cells.length=hb.e/\x.aD=true
 dS:match ρ β with
  |none=>hb.xs=[]
  |some b=>C.cls β b/\b<w.heap.size/\xz w (aH C ρ hp) b hb
 fix:bG β=true->ρ β=C.fx β
 ro:iW β=true->hb.fz=true
def eG(ρ:Nat->Option Nat)(hp:HP)(w:World)(β o n:Nat)(v:Value):Prop:=
 ∃ hb,hp β=some hb/\o+n<=hb.xs.length/\((ρ β=none/\v= .slice none 0 0/\n=0/\o=0)∨
   ∃b cap,ρ β=some b/\v= .slice (some ⟨b,o*hb.e,none⟩) n cap/\dn w b hb.e (o+cap)/\o+cap<=maxLen)
def nF(ρ:Nat->Option Nat)(hp:HP)(w:World)(γ o n:Nat)(v:Value):Prop:=
 b9 γ=true/\∃hb b cap,hp γ=some hb/\ρ γ=some b/\v= .slice (some ⟨b,o*hb.e,none⟩) n cap/\dn w b hb.e (o+cap)/\o+cap<=maxLen/\n<=cap
def cT(C:Ctx)(ρ:Nat->Option Nat)(hp:HP)(w:World):PV->Value->Prop
 |.undef,_=>True
 |.ax β o n,v=>b9 β=true/\eG ρ hp w β o n v
 |.aM γ o n,v=>nF ρ hp w γ o n v
 |p,v=>Qu w (aH C ρ hp) p v
def cU(C:Ctx)(ρ:Nat->Option Nat)(hp:HP)(w:World):PV->Value->Prop
 |.mp β i o,v=>∃b hb,ρ β=some b/\hp β=some hb/\v= .pointer (some ⟨b,i*hb.e+o,none⟩)
 |.ax β o n,v=>eG ρ hp w β o n v
 |.rb β o n,v=>∃b u,v= .pointer (some ⟨b,0,none⟩)/\b<w.heap.size/\¬aH C ρ hp b/\w.cell? ⟨b,0,none⟩=some u/\eG ρ hp w β o n u
 |.np γ i o,v=>b9 γ=true/\∃b hb,ρ γ=some b/\hp γ=some hb/\v= .pointer (some ⟨b,i*hb.e+o,none⟩)
 |.aM γ o n,v=>nF ρ hp w γ o n v
 |p,v=>Qu w (aH C ρ hp) p v
def Qt(C:Ctx)(ρ:Nat->Option Nat)(hp:HP)(w:World):PV->Value->Prop
 |.undef,_=>True
 |.mp β i o,v=>cU C ρ hp w (.mp β i o) v
 |.ax β o n,v=>cU C ρ hp w (.ax β o n) v
 |.rb β o n,v=>cU C ρ hp w (.rb β o n) v
 |.np γ i o,v=>cU C ρ hp w (.np γ i o) v
 |.aM γ o n,v=>cU C ρ hp w (.aM γ o n) v
 |.aT cs,v=>∃vs:Array Value,v= .agg vs/\vs.size=cs.length/\∀(i:Nat)(x:PV),cs[i]? =some x->cT C ρ hp w x (vs.getD i undef)
 |.eO cs,v=>∃vs:Array Value,v= .tuple vs/\vs.size=cs.length/\∀(i:Nat)(x:PV),cs[i]? =some x->cT C ρ hp w x (vs.getD i undef)
 |.eP cs q,v=>∃(vs:Array Value)(u:Value),v= .tuple #[.agg vs,u]/\vs.size=cs.length/\(∀(i:Nat)(x:PV),cs[i]? =some x->cT C ρ hp w x (vs.getD i undef))/\aY w (aH C ρ hp) q u
 |.aN γ e ty xs,_=>b9 γ=true/\0<e/\∃(b:Nat) (hb:HB) (cur:Array Value) (cap:Nat),ρ γ=some b/\hp γ=some hb/\hb.xs=[]/\hb.e=e/\hb.ty=ty/\w.heap[b]? =some (.cells cur ty (0,0))/\cur.size=cap*e/\xs.length<=cap/\cap<=maxLen/\
   (∀(i:Nat)(x:PV),xs[i]? =some x->x.bj.length=e)/\∀(i:Nat)(x:PV),xs[i]? =some x->∀(j:Nat)(y:PV),x.bj[j]? =some y->cT C ρ hp w y (cur.getD (i*e+j) undef)
 |.fn f first cap,v=>∃fv cv:Array Value,v= .func (.func f) fv cv/\fv.size=first.length/\cv.size=cap.length/\
   (∀(i:Nat)(x:PV),first[i]? =some x->cU C ρ hp w x (fv.getD i undef))/\(∀(i:Nat)(x:PV),cap[i]? =some x->cU C ρ hp w x (cv.getD i undef))
 |p,v=>dB w (aH C ρ hp) p v
structure aI(C:Ctx)(ρ:Nat->Option Nat)(fr:Fr)(hp:HP)(tmps:Array Value)(w:World):Prop where
 sz:tmps.size=C.N
 ext:Ext C.Y0 C.w0 w
 gT:∀β b,C.fx β=some b->∀e cap,dn C.w0 b e cap->dn w b e cap
 own:∀β hb,hp β=some hb->WO C ρ hp w β hb
 inj:∀β γ b,hp β≠none->hp γ≠none->ρ β=some b->ρ γ=some b->β=γ
 eQ:∀i,Qt C ρ hp w (fr i) (tmps.getD i undef)
def eT(C:Ctx)(fr:Fr)(hp:HP)(tmps:Array Value)(w:World):Prop:=∃ρ,aI C ρ fr hp tmps w
def Wt(tmps:Array Value)(d:Option Nat)(v:Value):Array Value:=match d with|some d=>tmps.setIfInBounds d v|none=>tmps
def Wk(fr:Fr)(hp:HP)(ay:Fr)(an:HP):Prop:=∀(C:Ctx)(tmps:Array Value)(w:World),eT C fr hp tmps w->eT C ay an tmps w
def mC(C:Ctx)(pr:Bool)(f:PV)(args:List PV)(d:Option Nat)(fr:Fr)(hp:HP)(K:Qg):Prop:=
 match f with
 |.fn g first cap => (C.P.funcs[g]?).any (fun fn => fn.body.isSome && fn.name != "runtime.NumGoroutine") = true /\
  ∀ρ tmps w (fv cv av:Array Value),(∀x,d=some x->x<C.N)->aI C ρ fr hp tmps w->
   fv.size=first.length->cv.size=cap.length->av.size=args.length->
   (∀(i:Nat)(x:PV),first[i]? =some x->cU C ρ hp w x (fv.getD i undef))->(∀(i:Nat)(x:PV),cap[i]? =some x->cU C ρ hp w x (cv.getD i undef))->
   (∀(i:Nat)(x:PV),args[i]? =some x->Qt C ρ hp w x (av.getD i undef))->
   Calls C.P g (fv++av++cv) w fun e w'=>∃v ay an,e= .returned v/\eT C ay an (Wt tmps d v) w'/\(pr=true->Ext bO w w')/\K ay an
 |_=>False
def bo(C:Ctx)(o:cx)(fr:Fr)(hp:HP)(K:Qg):Prop:=
 match o with
 |.mv d x=>K (af fr d (ev fr x)) hp
 |.pick d c a b=>rI (ev fr c) (ev fr a) (ev fr b) d fr hp K
 |.bin d op bt x y=>ck op bt (ev fr x) (ev fr y) d fr hp K
 |.eqs d ng x y=>qu ng (ev fr x) (ev fr y) d fr hp K
 |.BF d ng x y=>qv ng (ev fr x) (ev fr y) d fr hp K
 |.BE d x=>vh (ev fr x) d fr hp K
 |.BD d x i=>tp (ev fr x) (ev fr i) d fr hp K
 |.un d op x=>uo op (ev fr x) d fr hp K
 |.conv d k x=>u9 k (ev fr x) d fr hp K
 |.len d x=>ox (ev fr x) d fr hp K
 |.mx d x y=>we (ev fr x) (ev fr y) d fr hp K
 |.mn d x y=>wc (ev fr x) (ev fr y) d fr hp K
 |.idx d e x i=>dG e (ev fr x) (ev fr i) d fr hp K
 |.Bp d n e x i=>qn n e (ev fr x) (ev fr i) d fr hp K
 |.Br d n e ag x i=>xx n e ag (ev fr x) (ev fr i) d fr hp K
 |.cz d off x=>qw off (ev fr x) d fr hp K
 |.xL d off n ag x=>qo off n ag (ev fr x) d fr hp K
 |.ld d n ag x=>kE n ag (ev fr x) d fr hp K
 |.st n x v=>oQ n (ev fr x) (ev fr v) fr hp K
 |.box d n ty v=>fR n ty (ev fr v) d fr hp K
 |.alloc d n ty z=>fR n ty z d fr hp K
 |.mk d e by_ ty z l c=>m8 e by_ ty z (ev fr l) (ev fr c) d fr hp K
 |.bs d e ty ps=>nM e ty (ps.map (ev fr)) d fr hp K
 |.app d e by_ ty s x=>iH e by_ ty (ev fr s) (ev fr x) d fr hp K
 |.tD d e s x=>tt e (ev fr s) (ev fr x) d fr hp K
 |.sl d e x lo hi mx=>iA e (ev fr x) (lo.map (ev fr)) (hi.map (ev fr)) (mx.map (ev fr)) d fr hp K
 |.ext d x i=>ki (ev fr x) i d fr hp K
 |.bT d zero ps=>kn zero (ps.map fun p=>(p.1,p.2.1,ev fr p.2.2)) d fr hp K
 |.fn d f first cap=>(first.map (ev fr)++cap.map (ev fr)).all PV.kB=true/\K (af fr d (.fn f (first.map (ev fr)) (cap.map (ev fr)))) hp
 |.call d pr f args=>mC C pr (ev fr f) (args.map (ev fr)) d fr hp K
 |.Bw d x=>z9 (ev fr x) d fr hp K
 |.bad _=>False
def ju(o:cx)(fr:Fr)(hp:HP)(K:Qg):Prop:=
 match o.dst with
 |some d=>K (af fr d (.au [])) hp
 |none=>K fr hp
def oz(C:Ctx)(g:Option (Nat×Bool))(o:cx)(fr:Fr)(hp:HP)(K:Qg):Prop:=
 match g with
 |none=>bo C o fr hp K
 |some (s,want)=>match fr s with
  |.bool t=>(t=want->bo C o (af fr s (.bool want)) hp K)/\(t=(!want)->ju o (af fr s (.bool !want)) hp K)
  |.au []=>ju o fr hp K
  |_=>False
inductive It where
 |c (s:SC)
 |o (r:RT)
 |eb (id:Nat)
 |el (J:Qg)
def RT.sz:RT->Nat
 |.nil=>1
 |.o _ _ r=>r.sz+1
 |.br a b=>a.sz+b.sz+1
 |.wk r=>r.sz+1
def SC.sz:SC->Nat
 |.rg r=>r.sz+1
 |.seq a b=>a.sz+b.sz+1
 |.cond _ a b=>a.sz+b.sz+1
 |.block _ a=>a.sz+2
 |.loop a=>a.sz+2
 |_=>1
def It.sz:It->Nat
 |.c s=>s.sz
 |.o r=>r.sz
 |_=>1
def bW:List It->Nat
 | []=>0
 |i::is=>i.sz+bW is
def ct(id:Nat):List It->Option (List It)
 | []=>none
 |.eb i::sk=>if i=id then some sk else ct id sk
 |_::sk=>ct id sk
theorem yY(id:Nat):∀(sk eF:List It),FW.ct id sk=some eF->bW eF<=bW sk
 | [],_,h=>by simp[FW.ct]at h
 |.c s::sk,eF,h=>by have:=yY id sk eF (by simpa[FW.ct]using h);simp[bW];omega
 |.o s::sk,eF,h=>by have:=yY id sk eF (by simpa[FW.ct]using h);simp[bW];omega
 |.el s::sk,eF,h=>by have:=yY id sk eF (by simpa[FW.ct]using h);simp[bW];omega
 |.eb i::sk,eF,h=>by
  simp only[FW.ct]at h;split at h
  ·cases h;simp[bW]
  ·have:=yY id sk eF h;simp[bW];omega
theorem RT.yz(r:RT):0<r.sz:=by cases r<;>simp[RT.sz]
theorem SC.yz(s:SC):0<s.sz:=by cases s<;>simp[SC.sz]
def vc(C:Ctx)(R:Qg)(sk:List It)(fr:Fr)(hp:HP):Prop:=
 match sk with
 | []=>R fr hp
 |.el J::_=>J fr hp
 |.eb _::sk=>vc C R sk fr hp
 |.o .nil::sk=>vc C R sk fr hp
 |.o (.o g o r)::sk=>oz C g o fr hp (fun fr hp=>vc C R (.o r::sk) fr hp)
 |.o (.br a b)::sk=>vc C R (.o a::sk) fr hp/\vc C R (.o b::sk) fr hp
 |.o (.wk r)::sk=>∃bE aE,Wk fr hp bE aE/\vc C R (.o r::sk) bE aE
 |.c .skip::sk=>vc C R sk fr hp
 |.c (.rg r)::sk=>vc C R (.o r::sk) fr hp
 |.c (.raw id ops)::sk=>∀tmps w Q,eT C fr hp tmps w->(∀ay an BG w',eT C ay an BG w'->vc C R sk ay an->Q .normal { tmps:=BG,defers:=[] } w')->(Code.region id ops true).wp C.P Q { tmps:=tmps,defers:=[] } w
 |.c (.seq a b)::sk=>vc C R (.c a:: .c b::sk) fr hp
 |.c (.cond c a b)::sk=>match ev fr c with
  |.bool t=>(t=true->vc C R (.c a::sk) fr hp)/\(t=false->vc C R (.c b::sk) fr hp)
  |_=>False
 |.c (.block id a)::sk=>vc C R (.c a:: .eb id::sk) fr hp
 |.c (.loop a)::sk=>∃(I:Qg)(μ:Fr->HP->Nat),(∃bE aE,Wk fr hp bE aE/\I bE aE)/\∀fr hp,I fr hp->vc C R (.c a:: .el (fun ay an=>∃bE aE,Wk ay an bE aE/\I bE aE/\μ bE aE<μ fr hp)::sk) fr hp
 |.c (.exit id)::sk=>match h:FW.ct id sk with
  |some eF=>vc C R eF fr hp
  |none=>False
 |.c .ret::_=>R fr hp
termination_by bW sk
decreasing_by
 all_goals simp only[bW,It.sz,SC.sz,RT.sz]
 all_goals first|omega|(have:=yY _ _ _ h;omega)|skip
variable {C : Ctx} {ρ : Nat -> Option Nat} {fr : Fr} {hp : HP} {tmps : Array Value} {w : World}
theorem eG.move{bd:Nat->Option Nat}{an:HP}{w':World}{β o n:Nat}{v:Value}(h:eG ρ hp w β o n v)
  (hr:bd β=ρ β/\∀hb,hp β=some hb->∃aw,an β=some aw/\aw.e=hb.e/\hb.xs.length<=aw.xs.length/\∀b cap,ρ β=some b->dn w b hb.e cap->dn w' b hb.e cap):eG bd an w' β o n v:=by
 obtain⟨hb,h2,h3,h4⟩:=h;obtain⟨e1,e2⟩:=hr;obtain⟨aw,h5,h6,h7,h8⟩:=e2 hb h2;refine⟨aw,h5,Kay h3 h7,?_⟩;rcases h4 with⟨g1,g2,g3⟩|⟨b,cap,g1,g2,g3,g4⟩
 ·exact .inl ⟨by rw[e1];exact g1,g2,g3⟩
 ·exact .inr ⟨b,cap,by rw[e1];exact g1,by rw[h6];exact g2,by rw[h6];exact h8 b (o+cap) g1 g3,g4⟩
structure nG(w w':World)(X X':Nat->Prop):Prop where
 dS:∀b,b<w.heap.size->¬X b->w'.heap[b]? =w.heap[b]?
 out:∀b,b<w.heap.size->¬X b->¬X' b
 size:w.heap.size<=w'.heap.size
theorem nG.rc{w w':World}{X X':Nat->Prop}(h:nG w w' X X'):∀q u,Qu w X q u->Qu w' X' q u:=fun _ _ hq=>hq.mono h.dS h.out h.size
structure pY(ρ bd:Nat->Option Nat)(hp an:HP)(w w':World)(β:Nat):Prop where
 r:bd β=ρ β
 h:∀hb,hp β=some hb->∃aw,an β=some aw/\aw.e=hb.e/\hb.xs.length<=aw.xs.length/\(∀b cap,ρ β=some b->dn w b hb.e cap->dn w' b hb.e cap)/\(hb.xs=[]->aw.xs=[]/\aw.ty=hb.ty/\∀b,ρ β=some b->w'.heap[b]? =w.heap[b]?)
theorem pY.o{bd:Nat->Option Nat}{an:HP}{w':World}{β:Nat}(h:pY ρ bd hp an w w' β):bd β=ρ β/\∀hb,hp β=some hb->∃aw,an β=some aw/\aw.e=hb.e/\hb.xs.length<=aw.xs.length/\∀b cap,ρ β=some b->dn w b hb.e cap->dn w' b hb.e cap:=
 ⟨h.r,fun hb al=>let⟨aw,a,b,c,d,_⟩:=h.h hb al;⟨aw,a,b,c,d⟩⟩
structure xA(ρ bd:Nat->Option Nat)(hp an:HP)(w w':World)(β:Nat):Prop where
 r:bd β=ρ β
 h:∀hb,hp β=some hb->∃aw,an β=some aw/\aw.e=hb.e/\hb.xs.length<=aw.xs.length/\∀b cap,ρ β=some b->dn w b hb.e cap->dn w' b hb.e cap
theorem pY.BH{bd:Nat->Option Nat}{an:HP}{w':World}{β:Nat}(h:pY ρ bd hp an w w' β):xA ρ bd hp an w w' β:=⟨h.r,h.o.2⟩
theorem nF.move{bd:Nat->Option Nat}{an:HP}{w':World}{γ o n:Nat}{v:Value}(h:nF ρ hp w γ o n v)(hr:xA ρ bd hp an w w' γ):nF bd an w' γ o n v:=by obtain⟨h0,hb,b,cap,h1,h2,h3,h4,h5,h6⟩:=h;obtain⟨aw,a1,a2,_,a4⟩:=hr.h hb h1;exact⟨h0,aw,b,cap,a1,by rw[hr.r];exact h2,by rw[a2];exact h3,by rw[a2];exact a4 b _ h2 h4,h5,h6⟩
theorem cT.move{bd:Nat->Option Nat}{an:HP}{w':World}{p:PV}{v:Value}(h:cT C ρ hp w p v)(hc:nG w w' (aH C ρ hp) (aH C bd an))(hs:∀β∈p.dP,xA ρ bd hp an w w' β):cT C bd an w' p v:=by
 cases p with
 |undef=>trivial
 |ax β o n=>exact⟨h.1,eG.move h.2 ⟨(hs β (by simp[PV.dP])).r,(hs β (by simp[PV.dP])).h⟩⟩
 |aM γ o n=>exact nF.move h (hs γ (by simp[PV.dP]))
 |_=>exact hc.rc _ _ h
theorem cU.move{bd:Nat->Option Nat}{an:HP}{w':World}{p:PV}{v:Value}(h:cU C ρ hp w p v)
  (hc:nG w w' (aH C ρ hp) (aH C bd an))
  (hr:∀β∈p.bN,bd β=ρ β/\∀hb,hp β=some hb->∃aw,an β=some aw/\aw.e=hb.e/\hb.xs.length<=aw.xs.length/\∀b cap,ρ β=some b->dn w b hb.e cap->dn w' b hb.e cap)
  (hs:∀β∈p.ep,xA ρ bd hp an w w' β):
  cU C bd an w' p v:=by
 cases p with
 |mp β i o=>obtain⟨b,hb,h1,h2,h3⟩:=h;obtain⟨e1,e2⟩:=hr β (by simp[PV.bN]);obtain⟨aw,h4,h5,_,_⟩:=e2 hb h2;exact⟨b,aw,by rw[e1];exact h1,h4,by rw[h5];exact h3⟩
 |ax β o n=>exact eG.move h (hr β (by simp[PV.bN]))
 |rb β o n=>obtain⟨b,u,h1,h2,h3,h4,h5⟩:=h;exact⟨b,u,h1,KaK h2 hc.size,hc.out b h2 h3,(uF (hc.dS b h2 h3)).trans h4,eG.move h5 (hr β (by simp[PV.bN]))⟩
 |np γ i o=>obtain⟨h0,b,hb,h1,h2,h3⟩:=h;have hq:=hs γ (by simp[PV.ep]);obtain⟨aw,a1,a2,_⟩:=hq.h hb h2;exact⟨h0,b,aw,by rw[hq.r];exact h1,a1,by rw[a2];exact h3⟩
 |aM γ o n=>exact nF.move h (hs γ (by simp[PV.ep]))
 |_=>exact hc.rc _ _ h
theorem FO{f:FuncId}{first cap:List PV}{i:Nat}{x:PV}(h:first[i]? =some x):∀β∈x.bN,β∈(PV.fn f first cap).refs:=by intro β al;simp only[PV.refs,KaU,Kaq];exact .inl ⟨x,Kai h,al⟩
theorem FZ{f:FuncId}{first cap:List PV}{i:Nat}{x:PV}(h:cap[i]? =some x):∀β∈x.bN,β∈(PV.fn f first cap).refs:=by intro β al;simp only[PV.refs,KaU,Kaq];exact .inr ⟨x,Kai h,al⟩
theorem dB.move{w':World}{X X':Nat->Prop}{p:PV}{v:Value}(h:dB w X p v)(hc:∀q u,Qu w X q u->Qu w' X' q u):dB w' X' p v:=by
 have h1:∀p v,aY w X p v->aY w' X' p v:=by
  intro p v h;cases p with
  |agg cs=>obtain⟨vs,rfl,h1,h2⟩:=h;exact⟨vs,rfl,h1,fun i x hi=>hc _ _ (h2 i x hi)⟩
  |_=>exact hc _ _ h
 cases p with
 |au ps=>obtain⟨vs,rfl,g1,g2⟩:=h;exact⟨vs,rfl,g1,fun i x hi=>h1 _ _ (g2 i x hi)⟩
 |agg cs=>exact h1 (.agg cs) v h
 |_=>exact hc _ _ h
theorem Qt.move{bd:Nat->Option Nat}{an:HP}{w':World}{p:PV}{v:Value}(h:Qt C ρ hp w p v)
  (hc:nG w w' (aH C ρ hp) (aH C bd an))
  (hr:∀β∈p.refs,bd β=ρ β/\∀hb,hp β=some hb->∃aw,an β=some aw/\aw.e=hb.e/\hb.xs.length<=aw.xs.length/\∀b cap,ρ β=some b->dn w b hb.e cap->dn w' b hb.e cap)
  (hs:∀β∈p.bS,xA ρ bd hp an w w' β) (hn:∀γ e ty xs,p= .aN γ e ty xs->pY ρ bd hp an w w' γ):
  Qt C bd an w' p v:=by
 cases p with
 |undef=>trivial
 |mp β i o=>exact cU.move (p:=.mp β i o) h hc (fun du lY=>hr du lY) (fun β al=>by cases al)
 |ax β o n=>exact cU.move (p:=.ax β o n) h hc (fun du lY=>hr du lY) (fun β al=>by cases al)
 |rb β o n=>exact cU.move (p:=.rb β o n) h hc (fun du lY=>hr du lY) (fun β al=>by cases al)
 |np γ i o=>exact cU.move (p:=.np γ i o) h hc (fun β al=>by cases al) (fun du lY=>hs du lY)
 |aM γ o n=>exact cU.move (p:=.aM γ o n) h hc (fun β al=>by cases al) (fun du lY=>hs du lY)
 |aT cs=>obtain⟨vs,rfl,h1,h2⟩:=h;exact⟨vs,rfl,h1,fun i x hi=>(h2 i x hi).move hc (fun β al=>hs β (Kaq.2 ⟨x,Kai hi,al⟩))⟩
 |eO cs=>obtain⟨vs,rfl,h1,h2⟩:=h;exact⟨vs,rfl,h1,fun i x hi=>(h2 i x hi).move hc (fun β al=>hs β (Kaq.2 ⟨x,Kai hi,al⟩))⟩
 |eP cs q=>obtain⟨vs,u,rfl,h1,h2,h3⟩:=h;exact⟨vs,u,rfl,h1,fun i x hi=>(h2 i x hi).move hc (fun β al=>hs β (Kaq.2 ⟨x,Kai hi,al⟩)),h3.mono hc.dS hc.out hc.size⟩
 |aN γ e ty xs=>obtain⟨h0,he,b,hb,cur,cap,h1,h2,h3,h4,h5,h6,h7,h8,h9,bF,cn⟩:=h;have hq:=hn γ e ty xs rfl;obtain⟨aw,a1,a2,_,_,a5⟩:=hq.h hb h2;obtain⟨a5,a6,a7⟩:=a5 h3;refine⟨h0,he,b,aw,cur,cap,by rw[hq.r];exact h1,a1,a5,by rw[a2];exact h4,by rw[a6];exact h5,by rw[a7 b h1];exact h6,h7,h8,h9,bF,fun i x hi j y hy=>(cn i x hi j y hy).move hc (fun β al=>hs β ?_)⟩;refine Kbl _ (Kaq.2 ⟨x,Kai hi,Kaq.2 ⟨y,Kai hy,al⟩⟩)
 | fn f first cap=>
  obtain⟨fv,cv,rfl,h1,h2,h3,h4⟩:=h;exact⟨fv,cv,rfl,h1,h2,fun i x hi=>(h3 i x hi).move hc (fun β al=>hr β (FO hi β al)) (fun β al=>hs β (KaU.2 (.inl (Kaq.2 ⟨x,Kai hi,al⟩)))),
   fun i x hi=>(h4 i x hi).move hc (fun β al=>hr β (FZ hi β al)) (fun β al=>hs β (KaU.2 (.inr (Kaq.2 ⟨x,Kai hi,al⟩))))⟩
 |agg cs=>exact dB.move (p:=.agg cs) h hc.rc
 |au cs=>exact dB.move (p:=.au cs) h hc.rc
 |_=>exact hc.rc _ _ h
theorem Qt.pU{bd:Nat->Option Nat}{an:HP}{w':World}{p:PV}{v:Value}(h:Qt C ρ hp w p v)
  (hc:nG w w' (aH C ρ hp) (aH C bd an))
  (hr:∀β∈p.refs,bd β=ρ β/\∀hb,hp β=some hb->∃aw,an β=some aw/\aw.e=hb.e/\hb.xs.length<=aw.xs.length/\∀b cap,ρ β=some b->dn w b hb.e cap->dn w' b hb.e cap)
  (hs:∀β∈p.bS,pY ρ bd hp an w w' β):Qt C bd an w' p v:=
 h.move hc hr (fun β al=>(hs β al).BH) (fun γ e ty xs e1=>hs γ (by rw[e1];simp[PV.bS]))
theorem mj{w w':World}{b e cap:Nat}(h:w'.heap[b]? =w.heap[b]?)(hc:dn w b e cap):dn w' b e cap:=by obtain⟨cur,ty,h1,h2⟩:=hc;exact⟨cur,ty,by rw[h];exact h1,h2⟩
theorem my{w:World}{b e cap:Nat}(hc:dn w b e cap):b<w.heap.size:=by obtain⟨cur,ty,h1,_⟩:=hc;exact(KaG.1 h1).1
theorem xz.move{w w':World}{X X':Nat->Prop}{b:Nat}{hb aw:HB}(h:xz w X b hb)(hh:w'.heap[b]? =w.heap[b]?)(e1:aw.e=hb.e)(e2:aw.ty=hb.ty)(e3:aw.xs=hb.xs)
  (hc:∀q u,Qu w X q u->Qu w' X' q u):xz w' X' b aw:=by
 obtain⟨cur,cap,h1,h2,h3,h4,h5⟩:=h;exact⟨cur,cap,by rw[hh,e2];exact h1,by rw[e1];exact h2,by rw[e3];exact h3,h4,fun i x hi j y hy=>by rw[e1];exact hc _ _ (h5 i x (by rw[<-e3];exact hi) j y hy)⟩
theorem aI.af(h:aI C ρ fr hp tmps w){d:Nat}{p:PV}{v:Value}(hv:Qt C ρ hp w p v)(hd:d<C.N):aI C ρ (af fr d p) hp (tmps.setIfInBounds d v) w:=by
 refine⟨by simpa using h.sz,h.ext,h.gT,h.own,h.inj,fun i=>?_⟩;unfold FW.af;split
 ·rename_i he;subst he;simpa[Array.getD,h.sz,hd]using hv
 ·rename_i he;have:(tmps.setIfInBounds d v).getD i undef=tmps.getD i undef:=by simp only[KaZ];rw[Kct (fun e=>he e.symm)]
  rw[this];exact h.eQ i
theorem Gp{l:List Nat}{b:Nat}(h:aH C ρ (cb hp l) b):aH C ρ hp b:=by
 rcases h with h|⟨β,hb,h1,h2,h3⟩
 ·exact .inl h
 ·refine .inr ⟨β,hb,?_,h2,h3⟩;unfold cb at h1;split at h1
  ·cases hq:hp β with
   |none=>simp[hq]at h1
   |some mS=>simp[hq]at h1;subst h1;simp at h2
  ·exact h1
theorem Cm{l:List Nat}{β:Nat}{hb:HB}(h:hp β=some hb):∃aw,cb hp l β=some aw/\aw.e=hb.e/\aw.ty=hb.ty/\aw.xs=hb.xs/\(aw.fz=false->aw=hb)/\(aw.fz=false->β ∉ l):=by
 unfold cb;by_cases hl:l.contains β=true
 ·rw[if_pos hl,h];exact⟨_,rfl,rfl,rfl,rfl,by simp,by simp⟩
 ·rw[if_neg hl,h];exact⟨hb,rfl,rfl,rfl,rfl,fun _=>rfl,fun _=>by simpa using hl⟩
theorem yL{l:List Nat}{β:Nat}{aw:HB}(h:cb hp l β=some aw):∃hb,hp β=some hb/\aw.e=hb.e/\aw.ty=hb.ty/\aw.xs=hb.xs/\(aw.fz=false->aw=hb)/\(aw.fz=false->β ∉ l):=by
 cases hq:hp β with
 |none=>unfold cb at h;split at h<;>simp[hq]at h
 |some hb=>obtain⟨eU,g1,g2⟩:=Cm (l:=l) hq;rw[g1]at h;cases h;exact⟨hb,rfl,g2⟩
theorem Qu.freeze{l:List Nat}{q:PV}{u:Value}(h:Qu w (aH C ρ hp) q u):Qu w (aH C ρ (cb hp l)) q u:=
 h.mono (fun _ _ _=>rfl) (fun _ _ hn hx=>hn (Gp hx)) (Kac _)
theorem aI.freeze(h:aI C ρ fr hp tmps w)(l:List Nat):aI C ρ fr (cb hp l) tmps w:=by
 refine⟨h.sz,h.ext,h.gT,fun β aw al=>?_,fun β γ b h1 h2 h3 h4=>?_,fun i=>?_⟩
 ·obtain⟨hb,g1,g2,g3,g4,g5,_⟩:=yL al;obtain⟨p1,p2,p3,p4,p5⟩:=h.own β hb g1;refine⟨by rw[g2];exact p1,fun i x hi=>by rw[g2];exact p2 i x (by rw[<-g4];exact hi),?_,p4,fun hq=>by
   cases hz:aw.fz with
   |true=>rfl
   |false=>rw[<-g5 hz,hz]at p5;cases p5 hq⟩
  cases bz:ρ β with
  |none=>rw[bz]at p3;simp only at p3 ⊢;rw[g4];exact p3
  |some b=>rw[bz]at p3;simp only at p3 ⊢;exact⟨p3.1,p3.2.1,p3.2.2.move rfl g2 g3 g4 (fun q u hq=>hq.freeze)⟩
 ·have f1:∀γ,FW.cb hp l γ≠none->hp γ≠none:=fun γ hn=>by
   cases hq:hp γ with
   |none=>unfold FW.cb at hn;split at hn<;>simp[hq]at hn
   |some _=>simp
  exact h.inj β γ b (f1 β h1) (f1 γ h2) h3 h4
 ·refine(h.eQ i).pU ⟨fun _ _ _=>rfl,fun _ _ hn hx=>hn (Gp hx),Kac _⟩ (fun β _=>⟨rfl,fun hb al=>by
  obtain⟨aw,g1,g2,_,g4,_⟩:=Cm (l:=l) al;exact⟨aw,g1,g2,by rw[g4];exact Kac _,fun b cap _ hc=>hc⟩⟩) (fun β _=>⟨rfl,fun hb al=>by
  obtain⟨aw,g1,g2,g3,g4,_⟩:=Cm (l:=l) al;exact⟨aw,g1,g2,by rw[g4];exact Kac _,fun b cap _ hc=>hc,fun he=>⟨by rw[g4];exact he,g3,fun _ _=>rfl⟩⟩⟩)
theorem aI.grow{w':World}(h:aI C ρ fr hp tmps w)(hx:Ext bO w w'):aI C ρ fr hp tmps w':=by
 have gz:nG w w' (aH C ρ hp) (aH C ρ hp):=⟨fun b hb _=>hx.block b hb (fun h=>h),fun _ _ hn=>hn,hx.size⟩
 have hc:=gz.rc;refine⟨h.sz,h.ext.trans' hx (fun _ _ h=>h.elim),fun b0 b hb e cap hc=>mj (hx.block b (my (h.gT b0 b hb e cap hc)) (fun h=>h)) (h.gT b0 b hb e cap hc),fun β hb al=>?_,h.inj,fun i=>?_⟩
 ·obtain⟨p1,p2,p3,p4,p5⟩:=h.own β hb al;refine⟨p1,p2,?_,p4,p5⟩;cases bz:ρ β with
  |none=>rw[bz]at p3;exact p3
  |some b=>rw[bz]at p3;exact⟨p3.1,KaK p3.2.1 hx.size,p3.2.2.move (hx.block b p3.2.1 (fun h=>h)) rfl rfl rfl hc⟩
 ·exact(h.eQ i).pU gz (fun β _=>⟨rfl,fun hb al=>⟨hb,al,rfl,Kac _,fun b cap _ dN=>mj (hx.block b (my dN) (fun h=>h)) dN⟩⟩)
   (fun β _=>⟨rfl,fun hb al=>⟨hb,al,rfl,Kac _,fun b cap _ dN=>mj (hx.block b (my dN) (fun h=>h)) dN,fun he=>⟨he,rfl,fun b bz=>hx.block b (by have:=(h.own β hb al).dS;rw[bz]at this;exact this.2.1) (fun h=>h)⟩⟩⟩)
theorem RX{β:Nat}{p:PV}:∀γ∈(bX β p).refs,γ≠β/\γ∈p.refs:=by
 intro γ ak;unfold bX at ak;split at ak
 ·simp[PV.refs]at ak
 ·rename_i hn;refine⟨fun he=>hn (by subst he;simpa using ak),ak⟩
theorem Qt.kill{β:Nat}{p:PV}{v:Value}(h:Qt C ρ hp w p v):Qt C ρ hp w (bX β p) v:=by
 unfold bX;split
 ·trivial
 ·exact h
theorem cT.yw{p:PV}{v:Value}(h:cT C ρ hp w p v):∀γ∈p.dP,b9 γ=true:=by
 intro γ ak;cases p with
 |ax β o n=>simp[PV.dP]at ak;subst ak;exact h.1
 |aM β o n=>simp[PV.dP]at ak;subst ak;exact h.1
 |np β o n=>cases h
 |_=>cases ak
theorem cU.Wc{p:PV}{v:Value}(h:cU C ρ hp w p v):∀γ∈p.ep,b9 γ=true:=by
 intro γ ak;cases p with
 |aM β o n=>simp[PV.ep]at ak;subst ak;exact h.1
 |np β o n=>simp[PV.ep]at ak;subst ak;exact h.1
 |_=>cases ak
theorem Qt.yw{p:PV}{v:Value}(h:Qt C ρ hp w p v):∀γ∈p.bS,b9 γ=true:=by
 intro γ ak;cases p with
 |aM β o n=>simp[PV.bS]at ak;subst ak;exact h.1
 |np β o n=>simp[PV.bS]at ak;subst ak;exact h.1
 |aT cs=>obtain⟨vs,_,_,h2⟩:=h;obtain⟨x,hx,ak⟩:=Kaq.1 ak;obtain⟨i,hi⟩:=KaE hx;exact(h2 i x hi).yw γ ak
 |eO cs=>obtain⟨vs,_,_,h2⟩:=h;obtain⟨x,hx,ak⟩:=Kaq.1 ak;obtain⟨i,hi⟩:=KaE hx;exact(h2 i x hi).yw γ ak
 |eP cs q=>obtain⟨vs,u,_,_,h2,_⟩:=h;obtain⟨x,hx,ak⟩:=Kaq.1 ak;obtain⟨i,hi⟩:=KaE hx;exact(h2 i x hi).yw γ ak
 | aN β e ty xs=>
  obtain⟨h0,_,b,hb,cur,cap,_,_,_,_,_,_,_,_,_,_,cn⟩:=h;rcases KaO.1 ak with rfl|ak
  ·exact h0
  ·obtain⟨x,hx,ak⟩:=Kaq.1 ak;obtain⟨y,hy,ak⟩:=Kaq.1 ak;obtain⟨i,hi⟩:=KaE hx;obtain⟨j,hj⟩:=KaE hy;exact(cn i x hi j y hj).yw γ ak
 | fn f first cap=>
  obtain⟨fv,cv,_,_,_,h3,h4⟩:=h;rcases KaU.1 ak with ak|ak
  ·obtain⟨x,hx,ak⟩:=Kaq.1 ak;obtain⟨i,hi⟩:=KaE hx;exact(h3 i x hi).Wc γ ak
  ·obtain⟨x,hx,ak⟩:=Kaq.1 ak;obtain⟨i,hi⟩:=KaE hx;exact(h4 i x hi).Wc γ ak
 |_=>cases ak
def rb(ρ:Nat->Option Nat)(β:Nat)(b':Option Nat):Nat->Option Nat:=fun γ=>if γ=β then b' else ρ γ
theorem gI(ρ:Nat->Option Nat)(β:Nat)(b':Option Nat):rb ρ β b' β=b':=by simp[rb]
theorem ov{ρ:Nat->Option Nat}{β γ:Nat}{b':Option Nat}(h:γ≠β):rb ρ β b' γ=ρ γ:=by simp[rb,h]
def xB(C:Ctx)(ρ:Nat->Option Nat)(hp:HP)(w:World)(β:Nat)(fr ay:Fr):Prop:=∀(i:Nat)(v:Value),Qt C ρ hp w (fr i) v->Qt C ρ hp w (ay i) v/\(∀γ∈(ay i).refs,γ≠β)/\∀γ∈(ay i).bS,γ≠β
theorem CP{β:Nat}(hB:b9 β=false):xB C ρ hp w β fr (cI β fr):=fun i v h=>by have hk:=Qt.kill (β:=β) h;exact⟨hk,fun γ ak=>(RX γ ak).1,fun γ ak e=>by have:=hk.yw γ ak;rw[e,hB]at this;cases this⟩
theorem aI.yv{w':World}{ay:Fr}(h:aI C ρ fr hp tmps w)(β:Nat)(b':Option Nat)(aw:HB)(hB:bG β=false)(pB:xB C ρ hp w β fr ay)
  (hx:Ext (fun b=>ρ β=some b/\∃hb,hp β=some hb/\hb.fz=false) w w')
  (mY:∀c,b'=some c->(C.w0.heap.size<=c∨C.Z0 c)/\c<w'.heap.size/\(w.heap.size<=c∨(ρ β=some c/\∃hb,hp β=some hb/\hb.fz=false)))
  (he:0<aw.e) (hl:∀(i:Nat)(x:PV),aw.xs[i]? =some x->x.cells.length=aw.e/\x.aD=true)
  (AE:b'=none->aw.xs=[]) (a9:∀c,b'=some c->∃(cur:Array Value) (cap:Nat),w'.heap[c]? =some (.cells cur aw.ty (0,0))/\cur.size=cap*aw.e/\aw.xs.length<=cap/\cap<=maxLen/\
   ∀(i:Nat)(x:PV),aw.xs[i]? =some x->∀(j:Nat)(y:PV),x.cells[j]? =some y->Qu w (aH C ρ hp) y (cur.getD (i*aw.e+j) undef)):
  aI C (rb ρ β b') ay (Qy hp β aw) tmps w':=by
 have hX:∀b,b<w.heap.size->¬aH C ρ hp b->¬aH C (rb ρ β b') (Qy hp β aw) b:=by
  intro b hb hn aS;rcases aS with aS|⟨γ,hg,h1,h2,h3⟩
  ·exact hn (.inl aS)
  ·unfold Qy at h1;by_cases ak:γ=β
   ·subst ak;rw[gI]at h3;obtain⟨_,_,h4|⟨h5,mS,h6,h7⟩⟩:=mY b h3
    ·omega
    ·exact hn (.inr ⟨γ,mS,h6,h7,h5⟩)
   ·rw[if_neg ak]at h1;rw[ov ak]at h3;exact hn (.inr ⟨γ,hg,h1,h2,h3⟩)
 have gz:nG w w' (aH C ρ hp) (aH C (rb ρ β b') (Qy hp β aw)):=
  ⟨fun b hb hn=>hx.block b hb (fun⟨e1,mS,e2,e3⟩=>hn (.inr ⟨β,mS,e2,e3,e1⟩)),hX,hx.size⟩
 have hc:=gz.rc;have hold:∀b,ρ β=some b->(∃hb,hp β=some hb/\hb.fz=false)->C.w0.heap.size<=b∨C.Z0 b:=by intro b e1 ⟨mS,e2,e3⟩;have:=(h.own β mS e2).dS;rw[e1]at this;exact Ctx.DS this.1 hB
 have qI:Ext C.Y0 C.w0 w':=by refine h.ext.trans' (Y':=fun b=>ρ β=some b/\∃hb,hp β=some hb/\hb.fz=false) hx ?_;intro b hb ⟨e1,e2⟩;exact(Ctx.WM (hold b e1 e2)).resolve_left (by omega)
 have AP:∀β b,C.fx β=some b->∀e cap,dn C.w0 b e cap->dn w' b e cap:=fun b0 b hb e cap gz=>by have h1:=h.gT b0 b hb e cap gz;refine mj (hx.block b (my h1) ?_) h1;intro⟨e1,e2⟩;exact Ctx.WN (hold b e1 e2) hb
 refine⟨h.sz,qI,AP,fun γ hg ak=>?_,fun γ δ b h1 h2 h3 h4=>?_,fun i=>?_⟩
 ·unfold Qy at ak;by_cases qW:γ=β
  ·rw[if_pos qW]at ak;cases ak;subst qW;refine⟨he,hl,?_,(fun hq=>by rw[hB]at hq;cases hq),fun hq=>by rw[DC hB]at hq;cases hq⟩;rw[gI];cases b' with
   |none=>exact AE rfl
   |some c=>obtain⟨cur,cap,c1,c2,c3,c4,c5⟩:=a9 c rfl;exact⟨Ctx.ali (mY c rfl).1 hB,(mY c rfl).2.1,cur,cap,c1,c2,c3,c4,fun i x hi j y hy=>hc _ _ (c5 i x hi j y hy)⟩
  ·rw[if_neg qW]at ak;obtain⟨p1,p2,p3,p4,p5⟩:=h.own γ hg ak;refine⟨p1,p2,?_,(fun hq=>by rw[ov qW];exact p4 hq),p5⟩;rw[ov qW];cases bz:ρ γ with
   |none=>rw[bz]at p3;exact p3
   |some b=>rw[bz]at p3;refine⟨p3.1,KaK p3.2.1 hx.size,p3.2.2.move (hx.block b p3.2.1 ?_) rfl rfl rfl hc⟩;intro⟨e1,mS,e2,_⟩;exact qW (h.inj γ β b (by simp[ak]) (by simp[e2]) bz e1)
 ·
  have key:∀γ b,γ≠β->hp γ≠none->ρ γ=some b->b'=some b->False:=by
   intro γ b aP hs hr hb;obtain⟨_,_,h4|⟨h5,mS,h6,h7⟩⟩:=mY b hb
   ·cases hq:hp γ with
    |none=>exact hs hq
    |some hg=>have:=(h.own γ hg hq).dS;rw[hr]at this;omega
   ·exact aP (h.inj γ β b hs (by simp[h6]) hr h5)
  unfold Qy at h1 h2;by_cases ak:γ=β<;>by_cases lh:δ=β
  ·rw[ak,lh]
  ·subst ak;rw[gI]at h3;rw[ov lh]at h4;rw[if_neg lh]at h2;exact(key δ b lh h2 h4 h3).elim
  ·subst lh;rw[gI]at h4;rw[ov ak]at h3;rw[if_neg ak]at h1;exact(key γ b ak h1 h3 h4).elim
  ·rw[ov ak]at h3;rw[ov lh]at h4;rw[if_neg ak]at h1;rw[if_neg lh]at h2;exact h.inj γ δ b h1 h2 h3 h4
 ·obtain⟨hk,pG,mV⟩:=pB i _ (h.eQ i);refine hk.pU gz (fun γ ak=>?_) (fun γ ak=>?_)
  ·have aP:=pG γ ak;refine⟨ov aP,fun hg gC=>⟨hg,by simp[Qy,aP,gC],rfl,Kac _,fun b cap bz dN=>mj (hx.block b (my dN) ?_) dN⟩⟩;intro⟨e1,mS,e2,_⟩;exact aP (h.inj γ β b (by simp[gC]) (by simp[e2]) bz e1)
  ·have aP:=mV γ ak;have oc:∀b hg,hp γ=some hg->ρ γ=some b->¬(ρ β=some b/\∃hb,hp β=some hb/\hb.fz=false):=fun b hg gC bz ⟨e1,mS,e2,_⟩=>aP (h.inj γ β b (by simp[gC]) (by simp[e2]) bz e1);refine⟨ov aP,fun hg gC=>⟨hg,by simp[Qy,aP,gC],rfl,Kac _,fun b cap bz dN=>mj (hx.block b (my dN) (oc b hg gC bz)) dN,fun he=>⟨he,rfl,fun b bz=>hx.block b ?_ (oc b hg gC bz)⟩⟩⟩;have:=(h.own γ hg gC).dS;rw[bz]at this;exact this.2.1
theorem aI.rebind{w':World}(h:aI C ρ fr hp tmps w)(β:Nat)(b':Option Nat)(aw:HB)(hB:b9 β=false)
  (hx:Ext (fun b=>ρ β=some b/\∃hb,hp β=some hb/\hb.fz=false) w w')
  (mY:∀c,b'=some c->(C.w0.heap.size<=c∨C.Z0 c)/\c<w'.heap.size/\(w.heap.size<=c∨(ρ β=some c/\∃hb,hp β=some hb/\hb.fz=false)))
  (he:0<aw.e) (hl:∀(i:Nat)(x:PV),aw.xs[i]? =some x->x.cells.length=aw.e/\x.aD=true)
  (AE:b'=none->aw.xs=[]) (a9:∀c,b'=some c->∃(cur:Array Value) (cap:Nat),w'.heap[c]? =some (.cells cur aw.ty (0,0))/\cur.size=cap*aw.e/\aw.xs.length<=cap/\cap<=maxLen/\
   ∀(i:Nat)(x:PV),aw.xs[i]? =some x->∀(j:Nat)(y:PV),x.cells[j]? =some y->Qu w (aH C ρ hp) y (cur.getD (i*aw.e+j) undef)):
  aI C (rb ρ β b') (cI β fr) (Qy hp β aw) tmps w':=h.yv β b' aw (uZ hB) (CP hB) hx mY he hl AE a9
theorem aI.store{w':World}(h:aI C ρ fr hp tmps w)(β b:Nat)(hb aw:HB)(al:hp β=some hb)(lP:hb.fz=false)(aP:hb.xs≠[])(bz:ρ β=some b)
  (hx:Ext (fun c=>c=b) w w') (e1:aw.e=hb.e) (e3:aw.xs.length=hb.xs.length) (e4:aw.fz=false)
  (hl:∀(i:Nat)(x:PV),aw.xs[i]? =some x->x.cells.length=aw.e/\x.aD=true)
  (dN:∀e cap,dn w b e cap->dn w' b e cap)
  (a9:∃(cur:Array Value) (cap:Nat),w'.heap[b]? =some (.cells cur aw.ty (0,0))/\cur.size=cap*aw.e/\aw.xs.length<=cap/\cap<=maxLen/\
   ∀(i:Nat)(x:PV),aw.xs[i]? =some x->∀(j:Nat)(y:PV),x.cells[j]? =some y->Qu w (aH C ρ hp) y (cur.getD (i*aw.e+j) undef)):aI C ρ fr (Qy hp β aw) tmps w':=by
 have LA:∀c,aH C ρ (Qy hp β aw) c↔aH C ρ hp c:=by
  intro c;constructor
  ·rintro(hx|⟨γ,hg,h1,h2,h3⟩)
   ·exact .inl hx
   ·unfold Qy at h1;by_cases ak:γ=β
    ·subst ak;exact .inr ⟨γ,hb,al,lP,h3⟩
    ·rw[if_neg ak]at h1;exact .inr ⟨γ,hg,h1,h2,h3⟩
  ·rintro(hx|⟨γ,hg,h1,h2,h3⟩)
   ·exact .inl hx
   ·by_cases ak:γ=β
    ·subst ak;exact .inr ⟨γ,aw,by simp[Qy],e4,h3⟩
    ·exact .inr ⟨γ,hg,by simp[Qy,ak,h1],h2,h3⟩
 have hXf:aH C ρ (Qy hp β aw)=aH C ρ hp:=funext fun c=>propext (LA c);have Eo:aH C ρ hp b:=.inr ⟨β,hb,al,lP,bz⟩;have EK:iW β=false:=by
  cases hq:iW β with
  |false=>rfl
  |true=>have:=(h.own β hb al).ro hq;rw[lP]at this;cases this
 have gz:nG w w' (aH C ρ hp) (aH C ρ (Qy hp β aw)):=by rw[hXf];exact⟨fun c hc hn=>hx.block c hc (fun e=>hn (e▸Eo)),fun _ _ hn=>hn,hx.size⟩
 have hc:=gz.rc;have bk:=(h.own β hb al).dS;rw[bz]at bk;have qI:Ext C.Y0 C.w0 w':=by refine h.ext.trans' (Y':=fun c=>c=b) hx ?_;intro c hc he;subst he;exact(Ctx.La bk.1 EK).resolve_left (by omega)
 have AP:∀β c,C.fx β=some c->∀e cap,dn C.w0 c e cap->dn w' c e cap:=fun b0 c gz e cap gd=>by
  have h1:=h.gT b0 c gz e cap gd;by_cases ix:c=b
  ·subst ix;exact dN e cap h1
  ·exact mj (hx.block c (my h1) ix) h1
 refine⟨h.sz,qI,AP,fun γ hg ak=>?_,fun γ δ c h1 h2 h3 h4=>?_,fun i=>?_⟩
 ·unfold Qy at ak;by_cases qW:γ=β
  ·subst qW;rw[if_pos rfl]at ak;cases ak;refine⟨by rw[e1];exact(h.own γ hb al).lK,hl,?_,(h.own γ hb al).fix,fun hq=>by rw[EK]at hq;cases hq⟩;rw[bz];obtain⟨cur,cap,c1,c2,c3,c4,c5⟩:=a9;exact⟨bk.1,KaK bk.2.1 hx.size,cur,cap,c1,c2,c3,c4,fun i x hi j y hy=>hc _ _ (c5 i x hi j y hy)⟩
  ·rw[if_neg qW]at ak;obtain⟨p1,p2,p3,p4,p5⟩:=h.own γ hg ak;refine⟨p1,p2,?_,p4,p5⟩;cases hr:ρ γ with
   |none=>rw[hr]at p3;exact p3
   |some c=>rw[hr]at p3;exact⟨p3.1,KaK p3.2.1 hx.size,p3.2.2.move (hx.block c p3.2.1 (fun e=>qW (h.inj γ β b (by simp[ak]) (by simp[al]) (e▸hr) bz))) rfl rfl rfl hc⟩
 ·have f1:∀γ,Qy hp β aw γ≠none->hp γ≠none:=fun γ hn=>by
   unfold Qy at hn;by_cases ak:γ=β
   ·subst ak;simp[al]
   ·rwa[if_neg ak]at hn
  exact h.inj γ δ c (f1 γ h1) (f1 δ h2) h3 h4
 ·have key:∀γ,pY ρ ρ hp (Qy hp β aw) w w' γ:=fun γ=>⟨rfl,fun hg gC=>by
   by_cases ak:γ=β
   ·subst ak;rw[al]at gC;cases gC;exact⟨aw,by simp[Qy],e1,by rw[e3];exact Kac _,fun c cap hr gd=>by rw[bz]at hr;cases hr;exact dN _ cap gd,fun he=>absurd he aP⟩
   ·have oc:∀c,ρ γ=some c->¬c=b:=fun c hr e=>ak (h.inj γ β b (by simp[gC]) (by simp[al]) (e▸hr) bz);refine⟨hg,by simp[Qy,ak,gC],rfl,Kac _,fun c cap hr gd=>mj (hx.block c (my gd) (oc c hr)) gd,fun he=>⟨he,rfl,fun c hr=>hx.block c ?_ (oc c hr)⟩⟩;have:=(h.own γ hg gC).dS;rw[hr]at this;exact this.2.1⟩
  exact(h.eQ i).pU gz (fun γ _=>(key γ).o) (fun γ _=>key γ)
end Go.FW
namespace Go.FW
open Go
variable {C : Ctx} {ρ : Nat -> Option Nat} {fr : Fr} {hp : HP} {w : World} {a : Act} {K : Qg}
theorem QU{X:Nat->Prop}{v:Value}{p:PV}(h:zt v=some p):Qu w X p v:=by unfold zt at h;split at h<;>simp at h<;>subst h<;>constructor
theorem oo{α β:Type}{f:α->Option β}:∀ {l:List α} {r:List β},l.mapM f=some r->r.length=l.length/\∀(i:Nat)(y:β),r[i]? =some y->∃x,l[i]? =some x/\f x=some y
 | [],r,h=>by simp at h;subst h;simp
 |x::l,r,h=>by
  rw[KcR]at h;simp only[Kcy,KcW,Kab,KaB]at h;obtain⟨y,hy,r',hr,rfl⟩:=h;obtain⟨h1,h2⟩:=oo hr;refine⟨by simp[h1],fun i z hz=>?_⟩;cases i with
  |zero=>simp at hz;subst hz;exact⟨x,by simp,hy⟩
  |succ i=>simp at hz;simpa using h2 i z hz
theorem Cn(cs:Array Value)(i:Nat)(x:Value)(h:cs.toList[i]? =some x):cs.getD i undef=x:=by simp only[Array.getElem?_toList]at h;simp[KaZ,h]
theorem ri{X:Nat->Prop}{v:Value}{p:PV}(h:rD v=some p):aY w X p v:=by
 unfold rD at h;split at h
 ·rename_i cs;simp only[Kaa]at h;obtain⟨l,h1,rfl⟩:=h;obtain⟨g1,g2⟩:=oo h1;refine⟨cs,rfl,by simpa using g1.symm,fun i x hx=>?_⟩;obtain⟨u,hu,hc⟩:=g2 i x hx;rw[Cn cs i u hu];exact QU hc
 ·exact aY.pW (QU h)
theorem B3{v:Value}{p:PV}(h:rD v=some p):p.aD=true/\p.refs=[]/\(∀f first cap,p≠ .fn f first cap):=by
 unfold rD at h;split at h
 ·simp only[Kaa]at h;obtain⟨l,h1,rfl⟩:=h;simp[PV.aD,PV.refs]
 ·unfold zt at h;split at h<;>simp at h<;>subst h<;>simp[PV.aD,PV.refs]
theorem Qt.Wh{p:PV}{v:Value}(h:aY w (aH C ρ hp) p v)(hn:∀f first cap,p≠ .fn f first cap):Qt C ρ hp w p v:=by
 cases p with
 |fn f first cap=>exact absurd rfl (hn _ _ _)
 |undef=>trivial
 |mp=>cases h
 |ax=>cases h
 |rb=>cases h
 |aM=>cases h
 |np=>cases h
 |aT=>cases h
 |eO=>cases h
 |eP=>cases h
 |aN=>cases h
 |au=>cases h
 |agg cs=>exact h
 |_=>exact h
theorem Qt.ll{p:PV}{v:Value}(h:aY w (aH C ρ hp) p v):Qt C ρ hp w p v:=by
 by_cases hf:∃f first cap,p= .fn f first cap
 ·obtain⟨f,first,cap,rfl⟩:=hf;cases h with
  |fn _ _ _ fv cv h1 h2 h3 h4=>
   refine⟨fv,cv,rfl,h1,h2,fun i x hi=>?_,fun i x hi=>?_⟩
   ·have:=h3 i x hi;cases x<;>first|exact this|cases this
   ·have:=h4 i x hi;cases x<;>first|exact this|cases this
 ·exact Qt.Wh h (fun f first cap e=>hf ⟨f,first,cap,e⟩)
theorem cC{x:Operand}{y:aO}(h:aI C ρ fr hp a.tmps w)(ho:bY x=some y):Qt C ρ hp w (ev fr y) (a.eval x):=by
 cases x with
 |tmp t=>simp[bY]at ho;subst ho;exact h.eQ t
 |const v=>simp only[bY,Kaa]at ho;obtain⟨p,an,rfl⟩:=ho;exact Qt.Wh (ri an) (B3 an).2.2
 |global g=>simp[bY]at ho
 |func f=>simp[bY]at ho;subst ho;exact⟨#[],#[],rfl,rfl,rfl,by simp,by simp⟩
theorem Qt.jW{k:IntKind}{n:Int}{v:Value}(h:Qt C ρ hp w (.int k n) v):v= .int k n:=by cases h;rfl
theorem Qt.xI{b:Bool}{v:Value}(h:Qt C ρ hp w (.bool b) v):v= .bool b:=by cases h;rfl
theorem Qt.wh{v:Value}(h:Qt C ρ hp w .aa v):v= .slice none 0 0:=by cases h;rfl
theorem Qt.mkInt(k:IntKind)(n:Int):Qt C ρ hp w (.int k n) (.int k n):=Qu.int k n
theorem Qt.uh(b:Bool):Qt C ρ hp w (.bool b) (.bool b):=Qu.bool b
theorem Qt.WB:Qt C ρ hp w (.au []) undef:=⟨#[],rfl,rfl,by simp⟩
def bh(C:Ctx)(ρ:Nat->Option Nat)(o:Oper)(a:Act)(w:World)(K:Qg):Prop:=
 ∃v,(∀w',(execOp a.eval o).run C.P w'= .ok (.value v) w')/\∃ay an,aI C ρ ay an (a.put o.dst v).tmps w/\K ay an
theorem bh.mk{o:Oper}{d:Nat}{p:PV}{v:Value}(hd:o.dst=some d)(ar:d<C.N)(h:aI C ρ fr hp a.tmps w)
  (bm:∀w',(execOp a.eval o).run C.P w'= .ok (.value v) w') (hr:Qt C ρ hp w p v) (hK:K (af fr d p) hp):bh C ρ o a w K:=
 ⟨v,bm,af fr d p,hp,by rw[hd];exact h.af hr ar,hK⟩
theorem ij{P:Program}{t:TypeId}{d:TypeDesc}(h:P.underlying t=some d)(w:World):(underlying t).run P w= .ok d w:=run_underlying h w
theorem kH{P:Program}{t:TypeId}{n:Nat}(h:ee P t=some n)(w:World):(sizeOf t).run P w= .ok n w:=by simp only[ee,Kaa]at h;obtain⟨i,hi,rfl⟩:=h;simp[sizeOf,typeInfo,hi]
theorem yZ{P:Program}{t:TypeId}{ag:Bool}(h:lH P t=some ag)(w:World):(isAgg t).run P w= .ok ag w:=by simp only[lH,Kaa]at h;obtain⟨d,hd,rfl⟩:=h;simp only[isAgg,Kan,ij hd,Kaj];cases d<;>rfl
theorem QG{P:Program}{T:TypeId}(hu:P.underlying T=some .bool)(n m:Bool)(w:World):(Op.equal T (.bool n) (.bool m)).run P w= .ok (n==m) w:=by show(Op.equalIn (9999+1) T (.bool n) (.bool m)).run P w=_;unfold Op.equalIn;rw[Kan,ij hu,Kaj];rfl
theorem WQ{P:Program}{T:TypeId}(hu:P.underlying T=some .bool)(n m:Bool)(w:World):(binOp .eql T (.bool n) (.bool m)).run P w= .ok (.bool (n==m)) w:=by show(do pure (Value.bool (<-Op.equal T (.bool n) (.bool m))):Sem Value).run P w=_;rw[Kan,QG hu,Kaj];rfl
theorem WR{P:Program}{T:TypeId}(hu:P.underlying T=some .bool)(n m:Bool)(w:World):(binOp .neq T (.bool n) (.bool m)).run P w= .ok (.bool (!(n==m))) w:=by show(do pure (Value.bool (!(<-Op.equal T (.bool n) (.bool m)))):Sem Value).run P w=_;rw[Kan,QG hu,Kaj];rfl
theorem oV{o:Oper}{op:BinOp}{T T2:TypeId}{x y:Operand}(ho:o.op= .binOp op T x y T2){vx vy v:Value}(ex:a.eval x=vx)(ey:a.eval y=vy)
  (hg:∀w,(eqGuard op T x y vx vy).run C.P w= .ok () w) (hr:∀w,(binOp op T vx vy).run C.P w= .ok v w):∀w,(execOp a.eval o).run C.P w= .ok (.value v) w:=by
 intro w;unfold execOp;simp only[ho,ex,ey,Kan,hg,hr,Kaj];rfl
theorem Zv{o:Oper}{op:BinOp}{T T2:TypeId}{x y:Operand}{px py:PV}{d:Nat}(ho:o.op= .binOp op T x y T2)(hd:o.dst=some d)(ar:d<C.N)(h:aI C ρ fr hp a.tmps w)
    (hx:Qt C ρ hp w px (a.eval x)) (hy:Qt C ρ hp w py (a.eval y)) {bt:Bool} (iL:bt=true->C.P.underlying T=some .bool)
    (hv:ck op bt px py d fr hp K):bh C ρ o a w K:=by
  unfold ck at hv;split at hv
  · rename_i k n k' m
    have ex:=hx.jW;have ey:=hy.jW;have en:∀w',(eqGuard op T x y (.int k n) (.int k' m)).run C.P w'= .ok () w':=by intro w';unfold eqGuard;cases op<;>rfl
    split at hv
    · obtain⟨h0,hv⟩:=hv
      have DX:¬m<0:=by omega
      exact bh.mk hd ar h (oV ho ex ey en (fun w'=>by simp[binOp,Op.shift,DX])) (Qt.mkInt _ _) hv
    · obtain⟨h0,hv⟩:=hv
      have DX:¬m<0:=by omega
      exact bh.mk hd ar h (oV ho ex ey en (fun w'=>by simp[binOp,Op.shift,DX])) (Qt.mkInt _ _) hv
    all_goals first
      |exact hv.elim
      | (obtain⟨rfl,h0,hv⟩:=hv
         exact bh.mk hd ar h (oV ho ex ey en (fun w'=>by simp[binOp,Op.intDiv,h0])) (Qt.mkInt _ _) hv)
      | (obtain⟨rfl,hv⟩:=hv
         exact bh.mk hd ar h (oV ho ex ey en (fun w'=>by simp[binOp,Op.intArith,Op.intBits])) (Qt.mkInt _ _) hv)
      | (obtain⟨rfl,hv⟩:=hv
         refine bh.mk hd ar h (oV ho ex ey en ?_) (Qt.uh _) hv;intro w';simp[binOp,Op.intCmp]<;>rfl)
  · rename_i n m
    have ex:=hx.xI;have ey:=hy.xI;have en:∀w',(eqGuard op T x y (.bool n) (.bool m)).run C.P w'= .ok () w':=by intro w';unfold eqGuard;cases op<;>rfl
    split at hv
    · obtain⟨hb,hv⟩:=hv
      exact bh.mk hd ar h (oV ho ex ey en (WQ (iL hb) n m)) (Qt.uh _) hv
    · obtain⟨hb,hv⟩:=hv
      exact bh.mk hd ar h (oV ho ex ey en (WR (iL hb) n m)) (Qt.uh _) hv
    · exact hv.elim
  · exact hv.elim
theorem Qt.Wv{e:Nat}{xs:List PV}{v:Value}(h:Qt C ρ hp w (.sl e xs) v):∃ad cap,v= .slice ad xs.length cap/\xs.length<=cap/\cap<=maxLen:=by
 cases h with
 |gH _ ad cap hc=>exact⟨ad,cap,rfl,Kbw _,hc⟩
 |sl _ _ b off cap vs hX hb hl hc=>exact⟨_,cap,rfl,hl,hc⟩
theorem Qt.MH{β o n:Nat}{v:Value}(h:Qt C ρ hp w (.ax β o n) v):∃ad cap,v= .slice ad n cap:=by
 obtain⟨hb,_,_,⟨_,rfl,rfl,rfl⟩|⟨b,cap,_,rfl,_⟩⟩:=h
 ·exact⟨_,_,rfl⟩
 ·exact⟨_,_,rfl⟩
theorem Qt.aoM{γ o n:Nat}{v:Value}(h:Qt C ρ hp w (.aM γ o n) v):∃ad cap,v= .slice ad n cap:=by obtain⟨_,hb,b,cap,_,_,rfl,_⟩:=h;exact⟨_,_,rfl⟩
theorem Qt.MM{γ i o:Nat}{v:Value}(h:Qt C ρ hp w (.np γ i o) v):b9 γ=true/\∃b hb,ρ γ=some b/\hp γ=some hb/\v= .pointer (some ⟨b,i*hb.e+o,none⟩):=h
theorem Qt.Wg{p:PV}{v:Value}(h:cT C ρ hp w p v):Qt C ρ hp w p v:=by
 cases p with
 |undef=>trivial
 |ax β o n=>exact h.2
 |aM γ o n=>exact h
 |_=>exact Qt.ll (aY.pW h)
theorem cT.toC{p:PV}{v:Value}(h:cT C ρ hp w p v)(hr:p.oe=false):Qu w (aH C ρ hp) p v:=by
 cases p with
 |undef=>cases hr
 |ax=>cases hr
 |aM=>cases hr
 |_=>exact h
theorem cT.Wf{p:PV}{v:Value}(h:Qu w (aH C ρ hp) p v):cT C ρ hp w p v:=by
 cases p with
 |ax=>cases h
 |aM=>cases h
 |undef=>trivial
 |_=>exact h
theorem cT.qY{p:PV}{v:Value}(h:cT C ρ hp w p v)(hu:p≠ .undef):v.oneCell'=true/\v.cells= #[v]:=by
 cases p with
 |undef=>exact absurd rfl hu
 |ax β o n=>obtain⟨_,hb,_,_,⟨_,rfl,_⟩|⟨b,cap,_,rfl,_⟩⟩:=h<;>exact⟨rfl,rfl⟩
 |aM γ o n=>obtain⟨_,hb,b,cap,_,_,rfl,_⟩:=h;exact⟨rfl,rfl⟩
 |_=>exact⟨(Qu.qY h).1,(Qu.qY h).2.1⟩
theorem XL(cs:List PV):(nA cs).bj=cs:=by unfold nA;split<;>rfl
theorem Zw{cs:List PV}{vs:Array Value}(hs:vs.size=cs.length)(h:∀(i:Nat)(x:PV),cs[i]? =some x->cT C ρ hp w x (vs.getD i undef)):Qt C ρ hp w (nA cs) (.agg vs):=by
 unfold nA;split
 ·exact⟨vs,rfl,hs,h⟩
 ·rename_i hn;refine⟨vs,rfl,hs,fun i x hi=>(h i x hi).toC ?_⟩;have hm:=Kai hi;cases hq:x.oe with
  |false=>rfl
  |true=>exact absurd (Ka4.2 ⟨x,hm,hq⟩) hn
theorem Ow{ag:Bool}{n off:Nat}{x:PV}{vs:Array Value}(hs:vs.size=n)(hle:off+n<=x.bj.length)(h1:ag=false->n=1)
  (hr:∀j y,j<n->x.bj[off+j]? =some y->cT C ρ hp w y (vs.getD j undef)):Qt C ρ hp w (qX ag n off x) (if ag then .agg vs else vs.getD 0 undef):=by
 cases ag with
 | true=>
  refine Zw (by simp[hs];omega) (fun i y hy=>?_);have hi:i<n:=by have:=(Kad.1 hy).1;simp at this;omega
  rw[KaJ hi,Ka9]at hy;exact hr i y hi hy
 | false=>
  have hn:=h1 rfl;subst hn;have ar:off<x.bj.length:=by omega
  have e:x.bj[off+0]? =some (x.bj[off]):=by simp[Kam ar]
  have:=hr 0 _ (by omega) e;simp only[qX,KaL,if_false];have e2:(x.bj.drop off).headD .undef=x.bj[off]:=by rw[KbD,Kcu,Kam ar];rfl
  rw[e2];exact Qt.Wg this
theorem BY{o:Oper}{b:Builtin}{args:Array Operand}{ts:Array TypeId}(ho:o.op= .call { callee:=.builtin b,args:=args,argTypes:=ts }){v:Value}
  (hr:∀w,(builtin b ts o.type (args.map fun| .const _=>true|_=>false) (args.map a.eval)).run C.P w= .ok (.value v) w):∀w,(execOp a.eval o).run C.P w= .ok (.value v) w:=by
 intro w;unfold execOp;simp only[ho,resolve,Kan,Ka0,Kaj,invoke];exact hr w
theorem Zx{o:Oper}{x:Operand}{t:TypeId}{px:PV}{d:Nat}(ho:o.op= .call { callee:=.builtin .len,args:= #[x],argTypes:= #[t] })(hd:o.dst=some d)(ar:d<C.N)(h:aI C ρ fr hp a.tmps w)
  (hx:Qt C ρ hp w px (a.eval x)) {e:TypeId} (he:C.P.underlying t=some (.slice e)) (hv:ox px d fr hp K):bh C ρ o a w K:=by
 have key:∀ad n cap,a.eval x= .slice ad n cap->K (af fr d (.int .i64 n)) hp->bh C ρ o a w K:=fun ad n cap ex hK=>
  bh.mk hd ar h (BY ho (fun w'=>by simp[builtin,Builtin.len_,ex,Kan,ij he,goInt])) (Qt.mkInt _ _) hK
 unfold ox at hv;split at hv
 ·exact key _ _ _ hx.wh hv
 ·obtain⟨ad,cap,ex,_⟩:=hx.Wv;exact key _ _ _ ex hv
 ·obtain⟨ad,cap,ex⟩:=hx.MH;exact key _ _ _ ex hv
 ·obtain⟨ad,cap,ex⟩:=hx.aoM;exact key _ _ _ ex hv
 ·exact hv.elim
theorem Qt.Fj{s:ByteArray}{v:Value}(h:Qt C ρ hp w (.str s) v):v= .string s:=by cases h;rfl
theorem Nd{P:Program}{t:TypeId}(h:xu P t=true):P.underlying t=some .string:=by
 unfold xu at h;split at h
 ·assumption
 ·cases h
theorem Zy{o:Oper}{x:Operand}{t:TypeId}{px:PV}{d:Nat}(ho:o.op= .call { callee:=.builtin .len,args:= #[x],argTypes:= #[t] })(hd:o.dst=some d)(ar:d<C.N)(h:aI C ρ fr hp a.tmps w)
  (hx:Qt C ρ hp w px (a.eval x)) (hs:xu C.P t=true) (hv:vh px d fr hp K):bh C ρ o a w K:=by
 have hu:=Nd hs;unfold vh at hv;split at hv
 ·rename_i s;have ex:=hx.Fj;exact bh.mk hd ar h (BY ho (fun w'=>by simp[builtin,Builtin.len_,ex,Kan,ij hu,goInt])) (Qt.mkInt _ _) hv
 ·exact hv.elim
theorem XM{P:Program}{T:TypeId}(hu:P.underlying T=some .string)(n m:ByteArray)(w:World):(binOp .eql T (.string n) (.string m)).run P w= .ok (.bool (n==m)) w:=by simp[binOp,Op.stringOp,beq_toListBytes]
theorem XN{P:Program}{T:TypeId}(hu:P.underlying T=some .string)(n m:ByteArray)(w:World):(binOp .neq T (.string n) (.string m)).run P w= .ok (.bool (!(n==m))) w:=by simp[binOp,Op.stringOp,bne,beq_toListBytes]
theorem SS(x y:ByteArray):(x==y)=decide (x=y):=by
 by_cases h:x=y
 ·subst h;rw[decide_eq_true rfl];show(x.data==x.data)=true;simp
 ·rw[decide_eq_false h];have h':x.data≠y.data:=fun e=>h (by cases x;cases y;simp_all);show(x.data==y.data)=false;simpa using h'
theorem ZA{o:Oper}{op:BinOp}{ng:Bool}{T T2:TypeId}{x y:Operand}{px py:PV}{d:Nat}(ho:o.op= .binOp op T x y T2)(hop:BQ op=some ng)(hs:xu C.P T=true)(hd:o.dst=some d)(ar:d<C.N)(h:aI C ρ fr hp a.tmps w)
  (hx:Qt C ρ hp w px (a.eval x)) (hy:Qt C ρ hp w py (a.eval y)) (hv:qv ng px py d fr hp K):bh C ρ o a w K:=by
 have hu:=Nd hs;unfold qv at hv;split at hv
 ·rename_i n m;have ex:=hx.Fj;have ey:=hy.Fj;have en:∀w',(eqGuard op T x y (.string n) (.string m)).run C.P w'= .ok () w':=by intro w';unfold eqGuard;cases op<;>rfl
  cases op<;>first|(cases hop;done)|skip
  ·cases hop;exact bh.mk hd ar h (oV ho ex ey en (XM hu n m)) (Qt.uh _) (by rw[SS];simpa using hv)
  ·cases hop;exact bh.mk hd ar h (oV ho ex ey en (XN hu n m)) (Qt.uh _) (by rw[SS];simpa using hv)
 ·exact hv.elim
theorem abv{o:Oper}{x y:Operand}{ts:Array TypeId}{px py:PV}{d:Nat}(ho:o.op= .call { callee:=.builtin .max,args:= #[x,y],argTypes:=ts })(hd:o.dst=some d)(ar:d<C.N)(h:aI C ρ fr hp a.tmps w)
  (hx:Qt C ρ hp w px (a.eval x)) (hy:Qt C ρ hp w py (a.eval y)) (hv:we px py d fr hp K):bh C ρ o a w K:=by
 unfold we at hv;split at hv
 ·rename_i k n k' m;have ex:=hx.jW;have ey:=hy.jW;refine bh.mk hd ar h (BY ho (fun w'=>?_)) (Qt.mkInt _ _) hv;have e:(if m>n then m else n)=max n m:=by omega
  simp[builtin,Builtin.max_,ex,ey,Builtin.max2,e]
 ·exact hv.elim
theorem abw{o:Oper}{x y:Operand}{ts:Array TypeId}{px py:PV}{d:Nat}(ho:o.op= .call { callee:=.builtin .min,args:= #[x,y],argTypes:=ts })(hd:o.dst=some d)(ar:d<C.N)(h:aI C ρ fr hp a.tmps w)
  (hx:Qt C ρ hp w px (a.eval x)) (hy:Qt C ρ hp w py (a.eval y)) (hv:wc px py d fr hp K):bh C ρ o a w K:=by
 unfold wc at hv;split at hv
 ·rename_i k n k' m;have ex:=hx.jW;have ey:=hy.jW;refine bh.mk hd ar h (BY ho (fun w'=>?_)) (Qt.mkInt _ _) hv;have e:(if m<n then m else n)=min n m:=by omega
  simp[builtin,Builtin.min_,ex,ey,Builtin.min2,e]
 ·exact hv.elim
theorem abx{o:Oper}{op:UnOp}{T:TypeId}{x:Operand}{px:PV}{d:Nat}(ho:o.op= .unOp op T x)(hd:o.dst=some d)(ar:d<C.N)(h:aI C ρ fr hp a.tmps w)
  (hx:Qt C ρ hp w px (a.eval x)) (hv:uo op px d fr hp K):bh C ρ o a w K:=by
 unfold uo at hv;split at hv
 ·have ex:=hx.xI;refine bh.mk hd ar h (fun w'=>?_) (Qt.uh _) hv;unfold execOp;simp only[ho,ex];rfl
 ·have ex:=hx.jW;refine bh.mk hd ar h (fun w'=>?_) (Qt.mkInt _ _) hv;unfold execOp;simp only[ho,ex];rfl
 ·exact hv.elim
theorem Yn{o:Oper}{S T:TypeId}{x:Operand}{px:PV}{d:Nat}{ds:TypeDesc}{k:IntKind}(ho:o.op= .convert S T x)(hd:o.dst=some d)(ar:d<C.N)(h:aI C ρ fr hp a.tmps w)
  (hS:C.P.underlying S=some ds) (hT:C.P.underlying T=some (.int k)) (hx:Qt C ρ hp w px (a.eval x)) (hv:u9 k px d fr hp K):bh C ρ o a w K:=by
 unfold u9 at hv;split at hv
 ·have ex:=hx.jW;refine bh.mk hd ar h (fun w'=>?_) (Qt.mkInt _ _) hv;unfold execOp;simp only[ho,ex,Kan,convert,ij hS,ij hT,Kaj];rfl
 ·exact hv.elim
theorem ZB{o:Oper}{i:Nat}{x:Operand}{px:PV}{d:Nat}(ho:o.op= .extract x i)(hd:o.dst=some d)(ar:d<C.N)(h:aI C ρ fr hp a.tmps w)
  (hx:Qt C ρ hp w px (a.eval x)) (hv:ki px i d fr hp K):bh C ρ o a w K:=by
 unfold ki at hv;split at hv
 ·rename_i ps;split at hv
  ·rename_i p iT;obtain⟨iO,hv⟩:=hv;obtain⟨vs,ex,h1,h2⟩:=hx;have hi:i<vs.size:=by rw[h1];exact(Kad.1 iT).1
   have hr:=h2 i p iT;have hg:vs.getD i undef=vs[i]:=by simp[Array.getD,hi]
   rw[hg]at hr;refine bh.mk hd ar h (fun w'=>?_) (Qt.ll hr) hv;unfold execOp;simp only[ho,ex,Kan,Instr.extract,Kbe hi];rfl
  ·exact hv.elim
 ·rename_i ps;split at hv
  ·rename_i p iT;obtain⟨vs,ex,h1,h2⟩:=hx;have hi:i<vs.size:=by rw[h1];exact(Kad.1 iT).1
   have hr:=h2 i p iT;have hg:vs.getD i undef=vs[i]:=by simp[Array.getD,hi]
   rw[hg]at hr;refine bh.mk hd ar h (fun w'=>?_) (Qt.Wg hr) hv;unfold execOp;simp only[ho,ex,Kan,Instr.extract,Kbe hi];rfl
  ·exact hv.elim
 ·rename_i cs q;obtain⟨vs,u,ex,h1,h2,h3⟩:=hx;split at hv
  ·refine bh.mk (p:=.aT cs) (v:=.agg vs) hd ar h (fun w'=>?_) ⟨vs,rfl,h1,h2⟩ hv;unfold execOp;simp only[ho,ex,Kan,Instr.extract];rfl
  ·refine bh.mk (v:=u) hd ar h (fun w'=>?_) (Qt.ll h3) hv;unfold execOp;simp only[ho,ex,Kan,Instr.extract];rfl
  ·exact hv.elim
 ·exact hv.elim
theorem Nf{o:Oper}{x:Operand}{px:PV}{d:Nat}(ho:o.op= .move x∨o.op= .assign x)(hd:o.dst=some d)(ar:d<C.N)(h:aI C ρ fr hp a.tmps w)
  (hx:Qt C ρ hp w px (a.eval x)) (hv:K (af fr d px) hp):bh C ρ o a w K:=by
 refine bh.mk hd ar h (fun w'=>?_) hx hv;rcases ho with ho|ho<;>(unfold execOp;simp only[ho];rfl)
theorem Yo{o:Oper}{c x y:Operand}{pc px py:PV}{d:Nat}(ho:o.op= .pick c x y)(hd:o.dst=some d)(ar:d<C.N)(h:aI C ρ fr hp a.tmps w)
  (hc:Qt C ρ hp w pc (a.eval c)) (hx:Qt C ρ hp w px (a.eval x)) (hy:Qt C ρ hp w py (a.eval y))
  (hv:rI pc px py d fr hp K):bh C ρ o a w K:=by
 obtain⟨t,rfl,hv⟩:∃t,pc= .bool t/\((t=true->K (af fr d px) hp)/\(t=false->K (af fr d py) hp)):=by
  cases pc with
  |bool t=>exact⟨t,rfl,hv⟩
  |_=>exact hv.elim
 have ec:=hc.xI;cases t with
 |true=>refine bh.mk hd ar h (fun w'=>?_) hx (hv.1 rfl);unfold execOp;simp only[ho,ec];rfl
 |false=>refine bh.mk hd ar h (fun w'=>?_) hy (hv.2 rfl);unfold execOp;simp only[ho,ec];rfl
theorem BZ{P:Program}{T:TypeId}{k0:IntKind}(hu:P.underlying T=some (.int k0))(d:Nat)(k:IntKind)(n m:Int)(w:World):(Op.equalIn (d+1) T (.int k n) (.int k m)).run P w= .ok (n==m) w:=by unfold Op.equalIn;rw[Kan,ij hu,Kaj];simp
theorem y3{P:Program}{t:TypeId}{cs:Array Value}{off:Nat}{v:Value}(ha:lH P t=some false)(hv:cs[off]? =some v)(w:World):(part t cs off).run P w= .ok v w:=by unfold part;rw[Kan,yZ ha,Kaj];simp[hv]
theorem WS {P : Program} {T : TypeId} {f g : Field} (hu : P.underlying T = some (.struct #[f, g])) (h1 : f.name ≠ "_") (h2 : g.name ≠ "_") (o1 : f.offset = 0) (o2 : g.offset = 1) {k1 k2 : IntKind} (t1 : P.underlying f.type = some (.int k1)) (t2 : P.underlying g.type = some (.int k2))
  (hs:P.stoodInHeld T=false) (k l:IntKind) (x y x' y':Int) (w:World):(Op.equal T (.agg #[.int k x,.int l y]) (.agg #[.int k x',.int l y'])).run P w= .ok (x==x'&&y==y') w:=by
 have a1:lH P f.type=some false:=by simp[lH,t1]
 have a2:lH P g.type=some false:=by simp[lH,t2]
 show(Op.equalIn (9998+1+1) T _ _).run P w=_;rw[Op.equalIn];rw[Kan,ij hu,Kaj];have hp:Sem.run P program w= .ok P w:=rfl;rw[Kan,hp,Kaj,hs];simp only[KaL,if_false];rw[<-Array.forIn_toList];simp only[List.forIn_cons,List.forIn_nil,Kan,o1,o2,h1,h2,ne_eq,not_false_eq_true,if_true,y3 a1 (show(#[Value.int k x,Value.int l y])[0]? =some _ from rfl),y3 a1 (show(#[Value.int k x',Value.int l y'])[0]? =some _ from rfl),
  y3 a2 (show(#[Value.int k x,Value.int l y])[1]? =some _ from rfl),y3 a2 (show(#[Value.int k x',Value.int l y'])[1]? =some _ from rfl),BZ t1,BZ t2,Kaj]
 have q1:∀n m w,(Op.equalIn 9999 f.type (.int k n) (.int k m)).run P w= .ok (n==m) w:=fun n m w=>BZ t1 9998 k n m w;have q2:∀n m w,(Op.equalIn 9999 g.type (.int l n) (.int l m)).run P w= .ok (n==m) w:=fun n m w=>BZ t2 9998 l n m w;have p2:∀u v w,(part g.type #[u,v] 1).run P w= .ok v w:=fun u v w=>y3 a2 (show(#[u,v])[1]? =some _ from rfl) w;by_cases e1:x=x'<;>by_cases e2:y=y'<;>simp[e1,e2,q1,q2,p2]
theorem aby{P:Program}{T:TypeId}{b:Bool}{X Y:Array Value}(h:∀w,(Op.equal T (.agg X) (.agg Y)).run P w= .ok b w)(w:World):(binOp .eql T (.agg X) (.agg Y)).run P w= .ok (.bool b) w:=by show(do pure (Value.bool (<-Op.equal T (.agg X) (.agg Y))):Sem Value).run P w=_;rw[Kan,h,Kaj];rfl
theorem abz{P:Program}{T:TypeId}{b:Bool}{X Y:Array Value}(h:∀w,(Op.equal T (.agg X) (.agg Y)).run P w= .ok b w)(w:World):(binOp .neq T (.agg X) (.agg Y)).run P w= .ok (.bool !b) w:=by show(do pure (Value.bool (!(<-Op.equal T (.agg X) (.agg Y)))):Sem Value).run P w=_;rw[Kan,h,Kaj];rfl
theorem RY {P : Program} {T:TypeId} {op:BinOp} {x y:Operand} {X Y:Array Value} (h:P.eqGuardType P.depth T=false) (w:World):(eqGuard op T x y (.agg X) (.agg Y)).run P w= .ok () w:=by
  have hp:Sem.run P program w= .ok P w:=rfl
  have hg : (do if !(<-program).eqGuardType (<-program).depth T then return
                if <- Op.eqGuardIn Op.maxDepth T (.agg X) (.agg Y) then unsupported (.noEntry "binop/eql: two nil values of an interface type with methods, in a part of a struct or an array") : Sem Unit).run P w = .ok () w := by
    rw[Kan,hp,Kaj,Kan,hp,Kaj,h];rfl
  cases op<;>first|rfl|exact hg
theorem ag2 {P : Program} {T : TypeId} (h : Fi P T = true) : ∃ f g k1 k2, P.underlying T = some (.struct #[f, g]) /\ f.name ≠ "_" /\ g.name ≠ "_" /\ f.offset = 0 /\ g.offset = 1 /\ P.underlying f.type = some (.int k1) /\ P.underlying g.type = some (.int k2) /\ P.stoodInHeld T = false /\ P.eqGuardType P.depth T = false := by
 unfold Fi at h;split at h
 ·rename_i fs hu;split at h
  ·rename_i f g nU;simp only[Kat,bne_iff_ne,ne_eq,beq_iff_eq,Bool.not_eq_true']at h;obtain⟨⟨⟨⟨⟨⟨⟨h1,h2⟩,h3⟩,h4⟩,h5⟩,h6⟩,h7⟩,h8⟩:=h;have:fs= #[f,g]:=by rw[<-Array.toArray_toList (xs:=fs),nU]
   subst this;cases u1:P.underlying f.type with
   |none=>rw[u1]at h5;cases h5
   | some t1=>cases u2:P.underlying g.type with
    |none=>rw[u2]at h6;cases h6
    |some t2=>
     rw[u1]at h5;rw[u2]at h6;cases t1<;>first|(cases h5;done)|skip
     cases t2<;>first|(cases h6;done)|skip
     exact⟨f,g,_,_,hu,h1,h2,h3,h4,u1,u2,h7,h8⟩
  ·cases h
 ·cases h
theorem Ng{cs:List PV}{v:Value}{p q:PV}(jz:cs=[p,q])(h:Qt C ρ hp w (.agg cs) v):∃x y,v= .agg #[x,y]/\Qu w (aH C ρ hp) p x/\Qu w (aH C ρ hp) q y:=by
 subst jz;obtain⟨vs,rfl,h1,h2⟩:=h;have hs:vs.size=2:=h1;refine⟨vs.getD 0 undef,vs.getD 1 undef,?_,h2 0 p rfl,h2 1 q rfl⟩;congr 1;apply Array.ext
 ·simp[hs]
 ·intro i hi aA;have:i=0∨i=1:=by simp at aA;omega
  rcases this with rfl|rfl<;>simp[Array.getD,hs]
theorem ZC{o:Oper}{op:BinOp}{ng:Bool}{T T2:TypeId}{x y:Operand}{px py:PV}{d:Nat}(ho:o.op= .binOp op T x y T2)(hop:BQ op=some ng)(eY:Fi C.P T=true)(hd:o.dst=some d)(ar:d<C.N)(h:aI C ρ fr hp a.tmps w)
  (hx:Qt C ρ hp w px (a.eval x)) (hy:Qt C ρ hp w py (a.eval y)) (hv:qu ng px py d fr hp K):bh C ρ o a w K:=by
 obtain⟨f,g,k1,k2,hu,h1,h2,h3,h4,u1,u2,h7,h8⟩:=ag2 eY;unfold qu at hv;split at hv
 ·rename_i k n l m k' n' l' m';obtain⟨rfl,rfl,hv⟩:=hv;obtain⟨a1,b1,ex,r1,r2⟩:=Ng rfl hx;obtain⟨a2,b2,ey,r3,r4⟩:=Ng rfl hy;cases r1;cases r2;cases r3;cases r4;have heq:∀w,(Op.equal T (.agg #[.int k n,.int l m]) (.agg #[.int k n',.int l m'])).run C.P w= .ok (n==n'&&m==m') w:=fun w=>WS hu h1 h2 h3 h4 u1 u2 h7 k l n m n' m' w;have e:(n==n'&&m==m')=(decide (n=n')&&decide (m=m')):=rfl;rw[e]at heq;cases op<;>first|(cases hop;done)|skip
  ·cases hop;exact bh.mk hd ar h (oV ho ex ey (RY h8) (aby heq)) (Qt.uh _) (by simpa using hv)
  ·cases hop;exact bh.mk hd ar h (oV ho ex ey (RY h8) (abz heq)) (Qt.uh _) (by simpa using hv)
 ·exact hv.elim
end Go.FW
namespace Go.FW
open Go
variable {C : Ctx} {ρ : Nat -> Option Nat} {fr : Fr} {hp : HP} {w : World} {a : Act} {K : Qg}
theorem XO{l:List PV}{n:Nat}(h:n<l.length):l[n]? =some (l[n]'h):=Kam h
theorem FP{P:Program}{t e:TypeId}{n:Nat}{ad:Addr}{len cap:Nat}{k:IntKind}{i:Int}(hu:P.underlying t=some (.slice e))(hn:ee P e=some n)(h0:0<=i)(h1:i<len)(w:World):
  (Instr.indexAt t (.slice (some ad) len cap) (.int k i)).run P w= .ok (.pointer (some (ad.add (i.toNat*n)))) w:=by
 have h2:0<=i/\i<len:=⟨h0,h1⟩
 unfold Instr.indexAt;simp only[asIntOf,Kan,Ka0,Kaj,ij hu,if_pos h2,kH hn]
theorem QB{P:Program}{t e:TypeId}{n len:Nat}{ad:Addr}{k:IntKind}{i:Int}(hu:P.underlying t=some (.array len e))(hn:ee P e=some n)(h0:0<=i)(h1:i<len)(w:World):
  (Instr.indexAt t (.pointer (some ad)) (.int k i)).run P w= .ok (.pointer (some (ad.add (i.toNat*n)))) w:=by
 have h2:0<=i/\i<len:=⟨h0,h1⟩
 unfold Instr.indexAt;simp only[asIntOf,Kan,Ka0,Kaj,ij hu,Instr.sureAddr,if_pos h2,kH hn]
theorem Qt.yp{β i o:Nat}{v:Value}(h:Qt C ρ hp w (.mp β i o) v):∃b hb,ρ β=some b/\hp β=some hb/\v= .pointer (some ⟨b,i*hb.e+o,none⟩):=h
theorem Qt.MG{β i o b:Nat}{hb:HB}(h1:ρ β=some b)(h2:hp β=some hb):Qt C ρ hp w (.mp β i o) (.pointer (some ⟨b,i*hb.e+o,none⟩)):=⟨b,hb,h1,h2,rfl⟩
theorem ZD{o:Oper}{t e:TypeId}{n:Nat}{x i:Operand}{px pi:PV}{d:Nat}(ho:o.op= .indexAddr t x i)(hd:o.dst=some d)(ar:d<C.N)(h:aI C ρ fr hp a.tmps w)
  (hu:C.P.underlying t=some (.slice e)) (hn:ee C.P e=some n) (hx:Qt C ρ hp w px (a.eval x)) (hi:Qt C ρ hp w pi (a.eval i)) (hv:dG n px pi d fr hp K):bh C ρ o a w K:=by
 unfold dG at hv;split at hv
 ·rename_i e' xs k m;obtain⟨rfl,h0,h1,hK⟩:=hv;have ei:=hi.jW;have hlen:m<xs.length:=by omega
  generalize ev:a.eval x=vx at hx;cases hx with
  |gH=>simp at h1
  |sl _ _ b off cap vs hX hb hl hc he od hr=>
   have eZ:=XO h1;have eV:=he _ _ eZ;refine bh.mk hd ar h (v:=.pointer (some ⟨b,off+m.toNat*n,none⟩)) (fun w'=>?_) ?_ hK
   ·unfold execOp;simp only[ho,ei,ev,Kan,FP hu hn h0 hlen,Kaj,Kby];rfl
   ·exact Qu.pt _ b _ (vs m.toNat) hX hb (fun j hj=>od m.toNat h1 j (by omega)) (fun j y hy=>hr m.toNat _ eZ j y hy)
 ·rename_i β o' m k n';obtain⟨h0,h1,h2,hK⟩:=hv;have ei:=hi.jW;obtain⟨hb,g1,g2,⟨g3,_,g5,_⟩|⟨b,cap,g3,g4,g5,g6⟩⟩:=hx
  ·omega
  ·rw[g1]at h2;simp only[Kcj,KaB]at h2;subst h2;have hm:n'<m:=by omega
   refine bh.mk hd ar h (fun w'=>?_) (Qt.MG g3 g1) hK;unfold execOp;simp only[ho,ei,g4,Kan,FP hu hn h0 hm,Kaj,Kby,KaT,KaH];rfl
 ·rename_i γ o' m k n';obtain⟨h0,h1,h2,hK⟩:=hv;have ei:=hi.jW;obtain⟨hB,hb,b,cap,g1,g3,g4,g5,g6,g7⟩:=hx;rw[g1]at h2;simp only[Kcj,KaB]at h2;subst h2;have hm:n'<m:=by omega
  refine bh.mk hd ar h (p:=.np γ (o'+n'.toNat) 0) (fun w'=>?_) (show cU C ρ hp w (.np γ (o'+n'.toNat) 0) _ from⟨hB,b,hb,g3,g1,rfl⟩) hK;unfold execOp;simp only[ho,ei,g4,Kan,FP hu hn h0 hm,Kaj,Kby,KaT,KaH];rfl
 ·exact hv.elim
theorem Qu.Wo{X:Nat->Prop}{cs:List PV}{b off k:Nat}(h:Qu w X (.pt cs) (.pointer (some ⟨b,off,none⟩))):Qu w X (.pt (cs.drop k)) (.pointer (some ⟨b,off+k,none⟩)):=by
 cases h with
 |pt _ _ _ vs hX hb hv hr=>
  refine Qu.pt _ b _ (fun j=>vs (k+j)) hX hb (fun j hj=>?_) (fun j y hy=>?_)
  ·have:=hv (k+j) (by simp at hj;omega);rwa[<-Nat.add_assoc]at this
  ·rw[Ka9]at hy;exact hr _ _ hy
theorem Qt.Fh{cs:List PV}{v:Value}(h:Qt C ρ hp w (.pt cs) v):∃b off,v= .pointer (some ⟨b,off,none⟩)/\Qu w (aH C ρ hp) (.pt cs) (.pointer (some ⟨b,off,none⟩)):=by
 have h':Qu w (aH C ρ hp) (.pt cs) v:=h;cases h' with
 |pt _ b off vs hX hb hv hr=>exact⟨b,off,rfl,.pt _ b off vs hX hb hv hr⟩
theorem Yp{o:Oper}{t e:TypeId}{n len:Nat}{x i:Operand}{px pi:PV}{d:Nat}(ho:o.op= .indexAddr t x i)(hd:o.dst=some d)(ar:d<C.N)(h:aI C ρ fr hp a.tmps w)
  (hu:C.P.underlying t=some (.array len e)) (hn:ee C.P e=some n) (hx:Qt C ρ hp w px (a.eval x)) (hi:Qt C ρ hp w pi (a.eval i)) (hv:qn len n px pi d fr hp K):bh C ρ o a w K:=by
 unfold qn at hv;split at hv
 ·rename_i β j o' k m;obtain⟨h0,h1,hK⟩:=hv;have ei:=hi.jW;obtain⟨b,hb,g1,g2,g3⟩:=hx.yp;refine bh.mk hd ar h (fun w'=>?_) (Qt.MG g1 g2) hK;unfold execOp;simp only[ho,ei,g3,Kan,QB hu hn h0 h1,Kaj,Kby,Kcg];rfl
 ·rename_i cs k m;obtain⟨h0,h1,h2,hK⟩:=hv;have ei:=hi.jW;obtain⟨b,off,ex,an⟩:=hx.Fh;refine bh.mk hd ar h (p:=.pt (cs.drop (m.toNat*n))) (v:=.pointer (some ⟨b,off+m.toNat*n,none⟩)) (fun w'=>?_) an.Wo hK;unfold execOp;simp only[ho,ei,ex,Kan,QB hu hn h0 h1,Kaj,Kby];rfl
 ·exact hv.elim
theorem FY{P:Program}{t:TypeId}{fs:Array Field}{j:Nat}{f:Field}{n b off:Nat}(hu:P.underlying t=some (.struct fs))(hf:fs[j]? =some f)(hn:ee P f.type=some n)(h0:n≠0)(w:World):
  (Instr.fieldAt t (.pointer (some ⟨b,off,none⟩)) j).run P w= .ok (.pointer (some ⟨b,off+f.offset,none⟩)) w:=by
 unfold Instr.fieldAt;simp only[Kan,ij hu,Kaj,hf,Instr.sureAddr,Ka0,fieldPlace,kH hn,if_neg h0,Kby]
theorem ZE{o:Oper}{t:TypeId}{fs:Array Field}{j n:Nat}{f:Field}{x:Operand}{px:PV}{d:Nat}(ho:o.op= .fieldAddr t x j)(hd:o.dst=some d)(ar:d<C.N)(h:aI C ρ fr hp a.tmps w)
  (hu:C.P.underlying t=some (.struct fs)) (hf:fs[j]? =some f) (hn:ee C.P f.type=some n) (lV:n≠0) (hx:Qt C ρ hp w px (a.eval x)) (hv:qw f.offset px d fr hp K):bh C ρ o a w K:=by
 unfold qw at hv;split at hv
 ·rename_i β i o';obtain⟨b,hb,g1,g2,g3⟩:=hx.yp;refine bh.mk hd ar h (fun w'=>?_) (Qt.MG g1 g2) hv;unfold execOp;simp only[ho,g3,Kan,FY hu hf hn lV,Kaj,Kcg];rfl
 ·rename_i γ i o';obtain⟨hB,b,hb,g1,g2,g3⟩:=hx.MM;refine bh.mk hd ar h (p:=.np γ i (o'+f.offset)) (fun w'=>?_) (show cU C ρ hp w (.np γ i (o'+f.offset)) _ from⟨hB,b,hb,g1,g2,rfl⟩) hv;unfold execOp;simp only[ho,g3,Kan,FY hu hf hn lV,Kaj,Kcg];rfl
 ·rename_i cs;obtain⟨_,hK⟩:=hv;obtain⟨b,off,ex,an⟩:=hx.Fh;refine bh.mk hd ar h (p:=.pt (cs.drop f.offset)) (v:=.pointer (some ⟨b,off+f.offset,none⟩)) (fun w'=>?_) an.Wo hK;unfold execOp;simp only[ho,ex,Kan,FY hu hf hn lV,Kaj];rfl
 ·exact hv.elim
theorem wC(vs:Array Value)(off n j:Nat)(hj:j<n)(h:off+n<=vs.size):(vs.extract off (off+n)).getD j undef=vs.getD (off+j) undef:=by
 have h1:j<(vs.extract off (off+n)).size:=by simp;omega
 have h2:off+j<vs.size:=by omega
 simp only[KaZ,Kbe h1,Kbe h2,Array.getElem_extract]
theorem zN{X:Nat->Prop}{ag:Bool}{n off:Nat}{x:PV}{vs:Array Value}(hs:vs.size=n)(hle:off+n<=x.cells.length)(h1:ag=false->n=1)
  (hr:∀j y,j<n->x.cells[off+j]? =some y->Qu w X y (vs.getD j undef)):aY w X (eE ag n off x) (if ag then .agg vs else vs.getD 0 undef):=by
 cases ag with
 | true=>
  refine⟨vs,rfl,by simp[hs];omega,fun i y hy=>?_⟩;have hi:i<n:=by have:=(Kad.1 hy).1;simp at this;omega
  rw[KaJ hi,Ka9]at hy;exact hr i y hi hy
 | false=>
  have hn:=h1 rfl;subst hn;have ar:off<x.cells.length:=by omega
  have e:x.cells[off+0]? =some (x.cells[off]):=by simp[Kam ar]
  have:=hr 0 _ (by omega) e;simp only[eE,KaL,if_false];have e2:(x.cells.drop off).headD .undef=x.cells[off]:=by rw[KbD,Kcu,Kam ar];rfl
  rw[e2];exact aY.pW this
theorem Yq{o:Oper}{t:TypeId}{fs:Array Field}{j n:Nat}{ag:Bool}{f:Field}{x:Operand}{px:PV}{d:Nat}(ho:o.op= .field t x j)(hd:o.dst=some d)(ar:d<C.N)(h:aI C ρ fr hp a.tmps w)
  (hu:C.P.underlying t=some (.struct fs)) (hf:fs[j]? =some f) (hn:ee C.P f.type=some n) (jP:lH C.P f.type=some ag) (hx:Qt C ρ hp w px (a.eval x)) (hv:qo f.offset n ag px d fr hp K):bh C ρ o a w K:=by
 unfold qo at hv;split at hv
 ·rename_i cs;obtain⟨h1,h2,hK⟩:=hv;obtain⟨vs,ex,g1,g2⟩:=hx;have hle:f.offset+n<=vs.size:=by omega
  have cK:=zN (X:=aH C ρ hp) (w:=w) (ag:=ag) (off:=f.offset) (x:=.agg cs) (vs:=vs.extract f.offset (f.offset+n)) (by simp;omega) h1 h2
   (fun j y hj hy=>by rw[wC vs _ _ _ hj hle];exact g2 _ y hy)
  refine bh.mk hd ar h (fun w'=>?_) (Qt.ll cK) hK;unfold execOp;simp only[ho,ex,Kan,Instr.field,ij hu,Kaj,hf,asAgg,Ka0,part,yZ jP];cases ag with
  |true=>simp only[if_true,Kan,kH hn,Kaj,Ka0]
  |false=>
   have kX:=h2 rfl;subst kX;have kW:f.offset<vs.size:=by omega
   simp only[KaL,if_false,Kbe kW,Ka0,Kaj];rw[wC vs _ _ 0 (by omega) hle];simp[Array.getD,kW]
 ·rename_i cs;obtain⟨h1,h2,hK⟩:=hv;obtain⟨vs,ex,g1,g2⟩:=hx;have hle:f.offset+n<=vs.size:=by omega
  have cK:=Ow (C:=C) (ρ:=ρ) (hp:=hp) (w:=w) (ag:=ag) (off:=f.offset) (x:=.aT cs) (vs:=vs.extract f.offset (f.offset+n)) (by simp;omega) h1 h2
   (fun j y hj hy=>by rw[wC vs _ _ _ hj hle];exact g2 _ y hy)
  refine bh.mk hd ar h (fun w'=>?_) cK hK;unfold execOp;simp only[ho,ex,Kan,Instr.field,ij hu,Kaj,hf,asAgg,Ka0,part,yZ jP];cases ag with
  |true=>simp only[if_true,Kan,kH hn,Kaj,Ka0]
  |false=>
   have kX:=h2 rfl;subst kX;have kW:f.offset<vs.size:=by omega
   simp only[KaL,if_false,Kbe kW,Ka0,Kaj];rw[wC vs _ _ 0 (by omega) hle];simp[Array.getD,kW]
 ·exact hv.elim
theorem Q9a{o:Oper}{t:TypeId}{x i:Operand}{px pi:PV}{d:Nat}(ho:o.op= .index t x i)(hd:o.dst=some d)(ar:d<C.N)(h:aI C ρ fr hp a.tmps w)
  (hu:C.P.underlying t=some .string) (hx:Qt C ρ hp w px (a.eval x)) (hi:Qt C ρ hp w pi (a.eval i)) (hv:tp px pi d fr hp K):bh C ρ o a w K:=by
 unfold tp at hv;split at hv
 ·rename_i s k m;obtain⟨h0,h1,hK⟩:=hv;have ei:=hi.jW;have ex:=hx.Fj;have kW:m.toNat<s.size:=by omega
  have e0:s.get! m.toNat=s[m.toNat]'kW:=by simp[ByteArray.get!,getElem!_pos,kW];rfl
  have e1:(if 0<=m then s[m.toNat]? else none)=some (s.get! m.toNat):=by rw[if_pos h0,getElem?_pos s m.toNat kW,e0]
  refine bh.mk hd ar h (fun w'=>?_) (Qt.mkInt _ _) hK;unfold execOp;simp only[ho,ex,ei,Kan,Instr.index,asIntOf,ij hu,Kaj,Ka0,e1]
 ·exact hv.elim
theorem Q9b{o:Oper}{t e:TypeId}{len n:Nat}{ag:Bool}{x i:Operand}{px pi:PV}{d:Nat}(ho:o.op= .index t x i)(hd:o.dst=some d)(ar:d<C.N)(h:aI C ρ fr hp a.tmps w)
  (hu:C.P.underlying t=some (.array len e)) (hn:ee C.P e=some n) (jP:lH C.P e=some ag) (hx:Qt C ρ hp w px (a.eval x)) (hi:Qt C ρ hp w pi (a.eval i)) (hv:xx len n ag px pi d fr hp K):bh C ρ o a w K:=by
 unfold xx at hv;split at hv
 ·rename_i cs k m;obtain⟨h0,h00,h1,h2,hK⟩:=hv;have ei:=hi.jW;obtain⟨vs,ex,g1,g2⟩:=hx;have hle:m.toNat*n+n<=vs.size:=by omega
  have AJ:0<=m/\m<len:=⟨h0,h00⟩
  have cK:=zN (X:=aH C ρ hp) (w:=w) (ag:=ag) (off:=m.toNat*n) (x:=.agg cs) (vs:=vs.extract (m.toNat*n) (m.toNat*n+n)) (by simp;omega) h1 h2
   (fun j y hj hy=>by rw[wC vs _ _ _ hj hle];exact g2 _ y hy)
  refine bh.mk hd ar h (fun w'=>?_) (Qt.ll cK) hK;unfold execOp;simp only[ho,ex,ei,Kan,Instr.index,asIntOf,ij hu,Kaj,Ka0,if_pos AJ,kH hn,part,yZ jP];cases ag with
  |true=>simp only[if_true,Kan,kH hn,Kaj,Ka0]
  |false=>
   have kX:=h2 rfl;subst kX;have kW:m.toNat*1<vs.size:=by omega
   simp only[KaL,if_false,Kbe kW,Ka0,Kaj];rw[wC vs _ _ 0 (by omega) hle];have vR:m.toNat<vs.size:=by omega
   simp[Array.getD,vR]
 ·exact hv.elim
end Go.FW
namespace Go.FW
open Go
variable {C : Ctx} {ρ : Nat -> Option Nat} {fr : Fr} {hp : HP} {w : World} {a : Act} {K : Qg}
def zW(C:Ctx)(ρ:Nat->Option Nat)(o:Oper)(a:Act)(w:World)(K:Qg):Prop:=
 ∃v b,b<w.heap.size/\(∀w',w'.heap[b]? =w.heap[b]? ->(execOp a.eval o).run C.P w'= .ok (.value v) w')/\∃ay an,aI C ρ ay an (a.put o.dst v).tmps w/\K ay an
theorem B4{P:Program}{t:TypeId}{n b off:Nat}{ag:Bool}{vs:Array Value}(hn:ee P t=some n)(jP:lH P t=some ag)(h1:ag=false->n=1)(hs:vs.size=n)
  (w:World) (hc:∀j,j<n->w.cell? ⟨b,off+j,none⟩=some (vs.getD j undef)):
  (loadVar t ⟨b,off,none⟩).run P w= .ok (if ag then .agg vs else vs.getD 0 undef) w:=by
 unfold loadVar;simp only[Kan,yZ jP,Kaj];cases ag with
 | true=>
  have hl:=run_loadCells_list (P:=P) w ⟨b,off,none⟩ vs.toList (fun j v hj=>by
   have fJ:j<vs.size:=by simpa using(Kad.1 hj).1
   rw[Kby,hc j (by omega),Cn vs j v hj])
  simp only[Array.length_toList,hs]at hl;simp only[if_true,Kan,kH hn,Kaj,hl,Ka0]
 |false=>have kX:=h1 rfl;subst kX;have h0:=hc 0 (by omega);simp only[KaT]at h0;simp only[KaL,if_false,run_load,h0]
theorem ny{i e o j n cap:Nat}(h1:i<cap)(h2:o+n<=e)(h3:j<n):i*e+o+j<cap*e:=by have:(i+1)*e<=cap*e:=Kaf e h1;rw[KaH,KcU]at this;omega
theorem lz{w:World}{b o:Nat}{cur:Array Value}{ty:TypeId}(h:w.heap[b]? =some (.cells cur ty (0,0)))(ho:o<cur.size):w.cell? ⟨b,o,none⟩=some (cur.getD o undef):=by simp[World.cell?,h,ho,Array.getD]
theorem sN{n:Nat}{f:Nat->Value}{j:Nat}(hj:j<n):(Array.ofFn (n:=n) fun i=>f i.val).getD j undef=f j:=by simp[Array.getD,hj]
theorem abA{o:Oper}{t:TypeId}{n:Nat}{ag:Bool}{x:Operand}{px:PV}{d:Nat}(ho:o.op= .load t x)(hd:o.dst=some d)(ar:d<C.N)(h:aI C ρ fr hp a.tmps w)
  (hn:ee C.P t=some n) (jP:lH C.P t=some ag) (hx:Qt C ρ hp w px (a.eval x)) (hv:kE n ag px d fr hp K):zW C ρ o a w K:=by
 have fin:∀(b off:Nat)(vs:Array Value)(p:PV),a.eval x= .pointer (some ⟨b,off,none⟩)->(ag=false->n=1)->b<w.heap.size->vs.size=n->
   (∀j,j<n->w.cell? ⟨b,off+j,none⟩=some (vs.getD j undef))->aY w (aH C ρ hp) p (if ag then .agg vs else vs.getD 0 undef)->K (af fr d p) hp->zW C ρ o a w K:=by
  intro b off vs p ex h1 hb hs hc hr hK;refine⟨_,b,hb,fun w' qV=>?_,af fr d p,hp,by rw[hd];exact h.af (Qt.ll hr) ar,hK⟩;have:=B4 (P:=C.P) hn jP h1 hs w' (fun j hj=>by rw[uF qV];exact hc j hj);unfold execOp;simp only[ho,ex,Kan,Instr.loadAt,Instr.sureAddr,Ka0,Kaj,this]
 unfold kE at hv;split at hv
 ·rename_i β i o';split at hv
  ·rename_i hb al;obtain⟨h1,h2,h3,hK⟩:=hv;obtain⟨b,eU,g1,g2,g3⟩:=hx.yp;rw[al]at g2;cases g2;have bk:=h.own β hb al;have a9:=bk.dS;rw[g1]at a9;obtain⟨_,kW,cur,cap,c1,c2,c3,c4,c5⟩:=a9;have gG:=Kam h1;have eV:=(bk.len i _ gG).1;have dN:i<cap:=by omega
   have mU:∀j,j<n->i*hb.e+o'+j<cur.size:=fun j hj=>by rw[c2];exact ny dN h2 hj
   refine fin b (i*hb.e+o') (Array.ofFn (n:=n) fun j=>cur.getD (i*hb.e+o'+j.val) undef) _ g3 h3 kW (by simp) (fun j hj=>?_) ?_ hK
   ·rw[sN (f:=fun j=>cur.getD (i*hb.e+o'+j) undef) hj];exact lz c1 (mU j hj)
   ·refine zN (by simp) (by rw[eV];exact h2) h3 (fun j y hj hy=>?_);rw[sN (f:=fun j=>cur.getD (i*hb.e+o'+j) undef) hj,Kcg];exact c5 i _ gG (o'+j) y hy
  ·exact hv.elim
 ·rename_i cs;obtain⟨h1,h3,hK⟩:=hv;obtain⟨b,off,ex,hpt⟩:=hx.Fh;cases hpt with
  | pt _ _ _ vs hX hb Eu hr=>
   refine fin b off (Array.ofFn (n:=n) fun j=>vs j.val) _ ex h3 hb (by simp) (fun j hj=>?_) ?_ hK
   ·rw[sN hj];exact Eu j (by omega)
   ·refine zN (by simp) (by simpa[PV.cells]using h1) h3 (fun j y hj hy=>?_);rw[sN hj];exact hr j y (by simpa[PV.cells]using hy)
 ·rename_i β o' m;obtain⟨rfl,rfl,hK⟩:=hv;obtain⟨b,u,e1,e2,e3,e4,e5⟩:=hx;refine⟨_,b,e2,fun w' qV=>?_,af fr d (.ax β o' m),hp,by rw[hd];exact h.af (p:=.ax β o' m) (v:=u) e5 ar,hK⟩;have:=B4 (P:=C.P) (t:=t) (b:=b) (off:=0) (vs:= #[u]) hn jP (fun _=>rfl) rfl w' (fun j hj=>by
   obtain rfl:j=0:=by omega
   rw[uF qV];simpa using e4)
  unfold execOp;simp only[ho,e1,Kan,Instr.loadAt,Instr.sureAddr,Ka0,Kaj,this];rfl
 ·rename_i γ i o';split at hv
  ·rename_i bB e ty xs ak;obtain⟨rfl,h1,h2,h3,hK⟩:=hv;obtain⟨hB,b,hb,g1,g2,g3⟩:=hx.MM;have cH:=h.eQ bB;rw[ak]at cH;obtain⟨_,vL,b',aw,cur,cap,q1,q2,q3,q4,q5,q6,q7,q8,q9,BA,ig⟩:=cH;rw[g1]at q1;cases q1;rw[g2]at q2;cases q2;rw[q4]at g3;have kW:b<w.heap.size:=(KaG.1 q6).1;have gG:=Kam h1;have eV:=BA i _ gG;have dN:i<cap:=by omega
   have mU:∀j,j<n->i*e+o'+j<cur.size:=fun j hj=>by rw[q7];exact ny dN h2 hj
   have gF:∀j,j<n->w.cell? ⟨b,i*e+o'+j,none⟩=some ((Array.ofFn (n:=n) fun j=>cur.getD (i*e+o'+j.val) undef).getD j undef):=fun j hj=>by rw[sN (f:=fun j=>cur.getD (i*e+o'+j) undef) hj];exact lz q6 (mU j hj)
   have cK:=Ow (C:=C) (ρ:=ρ) (hp:=hp) (w:=w) (ag:=ag) (n:=n) (off:=o') (x:=xs[i]) (vs:=Array.ofFn (n:=n) fun j=>cur.getD (i*e+o'+j.val) undef) (by simp) (by rw[eV];exact h2) h3 (fun j y hj hy=>by rw[sN (f:=fun j=>cur.getD (i*e+o'+j) undef) hj,Kcg];exact ig i _ gG (o'+j) y hy);refine⟨_,b,kW,fun w' qV=>?_,af fr d _,hp,by rw[hd];exact h.af cK ar,hK⟩;have:=B4 (P:=C.P) (b:=b) (off:=i*e+o') (vs:=Array.ofFn (n:=n) fun j=>cur.getD (i*e+o'+j.val) undef) hn jP h3 (by simp) w' (fun j hj=>by rw[uF qV];exact gF j hj);unfold execOp;simp only[ho,g3,Kan,Instr.loadAt,Instr.sureAddr,Ka0,Kaj,this]
  ·exact hv.elim
 ·exact hv.elim
theorem QY{tmps:Array Value}(h:aI C ρ fr hp tmps w){β b:Nat}{hb:HB}{l:List Nat}(_hB:bG β=false)(al:hp β=some hb)(hl:β∈l)(bz:ρ β=some b):¬aH C ρ (cb hp l) b:=by
 have a9:=(h.own β hb al).dS;rw[bz]at a9;rintro(hx|⟨γ,hg,h1,h2,h3⟩)
 ·exact Ctx.K9 a9.1 (DC _hB) hx
 ·obtain⟨ia,g1,_,_,_,_,g6⟩:=yL h1;have:=h.inj γ β b (by simp[g1]) (by simp[al]) h3 bz;subst this;exact g6 h2 hl
theorem CQ{tmps:Array Value}(h:aI C ρ fr hp tmps w){p:PV}{v:Value}{l:List Nat}(hr:cU C ρ hp w p v)(hl:∀β∈p.bN,β∈l)(hu:cB hp p≠ .undef):Qu w (aH C ρ (cb hp l)) (cB hp p) v:=by
 cases p with
 | mp β i o=>
  obtain⟨b,hb,g1,g2,rfl⟩:=hr;have v8:=hl β (by simp[PV.bN]);have bk:=h.own β hb g2;have a9:=bk.dS;rw[g1]at a9;obtain⟨_,ar,cur,cap,c1,c2,c3,c4,c5⟩:=a9;have hB:bG β=false:=by
   cases hq:bG β with
   |false=>rfl
   |true=>simp[cB,hq]at hu
  simp only[cB,g2,hB]at hu⊢;cases hx:hb.xs[i]? with
  |none=>simp[hx]at hu
  | some x=>
   simp only[KaL,if_false];have hi:i<hb.xs.length:=(Kad.1 hx).1;have eV:=(bk.len i x hx).1;refine Qu.pt _ b _ (fun j=>cur.getD (i*hb.e+o+j) undef) (QY h hB g2 v8 g1) ar (fun j hj=>?_) (fun j y hy=>?_)
   ·have fJ:o+(j+1)<=hb.e:=by simp[eV]at hj;omega
    exact lz c1 (by rw[c2];exact ny (by omega) fJ (Kdb j))
   ·rw[Ka9]at hy;rw[Kcg];exact(c5 i x hx (o+j) y hy).freeze
 | ax β o n=>
  obtain⟨hb,g1,g2,g3⟩:=hr;have hB:bG β=false:=by
   cases hq:bG β with
   |false=>rfl
   |true=>simp[cB,hq]at hu
  simp only[cB,g1,hB];rcases g3 with⟨g3,rfl,rfl,rfl⟩|⟨b,cap,g3,rfl,g5,g6⟩
  ·simp only[Kb5];exact .gH _ _ _ (Kbw _)
  ·have v8:=hl β (by simp[PV.bN]);have bk:=h.own β hb g1;have a9:=bk.dS;rw[g3]at a9;obtain⟨_,ar,cur,eI,c1,c2,c3,c4,c5⟩:=a9;obtain⟨cur',ty',d1,d2⟩:=g5;rw[c1]at d1;cases d1;have gd:o+cap=eI:=by rw[c2]at d2;exact(KbA bk.lK d2).symm
   subst gd;have hlen:((hb.xs.drop o).take n).length=n:=by simp;omega
   have eK:∀(i:Nat)(x:PV),((hb.xs.drop o).take n)[i]? =some x->i<n/\hb.xs[o+i]? =some x:=fun i x hx=>by
    have hi:i<n:=by have:=(Kad.1 hx).1;omega
    rw[KaJ hi,Ka9]at hx;exact⟨hi,hx⟩
   have:=Qu.sl (w:=w) (X:=aH C ρ (cb hp l)) hb.e ((hb.xs.drop o).take n) b (o*hb.e) cap (fun i j=>cur.getD ((o+i)*hb.e+j) undef) (QY h hB g1 v8 g3) ar (by omega) (by omega)
    (fun i x hx=>(bk.len _ x (eK i x hx).2).1)
    (fun i hi j hj=>by rw[hlen]at hi;have:=ny (i:=o+i) (e:=hb.e) (o:=0) (j:=j) (n:=hb.e) (cap:=o+cap) (by omega) (by omega) hj;rw[KaT]at this;rw[show o*hb.e+i*hb.e+j=(o+i)*hb.e+j by rw[KaH]];exact lz c1 (by rw[c2];exact this))
    (fun i x hx j y hy=>(c5 _ x (eK i x hx).2 j y hy).freeze)
   rwa[hlen]at this
 |undef=>simp[cB]at hu
 |rb=>simp[cB]at hu
 |aM=>simp[cB]at hu
 |np=>simp[cB]at hu
 |aT=>simp[cB]at hu
 |eO=>simp[cB]at hu
 |eP=>simp[cB]at hu
 |aN=>simp[cB]at hu
 |_=>exact Qu.freeze hr
theorem Ox{p:PV}(h:p.gU=true):p≠ .undef:=by cases p<;>simp[PV.gU]at h⊢
theorem SU{p:PV}(h:p.aD=true):p≠ .undef:=by cases p<;>simp[PV.aD]at h⊢
theorem qe{tmps:Array Value}(h:aI C ρ fr hp tmps w){p:PV}{v:Value}{l:List Nat}(hr:Qt C ρ hp w p v)(hl:∀β∈p.refs,β∈l)(hd:(aK hp p).aD=true):aY w (aH C ρ (cb hp l)) (aK hp p) v:=by
 cases p with
 | fn f first cap=>
  obtain⟨fv,cv,rfl,h1,h2,h3,h4⟩:=hr;simp only[aK,PV.aD,Kat,Kax,KaI,forall_exists_index,and_imp,forall_apply_eq_imp_iff₂]at hd;refine Qu.fn f _ _ fv cv (by simp[h1]) (by simp[h2]) (fun i x hx=>?_) (fun i x hx=>?_)
  ·simp only[Kaw,Kaa]at hx;obtain⟨y,hy,rfl⟩:=hx;exact CQ h (h3 i y hy) (fun β al=>hl β (FO hy β al)) (Ox (hd.1 y (Kai hy)))
  ·simp only[Kaw,Kaa]at hx;obtain⟨y,hy,rfl⟩:=hx;exact CQ h (h4 i y hy) (fun β al=>hl β (FZ hy β al)) (Ox (hd.2 y (Kai hy)))
 |mp β i o=>exact aY.pW (CQ (p:=.mp β i o) h hr hl (SU hd))
 |ax β o n=>exact aY.pW (CQ (p:=.ax β o n) h hr hl (SU hd))
 |undef=>simp[aK,cB,PV.aD]at hd
 |rb=>simp[aK,cB,PV.aD]at hd
 |aM=>simp[aK,cB,PV.aD]at hd
 |np=>simp[aK,cB,PV.aD]at hd
 |aT=>simp[aK,cB,PV.aD]at hd
 |eO=>simp[aK,cB,PV.aD]at hd
 |eP=>simp[aK,cB,PV.aD]at hd
 |aN=>simp[aK,cB,PV.aD]at hd
 |au ps=>simp[aK,cB,PV.aD]at hd
 |agg cs=>exact aY.mono (p:=.agg cs) hr (fun _ _ _=>rfl) (fun _ _ hn hx=>hn (Gp hx)) (Kac _)
 |_=>exact Qu.freeze hr
end Go.FW
namespace Go.FW
open Go
variable {C : Ctx} {ρ : Nat -> Option Nat} {fr : Fr} {hp : HP} {w : World} {a : Act} {K : Qg}
theorem sO{x:Option Operand}{y:Option aO}{Ub n:Int}(h:aI C ρ fr hp a.tmps w)(ho:nE x=some y)(hb:il Ub (y.map (ev fr))=some n):
  (x=none/\y=none/\n=Ub)∨∃z k,x=some z/\a.eval z= .int k n/\y.isSome=true:=by
 cases x with
 |none=>simp[nE]at ho;subst ho;simp[il]at hb;exact .inl ⟨rfl,rfl,hb.symm⟩
 | some z=>
  simp only[nE,Kaa]at ho;obtain⟨u,hu,rfl⟩:=ho;have hr:=cC h hu;simp only[Kcj]at hb;cases an:ev fr u with
  |int k m=>rw[an]at hb hr;simp[il]at hb;subst hb;exact .inr ⟨z,k,rfl,hr.jW,rfl⟩
  |_=>rw[an]at hb;simp[il]at hb
theorem uw{P:Program}{k:IntKind}{i:Int}{y:Nat}{code:BoundsCode}(h0:0<=i)(h1:i<=y)(w:World):(Instr.sliceBound (.int k i) y code).run P w= .ok i.toNat w:=by
 unfold Instr.sliceBound;have:0<=i/\i<=y:=⟨h0,h1⟩
 simp only[asIntOf,Kan,Ka0,Kaj,if_pos this]
theorem Cu{P:Program}{len cap:Nat}{lo hi mx:Option Operand}{L H M:Int}(eval:Operand->Value)
  (hL:(lo=none/\L=0)∨∃z k,lo=some z/\eval z= .int k L)
  (hH:(hi=none/\H=len)∨∃z k,hi=some z/\eval z= .int k H)
  (hM:(mx=none/\M=len)∨∃z k,mx=some z/\eval z= .int k M) (hm:mx.isSome=true->hi.isSome=true)
  (h0:0<=L) (h1:L<=H) (h2:H<=M) (h3:M<=len) (h4:len<=cap):
  ∃m,L.toNat<=m/\H.toNat<=m/\m<=cap/\(mx=none->m=cap)/\∀w,(Instr.sliceBounds true len cap (lo.map eval) (hi.map eval) (mx.map eval)).run P w= .ok (L.toNat,H.toNat,m) w:=by
 have c1:H<=(cap:Int):=by omega
 rcases hM with⟨rfl,hM⟩|⟨zm,km,rfl,hM⟩
 ·refine⟨cap,by omega,by omega,Kac _,fun _=>rfl,fun w=>?_⟩;rcases hH with⟨rfl,hH⟩|⟨zh,kh,rfl,hH⟩<;>rcases hL with⟨rfl,hL⟩|⟨zl,kl,rfl,hL⟩
  ·subst hH;subst hL;simp[Instr.sliceBounds,Kan]
  ·subst hH;have e:=uw (P:=P) (k:=kl) (code:=.sliceB) (y:=len) h0 h1;simp[Instr.sliceBounds,Kan,hL,e]
  ·subst hL;have e:=uw (P:=P) (k:=kh) (code:=.sliceAcap) (y:=cap) (by omega) c1;simp[Instr.sliceBounds,Kan,hH,e]
  ·have e:=uw (P:=P) (k:=kh) (code:=.sliceAcap) (y:=cap) (by omega) c1;have e2:=uw (P:=P) (k:=kl) (code:=.sliceB) (y:=H.toNat) h0 (by omega);simp[Instr.sliceBounds,Kan,hH,hL,e,e2]
 ·rcases hH with⟨rfl,hH⟩|⟨zh,kh,rfl,hH⟩
  ·simp at hm
  have e:=uw (P:=P) (k:=km) (code:=.slice3Acap) (y:=cap) (i:=M) (by omega) (by omega);have e1:=uw (P:=P) (k:=kh) (code:=.slice3B) (y:=M.toNat) (i:=H) (by omega) (by omega);refine⟨M.toNat,by omega,by omega,by omega,fun h=>by simp at h,fun w=>?_⟩;rcases hL with⟨rfl,hL⟩|⟨zl,kl,rfl,hL⟩
  ·subst hL;simp[Instr.sliceBounds,Kan,hH,hM,e,e1]
  ·have e2:=uw (P:=P) (k:=kl) (code:=.slice3C) (y:=H.toNat) (i:=L) h0 (by omega);simp[Instr.sliceBounds,Kan,hH,hM,hL,e,e1,e2]
theorem B9{P:Program}{t e:TypeId}{n len cap l h m:Nat}{ad:Option Addr}{lo hi mx:Option Value}(hu:P.underlying t=some (.slice e))(hn:ee P e=some n)(w:World)
  (hb:(Instr.sliceBounds true len cap lo hi mx).run P w= .ok (l,h,m) w):
  (Instr.sliceAt t (.slice ad len cap) lo hi mx).run P w= .ok (.slice (if m=l then ad else ad.map (·.add (l*n))) (h-l) (m-l)) w:=by
 unfold Instr.sliceAt Instr.slice;simp only[Kan,ij hu,Kaj,hb,kH hn,Ka0]
theorem QI{xs:List PV}{H L i:Nat}{x:PV}(hx:((xs.take H).drop L)[i]? =some x):xs[L+i]? =some x/\L+i<H:=by
 rw[Ka9]at hx;have hi:L+i<H:=by have:=(Kad.1 hx).1;simp at this;omega
 rw[KaJ hi]at hx;exact⟨hx,hi⟩
theorem Qu.part{X:Nat->Prop}{e:Nat}{xs:List PV}{ad:Option Addr}{cap L H m:Nat}(h:Qu w X (.sl e xs) (.slice ad xs.length cap))(h1:L<=H)(h2:H<=xs.length)(h3:H<=m)(h4:m<=cap):
  Qu w X (.sl e ((xs.take H).drop L)) (.slice (if m=L then ad else ad.map (·.add (L*e))) (H-L) (m-L)):=by
 by_cases he:H=L
 ·subst he;have:(xs.take H).drop H=[]:=List.drop_eq_nil_of_le (by simp;omega);rw[this,KbP];refine .gH _ _ _ ?_;cases h with
  |gH _ _ _ hc=>omega
  |sl _ _ b off _ vs hX hb hl hc=>omega
 ·have hlen:((xs.take H).drop L).length=H-L:=by simp;omega
  cases h with
  |gH=>simp at h2;omega
  | sl _ _ b off _ vs hX hb hl hc he' hv hr=>
   have hm:¬m=L:=by omega
   rw[if_neg hm];simp only[Kcj,Kby];have:=Qu.sl (w:=w) (X:=X) e ((xs.take H).drop L) b (off+L*e) (m-L) (fun i j=>vs (L+i) j) hX hb (by omega) (by omega)
    (fun i x hx=>he' _ x (QI hx).1)
    (fun i hi j hj=>by have:=hv (L+i) (by omega) j hj;rw[show off+L*e+i*e+j=off+(L+i)*e+j by rw[KaH];omega];exact this)
    (fun i x hx j y hy=>hr _ x (QI hx).1 j y hy)
   rwa[hlen]at this
theorem abB{o:Oper}{t e:TypeId}{n:Nat}{x:Operand}{px:PV}{lo hi mx:Option Operand}{Ff By Bz:Option aO}{d:Nat}(ho:o.op= .slice t x lo hi mx)(hd:o.dst=some d)(ar:d<C.N)(h:aI C ρ fr hp a.tmps w)
  (hu:C.P.underlying t=some (.slice e)) (hn:ee C.P e=some n) (hx:Qt C ρ hp w px (a.eval x)) (oJ:nE lo=some Ff) (tT:nE hi=some By) (vT:nE mx=some Bz)
  (hv:iA n px (Ff.map (ev fr)) (By.map (ev fr)) (Bz.map (ev fr)) d fr hp K):bh C ρ o a w K:=by
 have lk:∀ {x:Option Operand} {y:Option aO},nE x=some y->(x.isSome=true↔y.isSome=true):=by
  intro x y Bl;cases x with
  |none=>simp[nE]at Bl;subst Bl;simp
  |some z=>simp only[nE,Kaa]at Bl;obtain⟨u,_,rfl⟩:=Bl;simp
 have common:∀(an:HP)(xs:List PV)(len cap:Nat)(ad:Option Addr)(L H M:Int),aI C ρ fr an a.tmps w->len=xs.length->a.eval x= .slice ad len cap->len<=cap->
   Qu w (aH C ρ an) (.sl n xs) (.slice ad xs.length cap)->il 0 (Ff.map (ev fr))=some L->il len (By.map (ev fr))=some H->il len (Bz.map (ev fr))=some M->
   0<=L->L<=H->H<=M->M<=len->((Bz.map (ev fr)).isSome=true->(By.map (ev fr)).isSome=true)->K (af fr d (.sl n ((xs.take H.toNat).drop L.toNat))) an->bh C ρ o a w K:=by
  intro an xs len cap ad L H M hs hl ex dN hr bL bH bM h0 h1 h2 h3 hm hK;have e1:=sO h oJ bL;have e2:=sO h tT bH;have e3:=sO h vT bM;obtain⟨m,q1,q2,q3,_,q4⟩:∃m,L.toNat<=m/\H.toNat<=m/\m<=cap/\(mx=none->m=cap)/\∀w',(Instr.sliceBounds true len cap (lo.map a.eval) (hi.map a.eval) (mx.map a.eval)).run C.P w'= .ok (L.toNat,H.toNat,m) w':=by
   refine Cu (P:=C.P) a.eval ?_ ?_ ?_ (fun hq=>(lk tT).2 (by simpa using hm (by simpa using(lk vT).1 hq))) h0 h1 h2 h3 dN
   ·rcases e1 with⟨q1,_,q3⟩|⟨z,k,q1,q2,_⟩
    ·exact .inl ⟨q1,q3⟩
    ·exact .inr ⟨z,k,q1,q2⟩
   ·rcases e2 with⟨q1,_,q3⟩|⟨z,k,q1,q2,_⟩
    ·exact .inl ⟨q1,q3⟩
    ·exact .inr ⟨z,k,q1,q2⟩
   ·rcases e3 with⟨q1,_,q3⟩|⟨z,k,q1,q2,_⟩
    ·exact .inl ⟨q1,q3⟩
    ·exact .inr ⟨z,k,q1,q2⟩
  have hp:=hr.part (L:=L.toNat) (H:=H.toNat) (m:=m) (by omega) (by omega) q2 q3;refine⟨_,fun w'=>?_,af fr d _,an,by rw[hd];exact hs.af (Qt.ll (aY.pW hp)) ar,hK⟩;unfold execOp;simp only[ho,ex,Kan,B9 hu hn w' (q4 w'),Kaj];rfl
 unfold iA at hv;split at hv
 ·
  split at hv
  ·rename_i L H M bL bH bM;obtain⟨rfl,rfl,rfl,hm,hK⟩:=hv;have ex:=hx.wh;refine bh.mk hd ar h (p:=.aa) (v:=.slice none 0 0) (fun w'=>?_) Qu.aa hK;have e1:=sO h oJ bL;have e2:=sO h tT bH;have e3:=sO h vT bM;obtain⟨m,q1,q2,q3,_,q4⟩:∃m,(0:Int).toNat<=m/\(0:Int).toNat<=m/\m<=0/\(mx=none->m=0)/\∀w',(Instr.sliceBounds true 0 0 (lo.map a.eval) (hi.map a.eval) (mx.map a.eval)).run C.P w'= .ok ((0:Int).toNat,(0:Int).toNat,m) w':=by
    refine Cu (P:=C.P) a.eval ?_ ?_ ?_ (fun hq=>(lk tT).2 (by simpa using hm (by simpa using(lk vT).1 hq))) (KcH _) (KcH _) (KcH _) (by simp) (Kac _)
    ·rcases e1 with⟨q1,_,q3⟩|⟨z,k,q1,q2,_⟩
     ·exact .inl ⟨q1,q3⟩
     ·exact .inr ⟨z,k,q1,q2⟩
    ·rcases e2 with⟨q1,_,q3⟩|⟨z,k,q1,q2,_⟩
     ·exact .inl ⟨q1,by simp⟩
     ·exact .inr ⟨z,k,q1,q2⟩
    ·rcases e3 with⟨q1,_,q3⟩|⟨z,k,q1,q2,_⟩
     ·exact .inl ⟨q1,by simp⟩
     ·exact .inr ⟨z,k,q1,q2⟩
   obtain rfl:m=0:=by omega
   unfold execOp;simp only[ho,ex,Kan,B9 hu hn w' (q4 w'),Kaj];rfl
  ·exact hv.elim
 ·rename_i e' xs;split at hv
  ·rename_i L H M bL bH bM;obtain⟨rfl,h0,h1,h2,h3,hm,hK⟩:=hv;obtain⟨ad,cap,ex,oE,iM⟩:=hx.Wv;have aS:Qu w (aH C ρ hp) (.sl e' xs) (a.eval x):=hx;rw[ex]at aS;exact common hp xs _ cap ad L H M h rfl ex oE aS bL bH bM h0 h1 h2 h3 hm hK
  ·exact hv.elim
 ·rename_i β o' m;cases Bz with
  |some zm=>revert hv;split<;>simp_all
  |none=>
  split at hv
  ·rename_i L H bL bH bM;obtain⟨he,h0,h1,h2,h3,hK⟩:=hv;have m0:mx=none:=by cases mx<;>simp[nE]at vT⊢
   subst m0;have e1:=sO h oJ bL;have e2:=sO h tT bH;obtain⟨hb,g1,g2,g3⟩:=hx;rw[g1]at he;simp only[Kcj,KaB]at he;have hL:(lo=none/\L=0)∨∃z k,lo=some z/\a.eval z= .int k L:=by
    rcases e1 with⟨q1,_,q3⟩|⟨z,k,q1,q2,_⟩
    ·exact .inl ⟨q1,q3⟩
    ·exact .inr ⟨z,k,q1,q2⟩
   have hH:(hi=none/\H=(m:Int))∨∃z k,hi=some z/\a.eval z= .int k H:=by
    rcases e2 with⟨q1,_,q3⟩|⟨z,k,q1,q2,_⟩
    ·exact .inl ⟨q1,q3⟩
    ·exact .inr ⟨z,k,q1,q2⟩
   rcases g3 with⟨g3,ex,rfl,rfl⟩|⟨b,cap,g3,ex,g5,g6⟩
   ·obtain⟨m',q1,q2,q3,_,q4⟩:=Cu (P:=C.P) (len:=0) (cap:=0) (mx:=none) (M:=0) a.eval hL hH (.inl ⟨rfl,rfl⟩) (by simp) h0 h1 h2 (by simp) (Kac _);have hH0:H.toNat=0:=by omega
    have hL0:L.toNat=0:=by omega
    have jQ:m'=0:=by omega
    refine bh.mk hd ar h (v:=.slice none 0 0) (fun w'=>?_) ?_ hK
    ·unfold execOp;simp only[ho,ex,Kan,B9 hu hn w' (q4 w'),Kaj];simp[hH0,jQ,hL0]
    ·exact⟨hb,g1,by omega,.inl ⟨g3,rfl,by omega,by omega⟩⟩
   ·have dN:m<=cap:=by have a9:=(h.own β hb g1).dS;rw[g3]at a9;obtain⟨_,_,cur,eI,c1,c2,c3,c4,c5⟩:=a9;obtain⟨cur',ty',d1,d2⟩:=g5;rw[c1]at d1;cases d1;rw[c2]at d2;have:=KbA (h.own β hb g1).lK d2;omega
    obtain⟨m',q1,q2,q3,q5,q4⟩:=Cu (P:=C.P) (len:=m) (cap:=cap) (mx:=none) (M:=(m:Int)) a.eval hL hH (.inl ⟨rfl,rfl⟩) (by simp) h0 h1 h2 (KcH _) dN;obtain rfl:=q5 rfl;refine bh.mk hd ar h (v:=.slice (some ⟨b,(o'+L.toNat)*hb.e,none⟩) (H.toNat-L.toNat) (m'-L.toNat)) (fun w'=>?_) ?_ hK
    ·unfold execOp;simp only[ho,ex,Kan,B9 hu hn w' (q4 w'),Kaj];congr 1;by_cases hz:L=0
     ·subst hz;simp[Addr.add_zero']
     ·rw[if_neg (by omega)];simp[Kby,he,KaH]
    ·exact⟨hb,g1,by omega,.inr ⟨b,m'-L.toNat,g3,rfl,by rw[show o'+L.toNat+(m'-L.toNat)=o'+m' by omega];exact g5,by omega⟩⟩
  ·exact hv.elim
 ·exact hv.elim
end Go.FW
namespace Go.FW
open Go
variable {C : Ctx} {ρ : Nat -> Option Nat} {fr : Fr} {hp : HP} {w : World} {a : Act} {K : Qg}
def o6(Q:PV->Value->Prop)(ps:List PV)(vs:Array Value):Prop:=vs.size=ps.length/\∀(i:Nat)(x:PV),ps[i]? =some x->Q x (vs.getD i undef)
abbrev Rows(w:World)(X:Nat->Prop)(ps:List PV)(vs:Array Value):Prop:=o6 (Qu w X) ps vs
theorem Nq(off:Nat):∀(l:List Value)(s:Nat)(cs:Array Value),
  ((l.zipIdx s).foldl (fun cs (p:Value×Nat)=>cs.setIfInBounds (off+p.2) p.1) cs).size=cs.size/\
  ∀k,k<cs.size->((l.zipIdx s).foldl (fun cs (p:Value×Nat)=>cs.setIfInBounds (off+p.2) p.1) cs).getD k undef=if off+s<=k/\k<off+s+l.length then l.getD (k-off-s) undef else cs.getD k undef
 | [],s,cs=>by refine⟨rfl,fun k hk=>?_⟩;simp only[List.zipIdx_nil,List.foldl_nil,Kbh,KaT];rw[if_neg (by omega)]
 | c::l,s,cs=>by
  obtain⟨h1,h2⟩:=Nq off l (s+1) (cs.setIfInBounds (off+s) c);simp only[List.zipIdx_cons,KcI];refine⟨by rw[h1];simp,fun k hk=>?_⟩;rw[h2 k (by simpa using hk)];by_cases hks:k=off+s
  ·subst hks;rw[if_neg (by omega),if_pos (by simp)];simp[Array.getD,hk]
  ·by_cases hr:off+(s+1)<=k/\k<off+(s+1)+l.length
   ·rw[if_pos hr,if_pos (by simp;omega)];have:k-off-s=(k-off-(s+1))+1:=by omega
    rw[this];simp
   ·rw[if_neg hr,if_neg (by simp;omega)];simp only[KaZ];rw[Kct (by omega)]
theorem Xf(cs:Array Value)(v:Array Value)(off:Nat):
  v.zipIdx.foldl (fun cs (x:Value×Nat)=>match x with|(c,j)=>cs.setIfInBounds (off+j) c) cs=(v.toList.zipIdx).foldl (fun cs (p:Value×Nat)=>cs.setIfInBounds (off+p.2) p.1) cs:=by
 rw[<-Array.foldl_toList,Array.toList_zipIdx]
theorem o6.alC{Q:PV->Value->Prop}{ps qs:List PV}{vs us:Array Value}{off:Nat}(h:o6 Q ps vs)(hq:o6 Q qs us)(hle:off+qs.length<=ps.length):
  o6 Q (ps.take off++qs++ps.drop (off+qs.length)) (us.zipIdx.foldl (fun cs (x:Value×Nat)=>match x with|(c,j)=>cs.setIfInBounds (off+j) c) vs):=by
 obtain⟨h1,h2⟩:=h;obtain⟨q1,q2⟩:=hq;rw[Xf];obtain⟨f1,f2⟩:=Nq off us.toList 0 vs;refine⟨by rw[f1,h1];simp;omega,fun i x hx=>?_⟩;have hi:i<ps.length:=by have:=(Kad.1 hx).1;simp at this;omega
 rw[f2 i (by omega)];simp only[KaT,Array.length_toList,Kcl];rw[KbK,Ka1]at hx;by_cases c1:i<off
 ·rw[if_neg (by omega)];rw[if_pos (by simp;omega),KaJ c1]at hx;exact h2 i x hx
 ·rw[if_neg (by simp;omega)]at hx;have ht:(ps.take off).length=off:=by simp;omega
  rw[ht,Ka1]at hx;by_cases c2:i-off<qs.length
  ·rw[if_pos c2]at hx;rw[if_pos (by omega)];have:=q2 _ _ hx
   rwa[show us.toList.getD (i-off) undef=us.getD (i-off) undef by simp[KaZ]]
  ·rw[if_neg c2,Ka9]at hx;rw[if_neg (by omega)];rw[show off+qs.length+(i-off-qs.length)=i by omega]at hx;exact h2 i x hx
theorem Cv{Q:PV->Value->Prop}(place:Nat->Option (Nat×Nat)):∀(parts:List (Nat×Value))(qs:List (Nat×List PV))(ps:List PV)(vs:Array Value),o6 Q ps vs->parts.length=qs.length->
  (∀(i:Nat)(p:Nat×Value)(q:Nat×List PV),parts[i]? =some p->qs[i]? =some q->place p.1=some (q.1,q.2.length)/\o6 Q q.2 p.2.cells/\q.1+q.2.length<=ps.length)->
  ∃eg,Instr.fill place vs parts=some eg/\o6 Q (gZ ps qs) eg
 | [],[],ps,vs,h,_,_=>⟨vs,rfl,h⟩
 | [],q::qs,_,_,_,hl,_=>by simp at hl
 |p::parts,[],_,_,_,hl,_=>by simp at hl
 | (i,v)::parts,(off,xs)::qs,ps,vs,h,hl,hp=>by
  obtain⟨h1,h2,h3⟩:=hp 0 (i,v) (off,xs) rfl rfl;have fM:v.cells.size=xs.length:=h2.1;have hn:¬((v.cells.size≠xs.length||decide (off+v.cells.size>vs.size))=true):=by have:=h.1;simp only[KbS,decide_eq_true_eq,not_or];exact⟨by simp[fM],by rw[fM,this];simp only at h3;omega⟩
  have hlen:(ps.take off++xs++ps.drop (off+xs.length)).length=ps.length:=by simp;simp only at h3;omega
  obtain⟨eg,g1,g2⟩:=Cv place parts qs _ _ (h.alC h2 h3) (by simpa using hl) (fun j p q A' hqj=>by obtain⟨k1,k2,k3⟩:=hp (j+1) p q (by simpa using A') (by simpa using hqj);exact⟨k1,k2,by rw[hlen];exact k3⟩);refine⟨eg,?_,g2⟩;unfold Instr.fill;simp only[h1];rw[if_neg hn];exact g1
theorem aY.rows{X:Nat->Prop}{p:PV}{v:Value}(h:aY w X p v):Rows w X p.cells v.cells:=h.cells
theorem rB{P:Program}{t:TypeId}{n by_:Nat}{z:PV}(h:jJ P t=some (n,by_,z)):∃(i:TypeInfo)(zv:Value),P.info? t=some i/\i.zero=some zv/\i.size=n/\i.bytes=by_/\rD zv=some z:=by simp only[jJ,Kab,Kaa,KcN]at h;obtain⟨i,h1,zv,h2,p,h3,h4,h5,h6⟩:=h;subst h6;exact⟨i,zv,h1,h2,h4,h5,h3⟩
theorem ux{P:Program}{t:TypeId}{i:TypeInfo}{zv:Value}(h1:P.info? t=some i)(h2:i.zero=some zv)(w:World):(zeroValue t).run P w= .ok zv w:=by simp[zeroValue,typeInfo,h1,h2]
theorem SV{parts:List (Nat×Operand)}{ps:List (Nat×Nat×aO)}{f:Nat×Operand->Option (Nat×Nat×aO)}(h:parts.mapM f=some ps){eval:Operand->Value}{i:Nat}{p:Nat×Value}{q:Nat×Nat×aO}
  (h1:(parts.map fun x=>(x.1,eval x.2))[i]? =some p) (h2:ps[i]? =some q):∃x,parts[i]? =some x/\f x=some q/\p=(x.1,eval x.2):=by
 obtain⟨x,hx,hf⟩:=(oo h).2 i q h2;refine⟨x,hx,hf,?_⟩;simp only[Kaw,hx,Kcj,KaB]at h1;exact h1.symm
theorem Q9c{o:Oper}{t:TypeId}{parts:Array (Nat×Operand)}{z:PV}{n by_:Nat}{ps:List (Nat×Nat×aO)}{d:Nat}(ho:o.op= .build t parts)(hd:o.dst=some d)(ar:d<C.N)(h:aI C ρ fr hp a.tmps w)
  (hz:jJ C.P t=some (n,by_,z)) (fW:zV C.P t parts.toList=some ps)
  (hv:z8 z.cells (ps.map fun p=>(p.1,p.2.1,ev fr p.2.2)) d fr hp K):bh C ρ o a w K:=by
 obtain⟨cA,hK⟩:=hv;obtain⟨ti,zv,i1,i2,i3,i4,i5⟩:=rB hz;have Mz:Rows w (aH C ρ (cb hp ((ps.map fun p=>(p.1,p.2.1,ev fr p.2.2)).flatMap fun p=>p.2.2.refs))) z.cells zv.cells:=(ri i5).rows;have qH:(parts.map fun(x:Nat×Operand)=>(x.1,a.eval x.2)).toList=parts.toList.map fun x=>(x.1,a.eval x.2):=by simp
 have key:∀(f:Nat×Operand->Option (Nat×Nat×aO))(place:Nat->Option (Nat×Nat)),parts.toList.mapM f=some ps->(∀x q,f x=some q->place x.1=some (q.1,q.2.1)/\bY x.2=some q.2.2)->
   ∃eg,Instr.fill place zv.cells (parts.map fun(x:Nat×Operand)=>(x.1,a.eval x.2)).toList=some eg/\
    Rows w (aH C ρ (cb hp ((ps.map fun p=>(p.1,p.2.1,ev fr p.2.2)).flatMap fun p=>p.2.2.refs))) (gZ z.cells ((ps.map fun p=>(p.1,p.2.1,ev fr p.2.2)).map fun p=>(p.1,(aK hp p.2.2).cells))) eg:=by
  intro f place hm hf;rw[qH];refine Cv place _ _ _ _ Mz (by simp[(oo hm).1]) (fun i p q ye tY=>?_);simp only[Kc7,Kaw,Kaa]at tY;obtain⟨q0,iy,rfl⟩:=tY;obtain⟨x,hx,oI,rfl⟩:=SV hm ye iy;obtain⟨f1,f2⟩:=hf x q0 oI;obtain⟨o1,o2,o3⟩:=cA (q0.1,q0.2.1,ev fr q0.2.2) (KaI.2 ⟨q0,Kai iy,rfl⟩);simp only[Function.comp]at o1 o2 o3⊢;refine⟨by rw[o2];exact f1,?_,by rw[o2];exact o3⟩;exact(qe h (cC h f2) (fun β al=>Kaq.2 ⟨_,KaI.2 ⟨q0,Kai iy,rfl⟩,al⟩) o1).rows
 have fin:∀eg,(∀w',(Instr.build t (parts.map fun(x:Nat×Operand)=>(x.1,a.eval x.2))).run C.P w'= .ok (.agg eg) w')->
   Rows w (aH C ρ (cb hp ((ps.map fun p=>(p.1,p.2.1,ev fr p.2.2)).flatMap fun p=>p.2.2.refs))) (gZ z.cells ((ps.map fun p=>(p.1,p.2.1,ev fr p.2.2)).map fun p=>(p.1,(aK hp p.2.2).cells))) eg->bh C ρ o a w K:=by
  intro eg bm hr;refine⟨.agg eg,fun w'=>?_,_,_,by rw[hd];exact(h.freeze _).af (p:=.agg _) ⟨eg,rfl,hr.1,hr.2⟩ ar,hK⟩;unfold execOp;simp only[ho,Kan];have:=bm w';rw[show(parts.map fun(x:Nat×Operand)=>(x.1,a.eval x.2))=(parts.map fun x=>match x with|(i,x)=>(i,a.eval x))from rfl]at this;rw[this];rfl
 unfold zV at fW;split at fW
 ·rename_i fs hu;simp only[Kab]at fW;obtain⟨pl,gE,hm⟩:=fW;obtain⟨eg,g1,g2⟩:=key _ (fun i=>pl[i]?) hm (fun x q hq=>by simp only[Kab,Kaa]at hq;obtain⟨r,hr,y,hy,rfl⟩:=hq;exact⟨by simpa using hr,hy⟩);refine fin eg (fun w'=>?_) g2;unfold Instr.build;have iT:=run_places (P:=C.P) w' fs.toList pl gE;simp[Kan,ux i1 i2,ij hu,Kb6,iT]at g1⊢;simp[g1]
 ·rename_i len e hu;simp only[Kab]at fW;obtain⟨m,jQ,hm⟩:=fW;obtain⟨eg,g1,g2⟩:=key _ (fun i=>some (i*m,m)) hm (fun x q hq=>by simp only[Kaa]at hq;obtain⟨y,hy,rfl⟩:=hq;exact⟨rfl,hy⟩);refine fin eg (fun w'=>?_) g2;unfold Instr.build;simp only[Kan,ux i1 i2,ij hu,kH jQ,Kaj,g1,Ka0]
 ·simp at fW
theorem G4{xs:List Operand}{ys:List aO}(h:aI C ρ fr hp a.tmps w)(hm:xs.mapM bY=some ys):(ys.map (ev fr)).length=xs.length/\∀(i:Nat)(x:PV),(ys.map (ev fr))[i]? =some x->Qt C ρ hp w x ((xs.map a.eval).toArray.getD i undef):=by
 obtain⟨h1,h2⟩:=oo hm;refine⟨by simp[h1],fun i x hx=>?_⟩;simp only[Kaw,Kaa]at hx;obtain⟨y,hy,rfl⟩:=hx;obtain⟨z,hz,ho⟩:=h2 i y hy;have e:((xs.map a.eval).toArray.getD i undef)=a.eval z:=by simp[KaZ,Kaw,hz]
 rw[e];exact cC h ho
theorem Qt.Wx{p:PV}{v:Value}(h:Qt C ρ hp w p v)(hc:p.kB=true):cU C ρ hp w p v:=by cases p<;>first|exact h|simp[PV.kB]at hc
theorem abC{o:Oper}{f:FuncId}{first cap:Array Operand}{pf pc:List aO}{d:Nat}(ho:o.op= .makeFunc (.func f) first cap)(hd:o.dst=some d)(ar:d<C.N)(h:aI C ρ fr hp a.tmps w)
  (h1:first.toList.mapM bY=some pf) (h2:cap.toList.mapM bY=some pc)
  (hv:(pf.map (ev fr)++pc.map (ev fr)).all PV.kB=true/\K (af fr d (.fn f (pf.map (ev fr)) (pc.map (ev fr)))) hp):bh C ρ o a w K:=by
 obtain⟨hc,hK⟩:=hv;rw[Kax]at hc;obtain⟨f1,f2⟩:=G4 h h1;obtain⟨c1,c2⟩:=G4 h h2;refine bh.mk hd ar h (v:=.func (.func f) (first.map a.eval) (cap.map a.eval)) (fun w'=>?_) ?_ hK
 ·unfold execOp;simp only[ho,Kan,Instr.makeFunc,Ka0,Kaj]
 ·refine⟨_,_,rfl,by simpa using f1.symm,by simpa using c1.symm,fun i x hx=>?_,fun i x hx=>?_⟩
  ·have:=f2 i x hx;rw[show(first.toList.map a.eval).toArray=first.map a.eval from Array.ext' (by simp)]at this;exact this.Wx (hc x (KcQ _ (Kai hx)))
  ·have:=c2 i x hx;rw[show(cap.toList.map a.eval).toArray=cap.map a.eval from Array.ext' (by simp)]at this;exact this.Wx (hc x (KbG _ (Kai hx)))
theorem Yr{o:Oper}{x:Operand}{px:PV}(ho:o.op= .nilCheck x)(ar:∀d,o.dst=some d->d<C.N)(h:aI C ρ fr hp a.tmps w)
  (hx:Qt C ρ hp w px (a.eval x)) (hv:z9 px o.dst fr hp K):bh C ρ o a w K:=by
 have key:(∃b o',a.eval x= .pointer (some ⟨b,o',none⟩))∨(∃f fv cv,a.eval x= .func (.func f) fv cv)->(∀d,o.dst=some d->K (af fr d px) hp)->(o.dst=none->K fr hp)->bh C ρ o a w K:=by
  intro hsh k1 k2;have bm:∀w',(execOp a.eval o).run C.P w'= .ok (.value (a.eval x)) w':=by intro w';unfold execOp;rcases hsh with⟨b,o',e⟩|⟨f,fv,cv,e⟩<;>simp only[ho,e]<;>rfl
  cases hd:o.dst with
  |some d=>exact⟨_,bm,_,_,by rw[hd];exact h.af hx (ar d hd),k1 d hd⟩
  |none=>exact⟨_,bm,fr,hp,by rw[hd];exact h,k2 hd⟩
 cases px with
 |mp β i o'=>obtain⟨b,hb,_,_,e⟩:=hx.yp;refine key (.inl ⟨_,_,e⟩) (fun d hd=>?_) (fun hd=>?_)<;>(rw[hd]at hv;exact hv)
 |pt cs=>obtain⟨b,off,e,_⟩:=hx.Fh;refine key (.inl ⟨_,_,e⟩) (fun d hd=>?_) (fun hd=>?_)<;>(rw[hd]at hv;exact hv)
 |fn f first cap=>obtain⟨fv,cv,e,_⟩:=hx;refine key (.inr ⟨_,_,_,e⟩) (fun d hd=>?_) (fun hd=>?_)<;>(rw[hd]at hv;exact hv)
 |_=>exact hv.elim
end Go.FW
namespace Go.FW
open Go
variable {C : Ctx} {ρ : Nat -> Option Nat} {fr : Fr} {hp : HP} {w : World} {a : Act} {K : Qg}
def cM(C:Ctx)(two:Bool)(w:World)(K:Qg)(a':Act)(w':World):Prop:=
 a'.defers=[]/\(∃ay an,eT C ay an a'.tmps w'/\K ay an)/\(two=true->Ext bO w w')
theorem jq{P:Program}{o:Oper}{v:Value}{w w':World}{a:Act}{K':Act->World->Prop}{Q:Exit->Act->World->Prop}(hr:(execOp a.eval o).run P w= .ok (.value v) w')(hK:K' (a.put o.dst v) w'):o.wp P a w K' Q:=by unfold Oper.wp;rw[hr];exact hK
theorem uB{a:Act}{d:Option Nat}{v:Value}:(a.put d v).defers=a.defers:=by cases d<;>rfl
theorem Co(w:World)(o:Obj)(k:Nat)(h:k<w.heap.size):(w.alloc o).heap[k]? =w.heap[k]? :=by show(w.heap.push o)[k]? =_;rw[Array.getElem?_push,if_neg (by omega)]
theorem mh(w:World)(o:Obj):(w.alloc o).heap[w.heap.size]? =some o:=by show(w.heap.push o)[w.heap.size]? =_;simp
theorem Cp(w:World)(o:Obj):(w.alloc o).heap.size=w.heap.size+1:=by show(w.heap.push o).size=_;simp
theorem Ext.alloc(w:World)(o:Obj)(Y:Nat->Prop):Ext Y w (w.alloc o):=⟨rfl,rfl,rfl,by rw[Cp];omega,fun b hb _=>Co w o b hb⟩
theorem Ext.drew(w:World)(Y:Nat->Prop):Ext Y w w.drew:=⟨rfl,rfl,rfl,Kac _,fun _ _ _=>rfl⟩
theorem xC{d:Nat}(h:d<C.N):b9 d=false:=by have:=C.hN;simp[b9];omega
theorem aI.wg{tmps:Array Value}{ay:Fr}(h:aI C ρ fr hp tmps w)(d:Nat)(hB:bG d=false)(pB:xB C ρ hp w d fr ay)(aw:HB)(cur:Array Value)(cap:Nat)(w':World)(hw:w'=w.alloc (.cells cur aw.ty)∨w'=w.drew.alloc (.cells cur aw.ty))
  (hs:cur.size=cap*aw.e) (hle:aw.xs.length<=cap) (hm:cap<=maxLen) (he:0<aw.e) (hl:∀(i:Nat)(x:PV),aw.xs[i]? =some x->x.cells.length=aw.e/\x.aD=true)
  (hc:∀(i:Nat)(x:PV),aw.xs[i]? =some x->∀(j:Nat)(y:PV),x.cells[j]? =some y->Qu w (aH C ρ hp) y (cur.getD (i*aw.e+j) undef)):
  aI C (rb ρ d (some w.heap.size)) ay (Qy hp d aw) tmps w'/\Ext bO w w':=by
 have qI:∀Y,Ext Y w w':=fun Y=>by
  rcases hw with rfl|rfl
  ·exact Ext.alloc w _ Y
  ·exact(Ext.drew w Y).trans (Ext.alloc w.drew _ Y)
 have fM:w'.heap.size=w.heap.size+1:=by rcases hw with rfl|rfl<;>rw[Cp]<;>rfl
 have an8:w'.heap[w.heap.size]? =some (.cells cur aw.ty (0,0)):=by
  rcases hw with rfl|rfl
  ·exact mh w _
  ·exact mh w.drew _
 refine⟨h.yv d (some w.heap.size) aw hB pB (qI _) (fun c gz=>?_) he hl (by simp) (fun c gz=>?_),qI _⟩
 ·cases gz;exact⟨.inl h.ext.size,by omega,.inl (Kac _)⟩
 ·cases gz;exact⟨cur,cap,an8,hs,hle,hm,hc⟩
theorem aI.Fe{tmps:Array Value}(h:aI C ρ fr hp tmps w)(d:Nat)(hB:b9 d=false)(aw:HB)(cur:Array Value)(cap:Nat)(w':World)(hw:w'=w.alloc (.cells cur aw.ty)∨w'=w.drew.alloc (.cells cur aw.ty))
  (hs:cur.size=cap*aw.e) (hle:aw.xs.length<=cap) (hm:cap<=maxLen) (he:0<aw.e) (hl:∀(i:Nat)(x:PV),aw.xs[i]? =some x->x.cells.length=aw.e/\x.aD=true)
  (hc:∀(i:Nat)(x:PV),aw.xs[i]? =some x->∀(j:Nat)(y:PV),x.cells[j]? =some y->Qu w (aH C ρ hp) y (cur.getD (i*aw.e+j) undef)):
  aI C (rb ρ d (some w.heap.size)) (cI d fr) (Qy hp d aw) tmps w'/\Ext bO w w':=
 h.wg d (uZ hB) (CP hB) aw cur cap w' hw hs hle hm he hl hc
theorem lB:maxLen=9223372036854775807:=rfl
theorem cM.kF{two:Bool}{o:Oper}{d:Nat}{v:Value}{p:PV}{w':World}{ay:Fr}{an:HP}{bd:Nat->Option Nat}(hd:o.dst=some d)(ar:d<C.N)(aU:a.defers=[])
  (h:aI C bd ay an a.tmps w') (hx:two=true->Ext bO w w') (hv:Qt C bd an w' p v) (hK:K (af ay d p) an):cM C two w K (a.put o.dst v) w':=by
 refine⟨by rw[uB];exact aU,⟨_,an,⟨bd,?_⟩,hK⟩,hx⟩;rw[hd];exact h.af hv ar
theorem aY.Wr{X:Nat->Prop}{p:PV}{v:Value}{n:Nat}(h:aY w X p v)(hn:p.cells.length=n):v.cells.size=1*n/\∀(i:Nat)(x:PV),[p][i]? =some x->∀(j:Nat)(y:PV),x.cells[j]? =some y->Qu w X y (v.cells.getD (i*n+j) undef):=by
 obtain⟨h1,h2⟩:=h.cells;refine⟨by omega,fun i x hx j y hy=>?_⟩
 match i,hx with
 |0,hx=>simp at hx;subst hx;simpa using h2 j y hy
 |i+1,hx=>simp at hx
theorem PZ{d n ty:Nat}{x:PV}{w':World}:Qt C (rb ρ d (some w.heap.size)) (Qy hp d ⟨n,ty,[x],false⟩) w' (.mp d 0 0) (.pointer (some ⟨w.heap.size,0,none⟩)):=by refine⟨w.heap.size,⟨n,ty,[x],false⟩,gI _ _ _,by simp[Qy],by simp⟩
theorem Q9d{o:Oper}{t:TypeId}{n:Nat}{x:Operand}{px:PV}{d:Nat}{Q:Exit->Act->World->Prop}(ho:o.op= .box t x)(hd:o.dst=some d)(ar:d<C.N)(aU:a.defers=[])(h:aI C ρ fr hp a.tmps w)
  (hx:Qt C ρ hp w px (a.eval x)) (hN:∀cs,px= .aT cs->tq n t cs d fr hp K->o.wp C.P a w (cM C true w K) Q) (hv:fR n t px d fr hp K):o.wp C.P a w (cM C true w K) Q:=by
 unfold fR at hv;split at hv
 ·exact hN _ rfl hv
 split at hv
 ·rename_i β o' m hm;have vW:px= .ax β o' m:=by
   cases px with
   |ax β2 o2 m2=>
    simp only at hm;split at hm
    ·cases hm;rfl
    ·cases hm
   |_=>cases hm
  subst vW;have hs:=h.grow (w':=w.alloc (.cells (a.eval x).cells t)) (Ext.alloc w _ _);have aS:eG ρ hp (w.alloc (.cells (a.eval x).cells t)) β o' m (a.eval x):=eG.move hx ⟨rfl,fun hb al=>⟨hb,al,rfl,Kac _,fun b cap _ hc=>mj (Co w _ b (my hc)) hc⟩⟩;have oE:(a.eval x).cells= #[a.eval x]:=by obtain⟨ad,cap,e⟩:=Qt.MH hx;rw[e];rfl
  refine jq (v:=.pointer (some ⟨w.heap.size,0,none⟩)) (w':=w.alloc (.cells (a.eval x).cells t)) ?_ (cM.kF (p:=.rb β o' m) hd ar aU hs (fun _=>Ext.alloc w _ _) ⟨w.heap.size,a.eval x,rfl,by rw[Cp];omega,?_,?_,aS⟩ hv)
  ·unfold execOp;simp only[ho,Instr.box,newVar,newRow];simp
  ·rintro(hq|⟨γ,hg,g1,_,g3⟩)
   ·have:=C.Em _ hq;have:=h.ext.size;omega
   ·have:=(h.own γ hg g1).dS;rw[g3]at this;have:=this.2.1;omega
  ·have:=mh w (.cells (a.eval x).cells t);rw[lz this (by rw[oE];simp),oE];rfl
 obtain⟨h1,h2,h3,hK⟩:=hv;have hr:=qe h hx (fun β al=>al) h1;obtain⟨r1,r2⟩:=hr.Wr h2;obtain⟨hs,he⟩:=(h.freeze px.refs).Fe d (xC ar) ⟨n,t,[aK hp px],false⟩ (a.eval x).cells 1 _ (.inl rfl) r1 (by simp) (by rw[lB];omega) h3
  (fun i y hy=>by
   match i,hy with
   |0,hy=>simp at hy;subst hy;exact⟨h2,h1⟩
   |i+1,hy=>simp at hy) r2
 refine jq (v:=.pointer (some ⟨w.heap.size,0,none⟩)) (w':=w.alloc (.cells (a.eval x).cells t)) ?_ (cM.kF hd ar aU hs (fun _=>he) PZ hK);unfold execOp;simp only[ho,Instr.box,newVar,newRow];simp
theorem XP{o:Oper}{t:TypeId}{n:Nat}{ti:TypeInfo}{zv:Value}{z:PV}{d:Nat}{Q:Exit->Act->World->Prop}(ho:o.op= .alloc t)(hd:o.dst=some d)(ar:d<C.N)(aU:a.defers=[])(h:aI C ρ fr hp a.tmps w)
  (i1:C.P.info? t=some ti) (i2:ti.zero=some zv) (hz:rD zv=some z) (hv:fR n t z d fr hp K):o.wp C.P a w (cM C true w K) Q:=by
 unfold fR at hv;split at hv
 ·exact absurd (B3 hz).1 (by simp[PV.aD])
 split at hv
 ·rename_i β o' m hm;have hd:=(B3 hz).1;cases z with
  |ax=>simp[PV.aD]at hd
  |_=>cases hm
 obtain⟨h1,h2,h3,hK⟩:=hv;have hr:=qe (C:=C) (ρ:=ρ) (hp:=hp) h (Qt.ll (ri (w:=w) hz)) (fun β al=>al) h1;obtain⟨r1,r2⟩:=hr.Wr h2;obtain⟨hs,he⟩:=(h.freeze z.refs).Fe d (xC ar) ⟨n,t,[aK hp z],false⟩ zv.cells 1 _ (.inl rfl) r1 (by simp) (by rw[lB];omega) h3
  (fun i y hy=>by
   match i,hy with
   |0,hy=>simp at hy;subst hy;exact⟨h2,h1⟩
   |i+1,hy=>simp at hy) r2
 refine jq (v:=.pointer (some ⟨w.heap.size,0,none⟩)) (w':=w.alloc (.cells zv.cells t)) ?_ (cM.kF hd ar aU hs (fun _=>he) PZ hK);unfold execOp;simp only[ho,Instr.alloc,Kan,ux i1 i2,Kaj,newVar,newRow];simp
theorem Nr{i e j:Nat}(hj:j<e):(i*e+j)%e=j:=by rw[KbQ,Nat.add_mul_mod_self_right,KaQ hj]
theorem ab2{i e j:Nat}(hj:j<e):(i*e+j)/e=i:=by rw[KbQ,Nat.add_mul_div_right _ _ (by omega),Kcc hj,Kbc]
theorem Qxj{z:Array Value}{n k:Nat}(hk:k<n)(hz:0<z.size):(madeCells z n).getD k undef=z.getD (k%z.size) undef:=by have h1:k%z.size<z.size:=Kbt _ hz;simp[madeCells,Array.getD,hk,h1]
theorem P0{d:Nat}{hb:HB}{n cap:Nat}{w':World}{cur:Array Value}(hle:n<=hb.xs.length)(amL:w'.heap[w.heap.size]? =some (.cells cur hb.ty (0,0)))(hs:cur.size=cap*hb.e)(hm:cap<=maxLen):
  Qt C (rb ρ d (some w.heap.size)) (Qy hp d hb) w' (.ms d n) (.slice (some ⟨w.heap.size,0,none⟩) n cap):=
 ⟨hb,by simp[Qy],by omega,.inr ⟨w.heap.size,cap,gI _ _ _,by simp,⟨cur,hb.ty,amL,by rw[Kbc];exact hs⟩,by omega⟩⟩
theorem ab3{o:Oper}{t e:TypeId}{n by_:Nat}{z:PV}{l c:Operand}{pl pc:PV}{d:Nat}{Q:Exit->Act->World->Prop}(ho:o.op= .makeSlice t l c)(hd:o.dst=some d)(ar:d<C.N)(aU:a.defers=[])(h:aI C ρ fr hp a.tmps w)
  (hu:C.P.underlying t=some (.slice e)) (hz:jJ C.P e=some (n,by_,z)) (hl:Qt C ρ hp w pl (a.eval l)) (hc:Qt C ρ hp w pc (a.eval c)) (hv:m8 n by_ e z pl pc d fr hp K):o.wp C.P a w (cM C true w K) Q:=by
 unfold m8 at hv;split at hv
 ·rename_i kl L kc Cc;obtain⟨h0,h1,h2,h3,h4,h5,hK⟩:=hv;obtain⟨ti,zv,i1,i2,i3,i4,i5⟩:=rB hz;have el:=hl.jW;have ec:=hc.jW;have fL:=(ri (w:=w) (X:=aH C ρ hp) i5).cells;have sw:zv.cells.size=n:=by rw[fL.1];exact h1
  have bm:=run_make (P:=C.P) w t e ti zv hu i1 i2 kl kc L Cc h2 h3 (by rw[i4];exact h4) h5;rw[i3]at bm;obtain⟨hs,he⟩:=h.Fe d (xC ar) ⟨n,e,List.replicate L.toNat z,false⟩ (madeCells zv.cells (Cc.toNat*n)) Cc.toNat _ (.inl rfl) (size_madeCells _ _) (by simp;omega) (by rw[lB];omega) h0
   (fun i x hx=>by have aS:=Kai hx;obtain rfl:=(KcX.1 aS).2;exact⟨h1,(B3 i5).1⟩)
   (fun i x hx j y hy=>by
    have hi:i<L.toNat:=by have:=(Kad.1 hx).1;simpa using this
    obtain rfl:=(KcX.1 (Kai hx)).2;have hj:j<n:=by have:=(Kad.1 hy).1;omega
    have vR:i*n+0+j<Cc.toNat*n:=ny (by omega) (by omega:0+n<=n) hj;rw[Qxj (by omega) (by omega),sw,Nr hj];exact fL.2 j y hy)
  refine jq (v:=.slice (some ⟨w.heap.size,0,none⟩) L.toNat Cc.toNat) ?_ (cM.kF hd ar aU hs (fun _=>he) (P0 (by simp) (mh w _) (size_madeCells _ _) (by rw[lB];omega)) hK);unfold execOp;simp only[ho,el,ec,Kan,bm,Kaj];rfl
 ·exact hv.elim
end Go.FW
namespace Go.FW
open Go
variable {C : Ctx} {ρ : Nat -> Option Nat} {fr : Fr} {hp : HP} {w : World} {a : Act} {K : Qg}
theorem R0(n:Nat):∀(xs:List (List PV))(s:Nat)(pre rest:List PV),(∀x∈xs,x.length=n)->pre.length=s*n->rest.length=xs.length*n->
  gZ (pre++rest) ((xs.zipIdx s).map fun p=>(p.2*n,p.1))=pre++xs.flatten
 | [],s,pre,rest,_,_,hr=>by simp at hr;subst hr;simp[gZ]
 | x::xs,s,pre,rest,hx,hp,hr=>by
  have EU:=hx x (by simp);simp only[List.zipIdx_cons,Kbj,gZ];have e1:(pre++rest).take (s*n)=pre:=by rw[<-hp];exact List.take_left
  have e2:(pre++rest).drop (s*n+x.length)=rest.drop n:=by rw[EU,<-hp,<-List.drop_drop,List.drop_left]
  rw[e1,e2];have hlen:(pre++x).length=(s+1)*n:=by simp[hp,EU,KaH]
  have vX:(rest.drop n).length=xs.length*n:=by simp[hr,KaH]
  rw[R0 n xs (s+1) (pre++x) (rest.drop n) (fun y hy=>hx y (by simp[hy])) hlen vX];simp
theorem Ns{n:Nat}(hn:0<n):∀(xs:List (List PV))(i j:Nat)(x:List PV)(y:PV),(∀x∈xs,x.length=n)->xs[i]? =some x->x[j]? =some y->xs.flatten[i*n+j]? =some y
 | [],i,j,x,y,_,h,_=>by simp at h
 |z::xs,0,j,x,y,hl,h,hy=>by simp at h;subst h;have hj:j<z.length:=(Kad.1 hy).1;simp only[List.flatten_cons,KbH,Kbc];rw[Kb7 hj];exact hy
 |z::xs,i+1,j,x,y,hl,h,hy=>by simp at h;have hz:=hl z (by simp);simp only[List.flatten_cons];rw[Kck (by rw[hz,KaH];omega)];rw[show(i+1)*n+j-z.length=i*n+j by rw[hz,KaH];omega];exact Ns hn xs i j x y (fun q hq=>hl q (by simp[hq])) h hy
theorem WU{parts:List (Nat×Operand)}{len i:Nat}{p:Nat×Operand}(h:parts.map (·.1)=List.range len)(hp:parts[i]? =some p):p.1=i:=by
 have h1:(parts.map (·.1))[i]? =some p.1:=by simp[hp]
 rw[h]at h1;have hi:i<len:=by have:=(Kad.1 h1).1;simpa using this
 rw[KcV hi]at h1;simp at h1;exact h1.symm
theorem Q9e{X:Nat->Prop}{e:TypeId}{n N by_:Nat}{z:PV}{zv:Value}(i5:rD zv=some z)(hz:z.cells.length=n)(hn:0<n):
  Rows w X ((List.range N).map fun k=>z.cells.getD (k%n) .undef) ((Array.range N).map (zv.cells[· %zv.cells.size]!)):=by
 have fL:=(ri (w:=w) (X:=X) i5).cells;refine⟨by simp,fun i x hx=>?_⟩;have hi:i<N:=by have:=(Kad.1 hx).1;simpa using this
 simp only[Kaw,KcV hi,Kcj,KaB]at hx;have hm:i%n<z.cells.length:=by rw[hz];exact Kbt _ hn
 have aS:z.cells[i%n]? =some x:=by rw[<-hx];simp[hm]
 have:=fL.2 _ x aS;have hs:zv.cells.size=n:=by rw[fL.1];exact hz
 have mX:i%n<zv.cells.size:=by omega
 have e2:((Array.range N).map (zv.cells[· %zv.cells.size]!)).getD i undef=zv.cells.getD (i%n) undef:=by have hmn:i%n<n:=Kbt _ hn;simp[Array.getD,hi,hs,hmn,getElem!_def,Kbe mX]
 rw[e2];exact this
theorem ab4{o:Oper}{t e:TypeId}{len n by_:Nat}{z:PV}{parts:Array (Nat×Operand)}{ps:List aO}{d:Nat}{Q:Exit->Act->World->Prop}(ho:o.op= .buildSlice t len parts)(hd:o.dst=some d)(ar:d<C.N)(aU:a.defers=[])(h:aI C ρ fr hp a.tmps w)
  (hu:C.P.underlying t=some (.slice e)) (hz:jJ C.P e=some (n,by_,z)) (pM:parts.toList.map (·.1)=List.range len) (VG:len*n<=16777216) (jV:z.cells.length=n) (fW:(parts.toList.mapM fun p=>bY p.2)=some ps)
  (hv:DQ n e (ps.map (ev fr)) d fr hp K):o.wp C.P a w (cM C true w K) Q:=by
 obtain⟨h0,cA,hK⟩:=hv;obtain⟨ti,zv,i1,i2,i3,i4,i5⟩:=rB hz;obtain⟨m1,m2⟩:=oo fW;have hlen:parts.toList.length=len:=by have:=congrArg List.length pM;simpa using this
 have gE:ps.length=len:=by omega
 let xs:List (List PV):=(ps.map (ev fr)).map fun p=>(aK hp p).cells
 have dZ:∀x∈xs,x.length=n:=by intro x hx;simp only[xs,KaI]at hx;obtain⟨p,⟨q,hq,rfl⟩,rfl⟩:=hx;exact(cA _ (KaI.2 ⟨q,hq,rfl⟩)).2
 have Mx:xs.length=len:=by simp[xs,gE]
 have qH:(parts.map fun(x:Nat×Operand)=>(x.1,a.eval x.2)).toList=parts.toList.map fun x=>(x.1,a.eval x.2):=by simp
 have LI:Rows w (aH C ρ (cb hp ((ps.map (ev fr)).flatMap PV.refs))) ((List.range (len*n)).map fun k=>z.cells.getD (k%n) .undef) ((Array.range (len*n)).map ((if len*n=0 then(#[]:Array Value)else zv.cells)[· %(if len*n=0 then(#[]:Array Value)else zv.cells).size]!)):=by
  by_cases ic:len*n=0
  ·rw[if_pos ic,ic];exact⟨by simp,by simp⟩
  ·rw[if_neg ic];exact Q9e (e:=e) (by_:=by_) i5 jV h0
 obtain⟨eg,g1,g2⟩:=Cv (fun i=>some (i*n,n)) (parts.toList.map fun x=>(x.1,a.eval x.2)) ((xs.zipIdx 0).map fun p=>(p.2*n,p.1)) _ _ LI (by simp[Mx,hlen]) (fun i p q ye tY=>by
  simp only[Kaw,Kaa]at ye tY;obtain⟨x,hx,rfl⟩:=ye;obtain⟨q0,iy,rfl⟩:=tY;rw[List.getElem?_zipIdx]at iy;simp only[Kaa]at iy;obtain⟨y,hy,rfl⟩:=iy;simp only[Kbc];have VX:=dZ y (Kai hy);simp only[xs,Kaw,Kaa]at hy;obtain⟨pv,⟨u,iV,rfl⟩,rfl⟩:=hy;obtain⟨x',aS,vV⟩:=m2 i u iV;rw[hx]at aS;cases aS;have hi:i<len:=by have:=(Kad.1 hx).1;omega
  obtain⟨o1,o2⟩:=cA (ev fr u) (KaI.2 ⟨u,Kai iV,rfl⟩);refine⟨by rw[WU pM hx,VX],(qe h (cC h vV) (fun β al=>Kaq.2 ⟨_,KaI.2 ⟨u,Kai iV,rfl⟩,al⟩) o1).rows,?_⟩;rw[VX];simp;have:(i+1)*n<=len*n:=Kaf n hi;rw[KaH]at this;omega)
 have LV:=R0 n xs 0 [] ((List.range (len*n)).map fun k=>z.cells.getD (k%n) .undef) dZ (by simp) (by simp[Mx]);simp only[KaN]at LV;rw[LV]at g2;have pA:xs.flatten.length=len*n:=by
  have:=g2.1;have hb:=LI.1;have h2:gZ ((List.range (len*n)).map fun k=>z.cells.getD (k%n) .undef) ((xs.zipIdx 0).map fun p=>(p.2*n,p.1))=xs.flatten:=LV;rw[List.length_flatten];have:xs.map List.length=List.replicate xs.length n:=by apply KcT (by simp);intro i h1 h2;simp only[KcB,List.getElem_replicate];exact dZ _ (Kah _)
  rw[this,List.sum_replicate_nat,Mx]
 have gF:eg.size=len*n:=by rw[g2.1,pA]
 obtain⟨hs,he⟩:=(h.freeze ((ps.map (ev fr)).flatMap PV.refs)).Fe d (xC ar) ⟨n,e,(ps.map (ev fr)).map (aK hp),false⟩ eg len _ (.inl rfl) gF (by simp[gE]) (by rw[lB];have:len*1<=len*n:=Ka7 len h0;omega) h0
  (fun i x hx=>by simp only[Kaw,Kaa]at hx;obtain⟨p,⟨u,iV,rfl⟩,rfl⟩:=hx;obtain⟨o1,o2⟩:=cA (ev fr u) (KaI.2 ⟨u,Kai iV,rfl⟩);exact⟨o2,o1⟩)
  (fun i x hx j y hy=>by refine g2.2 _ y (Ns h0 xs i j x.cells y dZ ?_ hy);simp only[Kaw,Kaa,xs]at hx⊢;obtain⟨p,iT,rfl⟩:=hx;exact⟨p,iT,rfl⟩)
 refine jq (v:=.slice (some ⟨w.heap.size,0,none⟩) len len) ?_ (cM.kF hd ar aU hs (fun _=>he) ?_ hK)
 ·unfold execOp;have sm:¬(len*n>2^24):=by omega
  have AZ:(parts.map fun x=>match x with|(i,x)=>(i,a.eval x)).toList=parts.toList.map fun x=>(x.1,a.eval x.2):=qH;simp only[ho,Instr.buildSlice,Kan,ij hu,Kaj,kH (show ee C.P e=some n by simp[ee,i1,i3]),if_neg sm,AZ];by_cases ic:len*n=0
  ·simp only[if_pos ic]at g1⊢;simp only[Ka0,Kaj,Kan,g1,newRow];simp
  ·simp only[if_neg ic]at g1⊢;simp only[Ka0,Kaj,Kan,ux i1 i2,g1,newRow];simp
 ·rw[show(ps.map (ev fr)).length=len by simp[gE]];exact P0 (by simp[gE]) (mh w _) gF (by rw[lB];have:len*1<=len*n:=Ka7 len h0;omega)
theorem yP(w:World)(b:Nat)(cur:Array Value):Ext (fun c=>c=b) w (w.setRow b cur):=
 ⟨rfl,rfl,rfl,by simp,fun k hk hn=>setRow_other w b k _ hn⟩
theorem yM{cur:Array Value}{p:Nat}{cs:List Value}{k:Nat}(hle:p+cs.length<=cur.size)(hk:k<cur.size):
  ((cur.toList.take p++cs++cur.toList.drop (p+cs.length)).toArray).getD k undef=if p<=k/\k<p+cs.length then cs.getD (k-p) undef else cur.getD k undef:=by
 have dT:k<cur.toList.length:=by simpa using hk
 have ht:(cur.toList.take p).length=p:=by simp;omega
 simp only[KaZ,List.getElem?_toArray,KbK,Kao];rw[Ka1,ht];by_cases c1:k<p
 ·rw[if_pos c1,if_neg (by omega),KaJ c1];simp
 ·rw[if_neg c1,Ka1];by_cases c2:k-p<cs.length
  ·rw[if_pos c2,if_pos (by omega)]
  ·rw[if_neg c2,if_neg (by omega),Ka9];rw[show p+cs.length+(k-p-cs.length)=k by omega];simp
theorem yN{cur:Array Value}{p:Nat}{cs:List Value}(hle:p+cs.length<=cur.size):((cur.toList.take p++cs++cur.toList.drop (p+cs.length)).toArray).size=cur.size:=by simp;omega
theorem QJ{P:Program}{t:TypeId}{n b off:Nat}{ty:TypeId}{v:Value}{cur:Array Value}(hn:ee P t=some n)(hs:v.cells.size=n)(hg:w.heap[b]? =some (.cells cur ty (0,0)))(hle:off+n<=cur.size)(h1:∀u∈v.cells.toList,u.oneCell'=true):
  (storeVar t ⟨b,off,none⟩ v).run P w= .ok () (w.setRow b (cur.toList.take off++v.cells.toList++cur.toList.drop (off+n)).toArray):=by
 unfold storeVar;have aF:=run_storeCells_at P b off ty v.cells.toList 0 cur w hg (by simp[hs];omega) h1;simp only[KaT,Array.length_toList,hs]at aF;have aP:¬(v.cells.size≠n):=by simp[hs]
 simp only[Kan,kH hn,Kaj,if_neg aP];exact aF
theorem ab5{x:PV}{o:Nat}{v:PV}{j:Nat}(hl:o+v.cells.length<=x.cells.length)(hj:j<x.cells.length):
  (ra x o v).cells[j]? =if o<=j/\j<o+v.cells.length then v.cells[j-o]? else x.cells[j]? :=by
 show(x.cells.take o++v.cells++x.cells.drop (o+v.cells.length))[j]? =_;rw[KbK];have ht:(x.cells.take o).length=o:=by simp;omega
 rw[Ka1,ht];by_cases c1:j<o
 ·rw[if_pos c1,if_neg (by omega),KaJ c1]
 ·rw[if_neg c1,Ka1];by_cases c2:j-o<v.cells.length
  ·rw[if_pos c2,if_pos (by omega)]
  ·rw[if_neg c2,if_neg (by omega),Ka9];rw[show o+v.cells.length+(j-o-v.cells.length)=j by omega]
theorem ag3{x:PV}{o:Nat}{v:PV}(hl:o+v.cells.length<=x.cells.length):(ra x o v).cells.length=x.cells.length:=by show(List.take o x.cells++v.cells++List.drop (o+v.cells.length) x.cells).length=_;simp;omega
theorem Nt{e i j m k n:Nat}(hj:j<e)(hk:k+n<=e)(aP:i≠m):¬(m*e+k<=i*e+j/\i*e+j<m*e+k+n):=by
 intro⟨h1,h2⟩;rcases Nat.lt_or_gt_of_ne aP with h|h
 ·have:(i+1)*e<=m*e:=Kaf e h;rw[KaH]at this;omega
 ·have:(m+1)*e<=i*e:=Kaf e h;rw[KaH]at this;omega
theorem zO{l:List PV}{i k:Nat}{nx x:PV}(h:(l.set i nx)[k]? =some x):(i=k/\x=nx)∨(i≠k/\l[k]? =some x):=by
 by_cases qM:i=k
 ·subst qM;have hi:i<l.length:=by have:=(Kad.1 h).1;simpa using this
  rw[List.getElem?_set_self hi]at h;cases h;exact .inl ⟨rfl,rfl⟩
 ·rw[List.getElem?_set_ne qM]at h;exact .inr ⟨qM,h⟩
theorem cT.bj{p:PV}{v:Value}(h:cT C ρ hp w p v):p.bj=[p]:=by
 cases p with
 |agg=>cases h
 |aT=>cases h
 |_=>rfl
theorem R1{l:List PV}(h:∀c∈l,c.bj=[c]):(gQ l).bj=l:=by
 unfold gQ;split
 ·exact h _ (by simp)
 ·exact XL _
theorem Oy{py:PV}{v:Value}{cs:List PV}(h:Qt C ρ hp w py v)(hs:fl py=some cs):v.cells.size=cs.length/\(∀(j:Nat)(y:PV),cs[j]? =some y->cT C ρ hp w y (v.cells.getD j undef))/\∀u∈v.cells.toList,u.oneCell'=true:=by
 have one:∀ {p:PV},cT C ρ hp w p v->p≠ .undef->cs=[p]->v.cells.size=cs.length/\(∀(j:Nat)(y:PV),cs[j]? =some y->cT C ρ hp w y (v.cells.getD j undef))/\∀u∈v.cells.toList,u.oneCell'=true:=by
  rintro p hr hu rfl;obtain⟨h1,h2⟩:=hr.qY hu;rw[h2];refine⟨rfl,fun j y hy=>?_,fun u iV=>?_⟩
  ·match j,hy with
   |0,hy=>simp at hy;subst hy;exact hr
   |j+1,hy=>simp at hy
  ·simp at iV;subst iV;exact h1
 cases py with
 | aT cs'=>
  simp only[fl]at hs;split at hs
  ·rename_i cu;simp only[KaB]at hs;subst hs;obtain⟨vs,rfl,h1,h2⟩:=h;refine⟨h1,h2,fun u hu=>?_⟩;obtain⟨j,hj,rfl⟩:=Kbd hu;have fJ:j<vs.size:=by simpa[Value.cells]using hj
   have hp:j<cs'.length:=by omega
   have h3:=h2 j cs'[j] (Kam hp);have h4:=Kax.1 cu cs'[j] (Kah hp);have:=(h3.qY (fun e=>by rw[e]at h4;cases h4)).1;simpa[Array.getD,fJ,Value.cells]using this
  ·cases hs
 |aM γ o n=>simp only[fl,KaB]at hs;exact one (p:=.aM γ o n) h (by simp) hs.symm
 |ax β o n=>
  simp only[fl]at hs;split at hs
  ·rename_i hB;simp only[KaB]at hs;exact one (p:=.ax β o n) ⟨hB,h⟩ (by simp) hs.symm
  ·cases hs
 |int k n=>simp only[fl,KaB]at hs;exact one (p:=.int k n) h (by simp) hs.symm
 |bool b=>simp only[fl,KaB]at hs;exact one (p:=.bool b) h (by simp) hs.symm
 |aa=>simp only[fl,KaB]at hs;exact one (p:=.aa) h (by simp) hs.symm
 |sl e xs=>simp only[fl,KaB]at hs;exact one (p:=.sl e xs) h (by simp) hs.symm
 |pt cs'=>simp only[fl,KaB]at hs;exact one (p:=.pt cs') h (by simp) hs.symm
 |agg cs'=>simp only[fl,KaB]at hs;subst hs;have hr:aY w (aH C ρ hp) (.agg cs') v:=h;obtain⟨h1,h2⟩:=hr.cells;exact⟨h1,fun j y hy=>cT.Wf (h2 j y hy),hr.Wl⟩
 |_=>cases hs
theorem aI.MK{tmps:Array Value}{w':World}(h:aI C ρ fr hp tmps w){γ b e ty:Nat}{hb:HB}{xs':List PV}{cur':Array Value}{cap:Nat}(hB:b9 γ=true)(he:0<e)(ak:hp γ=some hb)(lP:hb.fz=false)(bp:hb.xs=[])(LU:hb.e=e)(ht:hb.ty=ty)(bz:ρ γ=some b)
  (hx:Ext (fun c=>c=b) w w') (dN:∀e cap,dn w b e cap->dn w' b e cap) (h1:w'.heap[b]? =some (.cells cur' ty (0,0))) (h2:cur'.size=cap*e) (h3:xs'.length<=cap) (h4:cap<=maxLen)
  (h5:∀(i:Nat)(x:PV),xs'[i]? =some x->x.bj.length=e) (h6:∀(i:Nat)(x:PV),xs'[i]? =some x->∀(j:Nat)(y:PV),x.bj[j]? =some y->cT C ρ hp w y (cur'.getD (i*e+j) undef)):
  aI C ρ (FW.af (iF γ fr) γ (.aN γ e ty xs')) hp tmps w':=by
 have Eo:aH C ρ hp b:=.inr ⟨γ,hb,ak,lP,bz⟩;have EK:iW γ=false:=by
  cases hq:iW γ with
  |false=>rfl
  |true=>have:=(h.own γ hb ak).ro hq;rw[lP]at this;cases this
 have gz:nG w w' (aH C ρ hp) (aH C ρ hp):=⟨fun c hc hn=>hx.block c hc (fun e=>hn (e▸Eo)),fun _ _ hn=>hn,hx.size⟩
 have bk:=(h.own γ hb ak).dS;rw[bz]at bk;have qI:Ext C.Y0 C.w0 w':=by refine h.ext.trans' (Y':=fun c=>c=b) hx ?_;intro c hc he;subst he;exact(Ctx.La bk.1 EK).resolve_left (by omega)
 have AP:∀β c,C.fx β=some c->∀e cap,dn C.w0 c e cap->dn w' c e cap:=fun b0 c gz e cap gd=>by
  have lL:=h.gT b0 c gz e cap gd;by_cases ix:c=b
  ·rw[ix]at lL ⊢;exact dN e cap lL
  ·exact mj (hx.block c (my lL) ix) lL
 have oc:∀β hg c,β≠γ->hp β=some hg->ρ β=some c->¬c=b:=fun β hg c aP gC hr e=>aP (h.inj β γ b (by simp[gC]) (by simp[ak]) (e▸hr) bz);have c0:∀β,xA ρ ρ hp hp w w' β:=fun β=>⟨rfl,fun hg gC=>⟨hg,gC,rfl,Kac _,fun c cap hr gd=>by
  by_cases aP:β=γ
  ·subst aP;rw[bz]at hr;cases hr;exact dN _ _ gd
  ·exact mj (hx.block c (my gd) (oc β hg c aP gC hr)) gd⟩⟩
 refine⟨h.sz,qI,AP,fun β hg al=>?_,h.inj,fun i=>?_⟩
 ·obtain⟨p1,p2,p3,p4,p5⟩:=h.own β hg al;refine⟨p1,p2,?_,p4,p5⟩;by_cases aP:β=γ
  ·subst aP;rw[ak]at al;cases al;rw[bz]at p3⊢;exact⟨p3.1,KaK p3.2.1 hx.size,cur',cap,by rw[h1,ht],by rw[LU];exact h2,by rw[bp];simp,h4,by rw[bp];simp⟩
  ·cases hr:ρ β with
   |none=>rw[hr]at p3;exact p3
   |some c=>rw[hr]at p3;exact⟨p3.1,KaK p3.2.1 hx.size,p3.2.2.move (hx.block c p3.2.1 (oc β hg c aP al hr)) rfl rfl rfl gz.rc⟩
 ·unfold FW.af;split
  ·exact⟨hB,he,b,hb,cur',cap,bz,ak,bp,LU,ht,h1,h2,h3,h4,h5,fun i x hi j y hy=>(h6 i x hi j y hy).move gz (fun β _=>c0 β)⟩
  ·have cH:=h.eQ i;unfold iF;generalize fr i=p at cH;have mv:(∀bB e ty xs,p= .aN bB e ty xs->bB≠γ)->Qt C ρ hp w' p (tmps.getD i undef):=fun hq=>
    cH.move gz (fun β _=>⟨(c0 β).r,(c0 β).h⟩) (fun β _=>c0 β) (fun bB e ty xs e1=>⟨rfl,fun hg gC=>by have aP:=hq bB e ty xs e1;refine⟨hg,gC,rfl,Kac _,fun c cap hr gd=>mj (hx.block c (my gd) (oc bB hg c aP gC hr)) gd,fun he=>⟨he,rfl,fun c hr=>hx.block c ?_ (oc bB hg c aP gC hr)⟩⟩;have:=(h.own bB hg gC).dS;rw[hr]at this;exact this.2.1⟩)
   cases p with
   |aN bB e' ty' xs=>
    simp only[iZ];split
    ·trivial
    ·rename_i aP;exact mv (fun _ _ _ _ e1=>by cases e1;exact aP)
   |_=>exact mv (fun _ _ _ _ e1=>by cases e1)
theorem Nu{l cs:List PV}{o j:Nat}(hl:o+cs.length<=l.length)(hj:j<l.length):(pg l o cs)[j]? =if o<=j/\j<o+cs.length then cs[j-o]? else l[j]? :=by
 unfold pg;rw[KbK];have ht:(l.take o).length=o:=by simp;omega
 rw[Ka1,ht];by_cases c1:j<o
 ·rw[if_pos c1,if_neg (by omega),KaJ c1]
 ·rw[if_neg c1,Ka1];by_cases c2:j-o<cs.length
  ·rw[if_pos c2,if_pos (by omega)]
  ·rw[if_neg c2,if_neg (by omega),Ka9];rw[show o+cs.length+(j-o-cs.length)=j by omega]
theorem G5{l cs:List PV}{o:Nat}(hl:o+cs.length<=l.length):(pg l o cs).length=l.length:=by unfold pg;simp;omega
theorem ab6 {o:Oper} {t:TypeId} {n:Nat} {x y:Operand} {px py:PV} {Q:Exit->Act->World->Prop} (ho:o.op= .store t x y) (hd:o.dst=none) (aU:a.defers=[]) (h:aI C ρ fr hp a.tmps w)
  (hn:ee C.P t=some n) (hx:Qt C ρ hp w px (a.eval x)) (hy:Qt C ρ hp w py (a.eval y)) (hv:oQ n px py fr hp K):o.wp C.P a w (cM C false w K) Q:=by
 unfold oQ at hv;split at hv
 ·rename_i β i o';split at hv
  ·rename_i hb al;obtain⟨h1,h2,h3,h4,h5,hK⟩:=hv;obtain⟨b,mS,g1,g2,ex⟩:=hx.yp;obtain⟨oD,g3,e1,e2,e3,e4,_⟩:=Cm (l:=py.refs) g2;rw[al]at g3;cases g3;have UG:=e4 h1;subst UG;have hf:=h.freeze py.refs;have hr:=qe h hy (fun β al=>al) h2;have yj:=hr.cells;have bk:=hf.own β hb al;have a9:=bk.dS;rw[g1]at a9;obtain⟨b1,b2,cur,cap,c1,c2,c3,c4,c5⟩:=a9;have gG:=Kam h4;have eV:=(bk.len i _ gG).1;have gF:(a.eval y).cells.size=n:=by rw[yj.1,h3]
   have mU:i*hb.e+o'+n<=cur.size:=by rw[c2];have:(i+1)*hb.e<=cap*hb.e:=Kaf _ (by omega);rw[KaH]at this;omega
   have bm:=QJ (P:=C.P) (w:=w) (off:=i*hb.e+o') hn gF c1 mU hr.Wl;have jU:(a.eval y).cells.toList.length=n:=by simp[gF]
   have gl:∀k,k<cur.size->((cur.toList.take (i*hb.e+o')++(a.eval y).cells.toList++cur.toList.drop (i*hb.e+o'+n)).toArray).getD k undef=if i*hb.e+o'<=k/\k<i*hb.e+o'+n then(a.eval y).cells.getD (k-(i*hb.e+o')) undef else cur.getD k undef:=by intro k hk;have:=yM (cur:=cur) (p:=i*hb.e+o') (cs:=(a.eval y).cells.toList) (k:=k) (by omega) hk;rw[jU]at this;rw[this];simp[KaZ,Kao]
   have ku:((cur.toList.take (i*hb.e+o')++(a.eval y).cells.toList++cur.toList.drop (i*hb.e+o'+n)).toArray).size=cur.size:=by
    have:=yN (cur:=cur) (p:=i*hb.e+o') (cs:=(a.eval y).cells.toList) (by omega)
    rwa[jU]at this
   have mY:(if n=hb.e then aK hp py else ra (hb.xs[i]'h4) o' (aK hp py)).cells.length=hb.e/\(if n=hb.e then aK hp py else ra (hb.xs[i]'h4) o' (aK hp py)).aD=true:=by
    by_cases hc:n=hb.e
    ·rw[if_pos hc];exact⟨by omega,h2⟩
    ·rw[if_neg hc];exact⟨by rw[ag3 (by omega)];exact eV,rfl⟩
   obtain⟨nx,EL⟩:∃nx,nx=(if n=hb.e then aK hp py else ra (hb.xs[i]'h4) o' (aK hp py)):=⟨_,rfl⟩
   rw[<-EL]at hK mY;have aF:=hf.store β b hb { hb with xs:=hb.xs.set i nx } al h1 (by intro e;rw[e]at h4;simp at h4) g1 (yP w b _) rfl (by simp) h1
    (fun k x hk=>by
     rcases zO hk with⟨_,rfl⟩|⟨_,hk⟩
     ·exact mY
     ·exact bk.len k x hk)
    (fun e' eI dN=>by obtain⟨cur',ty',d1,d2⟩:=dN;rw[c1]at d1;cases d1;exact⟨_,_,setRow_heap w b cur _ hb.ty _ c1,by rw[ku];exact d2⟩)
    ⟨_, cap,setRow_heap w b cur _ hb.ty _ c1,by rw[ku];exact c2,by simpa using c3,c4,fun k x hk j z hz=>by
     have vP:k<hb.xs.length:=by have:=(Kad.1 hk).1;simpa using this
     have dZ:x.cells.length=hb.e:=by
      rcases zO hk with⟨_,rfl⟩|⟨_,hk⟩
      ·exact mY.1
      ·exact(bk.len k x hk).1
     have hj:j<hb.e:=by have:=(Kad.1 hz).1;omega
     have ar:k*hb.e+0+j<cap*hb.e:=ny (by omega) (by omega:0+hb.e<=hb.e) hj;show Qu w _ z (Array.getD _ (k*hb.e+j) undef);rw[gl _ (by omega)];rcases zO hk with⟨vO,EU⟩|⟨vO,hk⟩
     ·subst vO;subst EU;by_cases hc:n=hb.e
      ·rw[EL,if_pos hc]at hz;have ho0:o'=0:=by omega
       subst ho0;rw[if_pos (by omega)];rw[show i*hb.e+j-(i*hb.e+0)=j by omega];exact yj.2 j z hz
      ·rw[EL,if_neg hc]at hz;rw[ab5 (by omega) (by omega),h3]at hz;by_cases UX:o'<=j/\j<o'+n
       ·rw[if_pos UX]at hz;rw[if_pos (by omega)];rw[show i*hb.e+j-(i*hb.e+o')=j-o' by omega];exact yj.2 _ z hz
       ·rw[if_neg UX]at hz;rw[if_neg (by omega)];exact c5 i _ gG j z hz
     ·rw[if_neg (Nt hj (by omega) (fun e=>vO e.symm))];exact c5 k x hk j z hz⟩
   unfold Oper.wp;have hex:(execOp a.eval o).run C.P w= .ok .skip (w.setRow b (cur.toList.take (i*hb.e+o')++(a.eval y).cells.toList++cur.toList.drop (i*hb.e+o'+n)).toArray):=by unfold execOp;simp only[ho,ex,Kan,Instr.storeAt,Instr.sureAddr,Ka0,Kaj,bm]
   rw[hex];refine⟨by rw[uB];exact aU,⟨fr,_,⟨ρ,?_⟩,hK⟩,by simp⟩;rw[hd];exact aF
  ·exact hv.elim
 ·rename_i γ i o';split at hv
  ·rename_i bB e ty xs ak;obtain⟨rfl,⟨hb,k1,k2⟩,h1,h2,hv⟩:=hv;split at hv
   ·rename_i cs jz;obtain⟨h3,hK⟩:=hv;obtain⟨r1,r2,r3⟩:=Oy hy jz;obtain⟨hB,b,aw,g1,g2,ex⟩:=hx.MM;rw[k1]at g2;cases g2;have cH:=h.eQ bB;rw[ak]at cH;obtain⟨_,vL,b',aw,cur,cap,q1,q2,q3,q4,q5,q6,q7,q8,q9,BA,ig⟩:=cH;rw[g1]at q1;cases q1;rw[k1]at q2;cases q2;rw[q4]at ex;have gG:=Kam h1;have eV:=BA i _ gG;have gF:(a.eval y).cells.size=n:=by rw[r1,h3]
    have mU:i*e+o'+n<=cur.size:=by rw[q7];have:(i+1)*e<=cap*e:=Kaf _ (by omega);rw[KaH]at this;omega
    have bm:=QJ (P:=C.P) (w:=w) (off:=i*e+o') hn gF q6 mU r3;have jU:(a.eval y).cells.toList.length=n:=by simp[gF]
    have gl:∀k,k<cur.size->((cur.toList.take (i*e+o')++(a.eval y).cells.toList++cur.toList.drop (i*e+o'+n)).toArray).getD k undef=if i*e+o'<=k/\k<i*e+o'+n then(a.eval y).cells.getD (k-(i*e+o')) undef else cur.getD k undef:=by intro k hk;have:=yM (cur:=cur) (p:=i*e+o') (cs:=(a.eval y).cells.toList) (k:=k) (by omega) hk;rw[jU]at this;rw[this];simp[KaZ,Kao]
    have ku:((cur.toList.take (i*e+o')++(a.eval y).cells.toList++cur.toList.drop (i*e+o'+n)).toArray).size=cur.size:=by
     have:=yN (cur:=cur) (p:=i*e+o') (cs:=(a.eval y).cells.toList) (by omega)
     rwa[jU]at this
    generalize(cur.toList.take (i*e+o')++(a.eval y).cells.toList++cur.toList.drop (i*e+o'+n)).toArray=W at bm gl ku;have Bd:o'+cs.length<=(xs[i]).bj.length:=by rw[eV,h3];exact h2
    have pz:∀c∈pg (xs[i]).bj o' cs,c.bj=[c]:=by
     intro c hc;obtain⟨j,hj⟩:=KaE hc;have pF:j<(xs[i]).bj.length:=by have:=(Kad.1 hj).1;rwa[G5 Bd]at this
     rw[Nu Bd pF]at hj;split at hj
     ·exact(r2 _ c hj).bj
     ·exact(ig i _ gG j c hj).bj
    have gB:=R1 pz;have aF:=h.MK (w':=w.setRow b W) (xs':=xs.set i (gQ (pg (xs[i]).bj o' cs))) (cur':=W) (cap:=cap) hB vL k1 k2 q3 q4 q5 g1 (yP w b W)
     (fun e2 Am hcp=>by obtain⟨apq,oh,d1,d2⟩:=hcp;rw[q6]at d1;cases d1;exact⟨_,_,setRow_heap w b cur _ ty _ q6,by rw[ku];exact d2⟩)
     (setRow_heap w b cur W ty _ q6) (by rw[ku];exact q7) (by simpa using q8) q9
     (fun k x hk=>by
      rcases zO hk with⟨_,rfl⟩|⟨_,hk⟩
      ·rw[gB,G5 Bd];exact eV
      ·exact BA k x hk)
     (fun k x hk j y' jC=>by
      rcases zO hk with⟨rfl,rfl⟩|⟨aP,hk⟩
      ·rw[gB]at jC;have pF:j<(xs[i]).bj.length:=by have:=(Kad.1 jC).1;rwa[G5 Bd]at this
       have EC:j<e:=by omega
       have vR:i*e+0+j<cap*e:=ny (n:=e) (by omega) (by omega) EC;rw[Nu Bd pF]at jC;rw[gl _ (by omega)];split at jC
       ·rename_i hr;rw[if_pos (by omega),show i*e+j-(i*e+o')=j-o' by omega];exact r2 _ y' jC
       ·rename_i hr;rw[if_neg (by omega)];exact ig i _ gG j y' jC
      ·have vP:k<xs.length:=(Kad.1 hk).1;have EC:j<e:=by have:=(Kad.1 jC).1;have:=BA k x hk;omega
       have vR:k*e+0+j<cap*e:=ny (n:=e) (by omega) (by omega) EC;rw[gl _ (by omega),if_neg (Nt EC h2 (fun e=>aP e.symm))];exact ig k x hk j y' jC)
    unfold Oper.wp;have hex:(execOp a.eval o).run C.P w= .ok .skip (w.setRow b W):=by unfold execOp;simp only[ho,ex,Kan,Instr.storeAt,Instr.sureAddr,Ka0,Kaj,bm]
    rw[hex];refine⟨by rw[uB];exact aU,⟨_,hp,⟨ρ,?_⟩,hK⟩,by simp⟩;rw[hd];exact aF
   ·exact hv.elim
  ·exact hv.elim
 ·exact hv.elim
end Go.FW
namespace Go.FW
open Go
variable {C : Ctx} {ρ : Nat -> Option Nat} {fr : Fr} {hp : HP} {w : World} {a : Act} {K : Qg}
theorem Xg{X:Nat->Prop}{x:PV}{e:Nat}{f:Nat->Value}(he:x.cells.length=e)(h0:0<e)(hr:∀(j:Nat)(y:PV),x.cells[j]? =some y->Qu w X y (f j)):x.aD=true:=by
 by_cases ha:∃cs,x= .agg cs
 ·obtain⟨cs,rfl⟩:=ha;rfl
 ·have hc:x.cells=[x]:=by
   cases x with
   |agg cs=>exact absurd ⟨cs,rfl⟩ ha
   |_=>rfl
  have:=hr 0 x (by rw[hc];rfl);exact aY.data (aY.pW this)
theorem GQ{e:Nat}{px:PV}{v:Value}{ys:List PV}{e':Nat}(h:aI C ρ fr hp a.tmps w)(hx:Qt C ρ hp w px v)(hs:jt hp px=some (e',ys))(h0:0<e)(kT:e'=e∨ys=[]):
  ∃ad cap,v= .slice ad ys.length cap/\(ys≠[]->∃(b off:Nat)(f:Nat->Value),ad=some ⟨b,off,none⟩/\(∀k,k<ys.length*e->w.cell? ⟨b,off+k,none⟩=some (f k))/\
   ∀(i:Nat)(y:PV),ys[i]? =some y->y.cells.length=e/\y.aD=true/\∀(j:Nat)(z:PV),y.cells[j]? =some z->Qu w (aH C ρ hp) z (f (i*e+j))):=by
 cases px with
 |aa=>simp[jt]at hs;obtain⟨rfl,rfl⟩:=hs;exact⟨none,0,hx.wh,fun hn=>absurd rfl hn⟩
 | sl e2 xs=>
  simp[jt]at hs;obtain⟨rfl,rfl⟩:=hs;have aS:Qu w (aH C ρ hp) (.sl e2 xs) v:=hx;cases aS with
  |gH _ ad cap hc=>exact⟨ad,cap,rfl,fun hn=>absurd rfl hn⟩
  | sl _ _ b off cap vs hX hb hl hc he hv hr=>
   refine⟨_,cap,rfl,fun hn=>?_⟩;obtain rfl:e2=e:=kT.resolve_right hn;refine⟨b,off,fun k=>vs (k/e2) (k%e2),rfl,fun k hk=>?_,fun i y hy=>?_⟩
   ·have h1:k/e2<xs.length:=(Kbm h0).2 hk;have h2:=Kbt k h0;have:=hv _ h1 _ h2;rw[Kcg,KaS,Kbp]at this;exact this
   ·have eV:=he i y hy;refine⟨eV,Xg eV h0 (hr i y hy),fun j z hz=>?_⟩;have hj:j<e2:=by have:=(Kad.1 hz).1;omega
    show Qu w _ z (vs ((i*e2+j)/e2) ((i*e2+j)%e2));rw[ab2 hj,Nr hj];exact hr i y hy j z hz
 | ax β o n=>
  simp only[jt,Kaa,KcN]at hs;obtain⟨hb,al,LU,rfl⟩:=hs;obtain⟨eU,g1,g2,g3⟩:=hx;rw[al]at g1;cases g1;have hlen:((hb.xs.drop o).take n).length=n:=by simp;omega
  rcases g3 with⟨g3,rfl,rfl,rfl⟩|⟨b,cap,g3,rfl,g5,g6⟩
  ·exact⟨none,0,by simp,fun hn=>absurd (by simp) hn⟩
  ·refine⟨_,cap,by rw[hlen],fun hn=>?_⟩;have bk:=h.own β hb al;have a9:=bk.dS;rw[g3]at a9;obtain⟨_,ar,cur,eI,c1,c2,c3,c4,c5⟩:=a9;have UQ:hb.e=e:=by
    rcases kT with kT|kT
    ·omega
    ·exact absurd kT hn
   refine⟨b,o*hb.e,fun k=>cur.getD (o*hb.e+k) undef,rfl,fun k hk=>?_,fun i y hy=>?_⟩
   ·rw[hlen]at hk;have:(o+n)*e<=eI*e:=Kaf e (by omega);rw[KaH]at this;exact lz c1 (by rw[c2,UQ];omega)
   ·have hi:i<n:=by have:=(Kad.1 hy).1;omega
    rw[KaJ hi,Ka9]at hy;obtain⟨l1,l2⟩:=bk.len _ y hy;refine⟨by omega,l2,fun j z hz=>?_⟩;have:=c5 _ y hy j z hz;rw[KaH,Kcg]at this
    rwa[UQ]at this⊢
 |_=>simp[jt]at hs
theorem QC{P:Program}{t ty e:TypeId}{i:TypeInfo}(ht:P.underlying t=some (.slice e))(hi:P.info? e=some i){base ad:Option Addr}{n cap c:Nat}(hle:n<=cap)(w:World):
  (Builtin.append_ #[t,t] ty #[.slice base n cap,.slice ad 0 c]).run P w= .ok (.slice base n cap) w:=by
 cases ad<;>cases base<;>simp[Builtin.append_,run_underlying ht,sizeOf,typeInfo,hi,Builtin.lenOf,Builtin.firstCells,hle,storeCells,loadCells,loadCellsFrom]
theorem sG{P:Program}{o:Oper}{s x:Operand}{t:TypeId}(ho:o.op= .call { callee:=.builtin .append,args:= #[s,x],argTypes:= #[t,t] }){vs vx v:Value}{w w':World}(es:a.eval s=vs)(ex:a.eval x=vx)
  (hr:(Builtin.append_ #[t,t] o.type #[vs,vx]).run P w= .ok v w'):(execOp a.eval o).run P w= .ok (.value v) w':=by
 unfold execOp;simp only[ho,resolve,Kan,Ka0,Kaj,invoke,builtin];simp[es,ex,hr]
def fQ(f:Nat->Value)(n:Nat):List Value:=(List.range n).map f
theorem wy(f:Nat->Value)(n:Nat):(fQ f n).length=n:=by simp[fQ]
theorem yQ{f:Nat->Value}{n j:Nat}{u:Value}(h:(fQ f n)[j]? =some u):j<n/\u=f j:=by
 have hj:j<n:=by have:=(Kad.1 h).1;simpa[fQ]using this
 simp only[fQ,Kaw,KcV hj,Kcj,KaB]at h;exact⟨hj,h.symm⟩
theorem Cq{f:Nat->Value}{n j:Nat}(h:j<n):(fQ f n).getD j undef=f j:=by simp[fQ,Kao,h]
theorem uD(l:List Value)(k:Nat):l.toArray.getD k undef=l.getD k undef:=by simp[KaZ,Kao]
theorem kI(xs ys:Array Value)(k:Nat):(xs++ys).getD k undef=if k<xs.size then xs.getD k undef else ys.getD (k-xs.size) undef:=by simp only[KaZ,Array.getElem?_append];split<;>rfl
theorem uM{n m e i j:Nat}(h0:i<m)(hj:j<e):i*e+j<m*e/\(n+i)*e+j=n*e+(i*e+j):=by
 constructor
 ·have:(i+1)*e<=m*e:=Kaf e h0;rw[KaH]at this;omega
 ·rw[KaH];omega
theorem rn{β:Nat}{p:PV}{v:Value}(h:cT C ρ hp w p v):cT C ρ hp w (im β p) v/\∀γ∈(im β p).dP,γ≠β:=by
 cases p with
 | ax du o n=>
  simp only[im];split
  ·exact⟨trivial,fun γ ak=>by cases ak⟩
  ·rename_i aP;exact⟨h,fun γ ak=>by simp[PV.dP]at ak;subst ak;exact aP⟩
 | aM bB o n=>
  simp only[im];split
  ·exact⟨trivial,fun γ ak=>by cases ak⟩
  ·rename_i aP;exact⟨h,fun γ ak=>by simp[PV.dP]at ak;subst ak;exact aP⟩
 |np=>cases h
 |_=>exact⟨h,fun γ ak=>by cases ak⟩
theorem oY{l:List PV}{f:PV->PV}{i:Nat}{y:PV}(h:(l.map f)[i]? =some y):∃x,l[i]? =some x/\y=f x:=by simp only[Kaw,Kaa]at h;obtain⟨x,h1,h2⟩:=h;exact⟨x,h1,h2.symm⟩
theorem wQ{β:Nat}:xB C ρ hp w β fr (fF β fr):=by
 intro i v h;unfold fF;generalize fr i=p at h;have kill:cZ β p=bX β p->(∀γ∈p.bS,γ≠β)->Qt C ρ hp w (cZ β p) v/\(∀γ∈(cZ β p).refs,γ≠β)/\∀γ∈(cZ β p).bS,γ≠β:=fun e hs=>by
  rw[e];refine⟨Qt.kill h,fun γ ak=>(RX γ ak).1,fun γ ak=>?_⟩;unfold bX at ak;split at ak
  ·cases ak
  ·exact hs γ ak
 cases p with
 | aN γ e ty xs=>
  simp only[cZ];split
  ·exact⟨trivial,fun γ ak=>(by cases ak),fun γ ak=>by cases ak⟩
  ·rename_i aP;obtain⟨h0,he,b,hb,cur,cap,h1,h2,h3,h4,h5,h6,h7,h8,h9,bF,cn⟩:=h;have pz:∀(i:Nat)(x:PV),xs[i]? =some x->(gQ (x.bj.map (im β))).bj=x.bj.map (im β):=fun i x hi=>R1 fun c hc=>by obtain⟨d,hd,rfl⟩:=KaI.1 hc;obtain⟨j,hj⟩:=KaE hd;exact(rn (cn i x hi j d hj)).1.bj
   refine⟨⟨h0,he,b,hb,cur,cap,h1,h2,h3,h4,h5,h6,h7,by simpa using h8,h9,fun i x hi=>?_,fun i x hi j y hy=>?_⟩,fun γ ak=>(by cases ak),fun bB ak=>?_⟩
   ·obtain⟨x0,bp,rfl⟩:=oY hi;rw[pz i x0 bp,KaV];exact bF i x0 bp
   ·obtain⟨x0,bp,rfl⟩:=oY hi;rw[pz i x0 bp]at hy;obtain⟨y0,cV,rfl⟩:=oY hy;exact(rn (cn i x0 bp j y0 cV)).1
   ·rcases KaO.1 ak with rfl|ak
    ·exact aP
    ·obtain⟨x,hx,ak⟩:=Kaq.1 ak;obtain⟨y,hy,ak⟩:=Kaq.1 ak;obtain⟨i,hi⟩:=KaE hx;obtain⟨x0,bp,rfl⟩:=oY hi;rw[pz i x0 bp]at hy;obtain⟨j,hj⟩:=KaE hy;obtain⟨y0,cV,rfl⟩:=oY hj;exact(rn (cn i x0 bp j y0 cV)).2 bB ak
 | aT cs=>
  obtain⟨vs,rfl,h1,h2⟩:=h;refine⟨⟨vs,rfl,by simpa using h1,fun i x hi=>?_⟩,fun γ ak=>(by cases ak),fun γ ak=>?_⟩
  ·obtain⟨x0,bp,rfl⟩:=oY hi;exact(rn (h2 i x0 bp)).1
  ·obtain⟨x,hx,ak⟩:=Kaq.1 ak;obtain⟨i,hi⟩:=KaE hx;obtain⟨x0,bp,rfl⟩:=oY hi;exact(rn (h2 i x0 bp)).2 γ ak
 | eO cs=>
  obtain⟨vs,rfl,h1,h2⟩:=h;refine⟨⟨vs,rfl,by simpa using h1,fun i x hi=>?_⟩,fun γ ak=>(by cases ak),fun γ ak=>?_⟩
  ·obtain⟨x0,bp,rfl⟩:=oY hi;exact(rn (h2 i x0 bp)).1
  ·obtain⟨x,hx,ak⟩:=Kaq.1 ak;obtain⟨i,hi⟩:=KaE hx;obtain⟨x0,bp,rfl⟩:=oY hi;exact(rn (h2 i x0 bp)).2 γ ak
 | eP cs q=>
  obtain⟨vs,u,rfl,h1,h2,h3⟩:=h;refine⟨⟨vs,u,rfl,by simpa using h1,fun i x hi=>?_,h3⟩,fun γ ak=>(by cases ak),fun γ ak=>?_⟩
  ·obtain⟨x0,bp,rfl⟩:=oY hi;exact(rn (h2 i x0 bp)).1
  ·obtain⟨x,hx,ak⟩:=Kaq.1 ak;obtain⟨i,hi⟩:=KaE hx;obtain⟨x0,bp,rfl⟩:=oY hi;exact(rn (h2 i x0 bp)).2 γ ak
 |aM γ o n=>
  simp only[cZ];split
  ·exact⟨trivial,fun γ ak=>(by cases ak),fun γ ak=>by cases ak⟩
  ·rename_i aP;exact⟨h,fun γ ak=>(by cases ak),fun bB ak=>by simp[PV.bS]at ak;subst ak;exact aP⟩
 |np γ o n=>
  simp only[cZ];split
  ·exact⟨trivial,fun γ ak=>(by cases ak),fun γ ak=>by cases ak⟩
  ·rename_i aP;exact⟨h,fun γ ak=>(by cases ak),fun bB ak=>by simp[PV.bS]at ak;subst ak;exact aP⟩
 | fn f first cap=>
  by_cases hc:(first.flatMap PV.ep++cap.flatMap PV.ep).contains β=true
  ·simp only[cZ,hc,if_true];exact⟨trivial,fun γ ak=>(by cases ak),fun γ ak=>by cases ak⟩
  ·exact kill (by simp only[cZ,hc];rfl) (fun γ ak e=>hc (by subst e;exact List.contains_iff_mem.2 ak))
 |_=>exact kill rfl (fun γ ak=>by cases ak)
end Go.FW
namespace Go.FW
open Go
variable {C : Ctx} {ρ : Nat -> Option Nat} {fr : Fr} {hp : HP} {w : World} {a : Act} {K : Qg}
theorem Og{o:Oper}{s x:Operand}{t e:TypeId}{n by_:Nat}{z:PV}{px:PV}{ys:List PV}{e' d:Nat}{β:Nat}{ay:Fr}{Q:Exit->Act->World->Prop}
  (ho:o.op= .call { callee:=.builtin .append,args:= #[s,x],argTypes:= #[t,t] }) (hd:o.dst=some d) (ar:d<C.N) (aU:a.defers=[]) (h:aI C ρ fr hp a.tmps w)
  (hu:C.P.underlying t=some (.slice e)) (hz:jJ C.P e=some (n,by_,z)) (hx:Qt C ρ hp w px (a.eval x)) (oL:jt hp px=some (e',ys)) (h0:0<n) (jV:z.cells.length=n) (kT:e'=n∨ys=[])
  (es:a.eval s= .slice none 0 0) (hb:ys.length*by_<=140737488355328) (hm:ys.length<=9223372036854775807)
  (pB:xB C ρ hp w β fr ay) (hB:bG β=false)
  (hK:K (af ay d (.ms β ys.length)) (Qy hp β ⟨n,e,ys,false⟩)):o.wp C.P a w (cM C false w K) Q:=by
 obtain⟨ti,zv,i1,i2,i3,i4,i5⟩:=rB hz;obtain⟨ad,cap,ex,AH⟩:=GQ h hx oL h0 kT;by_cases pR:ys=[]
 ·subst pR;have bm:=QC (P:=C.P) (ty:=o.type) (ad:=ad) (c:=cap) hu i1 (base:=none) (n:=0) (cap:=0) (Kac 0) w;have hs:=h.yv (w':=w) β none ⟨n,e,[],false⟩ hB pB (Ext.refl _ _) (by simp) h0 (by simp) (by simp) (by simp);refine jq (sG ho es ex bm) (cM.kF hd ar aU hs (by simp) ?_ hK);exact⟨⟨n,e,[],false⟩,by simp[Qy],by simp,.inl ⟨gI _ _ _,rfl,rfl,rfl⟩⟩
 ·obtain⟨b,off,f,rfl,hf,gB⟩:=AH pR;have ic:0<ys.length:=Kbq.2 pR;have bm:=run_append_nil (P:=C.P) w t o.type e ti zv hu i1 i2 ⟨b,off,none⟩ ys.length cap (fQ f (ys.length*n)) (by rw[wy,i3])
   (fun j v hj=>by obtain⟨fJ,rfl⟩:=yQ hj;rw[Kby];exact hf j fJ) ic (by omega) (by rw[i4];omega)
  have fU:=grownCap_ge w ys.length 0 e;have iN:=grownCap_le_maxLen w ys.length 0 e (by rw[lB];exact hm);generalize grownCap w ys.length 0 e=G at bm fU iN;have sw:zv.cells.size=n:=by have:=(ri (w:=w) (X:=aH C ρ hp) i5).cells.1;omega
  obtain⟨hs,qI⟩:=h.wg β hB pB ⟨n,e,ys,false⟩ ((fQ f (ys.length*n)).toArray++Builtin.zeroCells zv.cells (G-ys.length)) G _ (.inr rfl)
   (by simp[wy,size_zeroCells,sw,<-Nat.add_mul];congr 1;omega) fU iN h0 (fun i y hy=>⟨(gB i y hy).1,(gB i y hy).2.1⟩)
   (fun i y hy j z hz=>by
    have hi:i<ys.length:=(Kad.1 hy).1;have hj:j<n:=by have:=(Kad.1 hz).1;have:=(gB i y hy).1;omega
    obtain⟨q1,_⟩:=uM (n:=0) hi hj;show Qu w _ z (Array.getD _ (i*n+j) undef);rw[kI,if_pos (by simpa[wy]using q1)];have:=(gB i y hy).2.2 j z hz;rw[uD,Cq q1];exact this)
  refine jq (sG ho es ex bm) (cM.kF hd ar aU hs (by simp) ?_ hK);exact⟨⟨n,e,ys,false⟩,by simp[Qy],by simp,.inr ⟨w.heap.size,G,gI _ _ _,by simp,⟨_,e,mh w.drew _,by simp[wy,size_zeroCells,sw,<-Nat.add_mul];congr 1;omega⟩,by omega⟩⟩
theorem Oh{o:Oper}{s x:Operand}{t e:TypeId}{n by_:Nat}{z:PV}{px:PV}{ys:List PV}{e' d:Nat}{β m:Nat}{hb:HB}{ay:Fr}{Q:Exit->Act->World->Prop}
  (ho:o.op= .call { callee:=.builtin .append,args:= #[s,x],argTypes:= #[t,t] }) (hd:o.dst=some d) (ar:d<C.N) (aU:a.defers=[]) (h:aI C ρ fr hp a.tmps w)
  (hu:C.P.underlying t=some (.slice e)) (hz:jJ C.P e=some (n,by_,z)) (hx:Qt C ρ hp w px (a.eval x)) (oL:jt hp px=some (e',ys)) (h0:0<n) (jV:z.cells.length=n) (kT:e'=n∨ys=[])
  (hs:Qt C ρ hp w (.ms β m) (a.eval s)) (pB:xB C ρ hp w β fr ay) (hB:bG β=false) (al:hp β=some hb) (lP:hb.fz=false) (AB:hb.e=n) (iL:hb.ty=e) (nY:m<=hb.xs.length)
  (LM:(m+ys.length)*by_<=140737488355328) (AV:m+ys.length<=9223372036854775807)
  (hK:K (af ay d (.ms β (m+ys.length))) (Qy hp β ⟨n,e,hb.xs.take m++ys,false⟩)):o.wp C.P a w (cM C false w K) Q:=by
 obtain⟨eU,g1,g2,g3⟩:=hs;rw[al]at g1;cases g1;have qU:(hb.xs.take m).length=m:=by simp;omega
 rw[Kbc]at g2;rcases g3 with⟨g3,es,rfl,_⟩|⟨b,cap,g3,es,g5,g6⟩
 ·simp only[Kbc,Kb5,KaN]at hK LM AV;exact Og ho hd ar aU h hu hz hx oL h0 jV kT es LM AV pB hB hK
 rw[KbH]at es;rw[Kbc]at g5 g6;obtain⟨ti,zv,i1,i2,i3,i4,i5⟩:=rB hz;obtain⟨ad,BC,ex,AH⟩:=GQ h hx oL h0 kT;have bk:=h.own β hb al;have a9:=bk.dS;rw[g3]at a9;obtain⟨b1,b2,cur,eI,c1,c2,c3,c4,c5⟩:=a9;replace b1:=Ctx.DS b1 hB;obtain⟨cur',ty',d1,d2⟩:=g5;rw[c1]at d1;cases d1;obtain rfl:eI=cap:=KbA bk.lK (by omega);subst iL;subst AB;have AM:aH C ρ hp b:=.inr ⟨β,hb,al,lP,g3⟩;have ya:∀(i:Nat)(x:PV),(hb.xs.take m++ys)[i]? =some x->(i<m/\hb.xs[i]? =some x)∨(m<=i/\ys[i-m]? =some x):=by
  intro i x aS;rw[Ka1,qU]at aS;by_cases hi:i<m
  ·rw[if_pos hi,KaJ hi]at aS;exact .inl ⟨hi,aS⟩
  ·rw[if_neg hi]at aS;exact .inr ⟨by omega,aS⟩
 by_cases pR:ys=[]
 ·subst pR;have bm:=QC (P:=C.P) (ty:=o.type) (ad:=ad) (c:=BC) hu i1 (base:=some ⟨b,0,none⟩) (n:=m) (cap:=eI) (by omega) w;have hr:=h.yv (w':=w) β (some b) ⟨hb.e,hb.ty,hb.xs.take m++[],false⟩ hB pB (Ext.refl _ _) (fun c hc=>by cases hc;exact⟨b1,b2,.inr ⟨g3,hb,al,lP⟩⟩) bk.lK
   (fun i x aS=>by
    rcases ya i x aS with⟨_,hq⟩|⟨_,hq⟩
    ·exact bk.len i x hq
    ·simp at hq) (by simp)
   (fun c hc=>by
    cases hc;refine⟨cur,eI,c1,c2,by simp;omega,c4,fun i x aS j y hy=>?_⟩;rcases ya i x aS with⟨_,hq⟩|⟨_,hq⟩
    ·exact c5 i x hq j y hy
    ·simp at hq)
  refine jq (sG ho es ex bm) (cM.kF hd ar aU hr (by simp) ?_ hK);exact⟨⟨hb.e,hb.ty,hb.xs.take m++[],false⟩,by simp[Qy],by simp;omega,.inr ⟨b,eI,gI _ _ _,by simp,⟨cur,hb.ty,c1,by rw[Kbc];exact c2⟩,by omega⟩⟩
 obtain⟨sb,off,f,rfl,hf,gB⟩:=AH pR;have ic:0<ys.length:=Kbq.2 pR;have yc:∀(j:Nat)(v:Value),(fQ f (ys.length*hb.e))[j]? =some v->w.cell? ((⟨sb,off,none⟩:Addr).add j)=some v:=fun j v hj=>by obtain⟨fJ,rfl⟩:=yQ hj;rw[Kby];exact hf j fJ
 have jB:∀u∈fQ f (ys.length*hb.e),u.oneCell'=true:=by
  intro u iV;obtain⟨k,hk⟩:=KaE iV;obtain⟨dT,rfl⟩:=yQ hk;have hi:k/hb.e<ys.length:=(Kbm h0).2 dT;have hj:=Kbt k h0;obtain⟨l1,l2,l3⟩:=gB _ _ (Kam hi);have pF:k%hb.e<(ys[k/hb.e]'hi).cells.length:=by omega
  have:=l3 _ _ (Kam pF);rw[KaS,Kbp]at this;exact this.qY.1
 have lW:=wy f (ys.length*hb.e);have hmc:m*hb.e+(fQ f (ys.length*hb.e)).length=(m+ys.length)*hb.e:=by rw[lW,KaH]
 by_cases yg:m+ys.length<=eI
 ·have oH:m*hb.e+(fQ f (ys.length*hb.e)).length<=cur.size:=by rw[hmc,c2];exact Kaf _ yg
  have bm:=run_append_room (P:=C.P) w t o.type hb.ty ti hu i1 b m eI cur c1 ⟨sb,off,none⟩ ys.length BC (fQ f (ys.length*hb.e)) (by rw[lW,i3]) yc jB yg (by rw[i3];exact oH);rw[i3]at bm;have ku:=yN (cur:=cur) (p:=m*hb.e) (cs:=fQ f (ys.length*hb.e)) oH;have gl:=fun k hk=>yM (cur:=cur) (p:=m*hb.e) (cs:=fQ f (ys.length*hb.e)) (k:=k) oH hk;generalize hW:(cur.toList.take (m*hb.e)++fQ f (ys.length*hb.e)++cur.toList.drop (m*hb.e+(fQ f (ys.length*hb.e)).length)).toArray=W at bm ku gl;have hr:=h.yv (w':=w.setRow b W) β (some b) ⟨hb.e,hb.ty,hb.xs.take m++ys,false⟩ hB pB ((yP w b W).mono (fun i _ hi=>⟨hi▸g3,hb,al,lP⟩))
   (fun c hc=>by cases hc;exact⟨b1,by simpa using b2,.inr ⟨g3,hb,al,lP⟩⟩) bk.lK
   (fun i x aS=>by
    rcases ya i x aS with⟨_,hq⟩|⟨_,hq⟩
    ·exact bk.len i x hq
    ·exact⟨(gB _ x hq).1,(gB _ x hq).2.1⟩) (by simp)
   (fun c hc=>by
    cases hc;refine⟨W,eI,setRow_heap w b cur W hb.ty _ c1,by rw[ku];exact c2,by simp;omega,c4,fun i x aS j y hy=>?_⟩;show Qu w _ y (Array.getD W (i*hb.e+j) undef);rcases ya i x aS with⟨hi,hq⟩|⟨hi,hq⟩
    ·have hj:j<hb.e:=by have:=(Kad.1 hy).1;have:=(bk.len i x hq).1;omega
     have q1:=(uM (n:=0) hi hj).1;have q2:m*hb.e<=eI*hb.e:=Kaf _ (by omega);rw[gl _ (by omega),if_neg (by omega)];exact c5 i x hq j y hy
    ·have lT:i-m<ys.length:=(Kad.1 hq).1;have hj:j<hb.e:=by have:=(Kad.1 hy).1;have:=(gB _ x hq).1;omega
     obtain⟨q1,q2⟩:=uM (n:=m) lT hj;rw[show m+(i-m)=i by omega]at q2;rw[gl _ (by omega),if_pos (by omega),q2,show m*hb.e+((i-m)*hb.e+j)-m*hb.e=(i-m)*hb.e+j by omega,Cq q1];exact(gB _ x hq).2.2 j y hy)
  refine jq (sG ho es ex bm) (cM.kF hd ar aU hr (by simp) ?_ hK);exact⟨⟨hb.e,hb.ty,hb.xs.take m++ys,false⟩,by simp[Qy],by simp;omega,.inr ⟨b,eI,gI _ _ _,by simp,⟨W,hb.ty,setRow_heap w b cur W hb.ty _ c1,by rw[ku,Kbc];exact c2⟩,by omega⟩⟩
 ·have apZ:m*hb.e<=cur.size:=by rw[c2];exact Kaf _ (by omega)
  have fy:(cur.toList.take (m*hb.e)).length=m*hb.e:=by simp;omega
  have holds:∀(j:Nat)(v:Value),(cur.toList.take (m*hb.e))[j]? =some v->w.cell? ((⟨b,0,none⟩:Addr).add j)=some v:=fun j v hj=>by
   have fJ:j<m*hb.e:=by have:=(Kad.1 hj).1;omega
   rw[KaJ fJ]at hj;rw[Kby,Kbc,lz c1 (by omega),Cn cur j v hj]
  have bm:=run_append_grow (P:=C.P) w t o.type hb.ty ti zv hu i1 i2 ⟨b,0,none⟩ m eI (cur.toList.take (m*hb.e)) (by rw[fy,i3]) holds ⟨sb,off,none⟩ ys.length BC (fQ f (ys.length*hb.e)) (by rw[lW,i3]) yc
   (by omega) (by omega) (growslice_fits (by omega) (by rw[i4];exact LM))
  have fU:=grownCap_ge w (m+ys.length) eI hb.ty;have iN:=grownCap_le_maxLen w (m+ys.length) eI hb.ty (by rw[lB];exact AV);generalize grownCap w (m+ys.length) eI hb.ty=G at bm fU iN;have sw:zv.cells.size=hb.e:=by have:=(ri (w:=w) (X:=aH C ρ hp) i5).cells.1;omega
  have jz:((cur.toList.take (m*hb.e)).toArray++(fQ f (ys.length*hb.e)).toArray++Builtin.zeroCells zv.cells (G-(m+ys.length))).size=G*hb.e:=by simp only[Kci,KbL,fy,lW,size_zeroCells,sw,<-Nat.add_mul];congr 1;omega
  obtain⟨hr,qI⟩:=h.wg β hB pB ⟨hb.e,hb.ty,hb.xs.take m++ys,false⟩ _ G _ (.inr rfl) jz (by simp;omega) iN bk.lK
   (fun i x aS=>by
    rcases ya i x aS with⟨_,hq⟩|⟨_,hq⟩
    ·exact bk.len i x hq
    ·exact⟨(gB _ x hq).1,(gB _ x hq).2.1⟩)
   (fun i x aS j y hy=>by
    show Qu w _ y (Array.getD _ (i*hb.e+j) undef);rcases ya i x aS with⟨hi,hq⟩|⟨hi,hq⟩
    ·have hj:j<hb.e:=by have:=(Kad.1 hy).1;have:=(bk.len i x hq).1;omega
     have q1:=(uM (n:=0) hi hj).1;rw[kI,if_pos (by simp only[Kci,KbL,fy];omega),kI,if_pos (by simp only[KbL,fy];omega),uD,
      Kao,KaJ q1]
     have:=c5 i x hq j y hy;simpa[KaZ]using this
    ·have lT:i-m<ys.length:=(Kad.1 hq).1;have hj:j<hb.e:=by have:=(Kad.1 hy).1;have:=(gB _ x hq).1;omega
     obtain⟨q1,q2⟩:=uM (n:=m) lT hj;rw[show m+(i-m)=i by omega]at q2;rw[q2,kI,if_pos (by simp only[Kci,KbL,fy,lW];omega),kI,if_neg (by simp only[KbL,fy];omega),uD];simp only[KbL,fy];rw[show m*hb.e+((i-m)*hb.e+j)-m*hb.e=(i-m)*hb.e+j by omega,Cq q1];exact(gB _ x hq).2.2 j y hy)
  refine jq (sG ho es ex bm) (cM.kF hd ar aU hr (by simp) ?_ hK);exact⟨⟨hb.e,hb.ty,hb.xs.take m++ys,false⟩,by simp[Qy],by simp;omega,.inr ⟨w.heap.size,G,gI _ _ _,by simp,⟨_,hb.ty,mh w.drew _,by rw[Kbc];exact jz⟩,by omega⟩⟩
theorem Q9f{o:Oper}{s x:Operand}{t e:TypeId}{n by_:Nat}{z:PV}{ps px:PV}{d:Nat}{Q:Exit->Act->World->Prop}
  (ho:o.op= .call { callee:=.builtin .append,args:= #[s,x],argTypes:= #[t,t] }) (hd:o.dst=some d) (ar:d<C.N) (aU:a.defers=[]) (h:aI C ρ fr hp a.tmps w)
  (hu:C.P.underlying t=some (.slice e)) (hz:jJ C.P e=some (n,by_,z)) (jV:z.cells.length=n) (hs:Qt C ρ hp w ps (a.eval s)) (hx:Qt C ρ hp w px (a.eval x))
  (anK:jt hp px=none->xy n by_ e ps px d fr hp K->o.wp C.P a w (cM C false w K) Q) (hv:iH n by_ e ps px d fr hp K):o.wp C.P a w (cM C false w K) Q:=by
 unfold iH at hv;split at hv
 ·exact anK (by assumption) hv
 ·rename_i e' ys oL;obtain⟨h0,kT,hv⟩:=hv;cases ps with
  |aa=>obtain⟨k1,k2,hK⟩:=hv;exact Og (β:=d) ho hd ar aU h hu hz hx oL h0 jV kT hs.wh k1 k2 (CP (xC ar)) (uZ (xC ar)) hK
  | ax β o' m=>
   cases o' with
   |succ o'=>exact hv.elim
   |zero=>
   simp only at hv;split at hv
   ·rename_i hb al;rcases hv with⟨k0,k1,k2,k3,k4,k5,k6,hK⟩|⟨k0,kY,⟨_,k1,k2,k3,k4,k5,k6⟩,hK⟩
    ·exact Oh ho hd ar aU h hu hz hx oL h0 jV kT hs (CP k0) (uZ k0) al k1 k2 k3 k4 k5 k6 hK
    ·exact Oh ho hd ar aU h hu hz hx oL h0 jV kT hs wQ kY al k1 k2 k3 k4 k5 k6 hK
   ·exact hv.elim
  |_=>exact hv.elim
theorem WV{P:Program}{t ty e:TypeId}{n:Nat}(ht:P.underlying t=some (.slice e))(hn:ee P e=some n){base ad:Option Addr}{dl dc sl sc:Nat}(hz:Nat.min sl dl=0)(w:World):
  (Builtin.copy_ #[t,t] ty #[.slice base dl dc,.slice ad sl sc]).run P w= .ok (goInt 0) w:=by
 have hs:=kH hn;cases ad<;>cases base<;>simp[Builtin.copy_,run_underlying ht,hs,Builtin.lenOf,Builtin.firstCells,hz,storeCells,loadCells,loadCellsFrom]
theorem QZ{P:Program}{o:Oper}{s x:Operand}{t:TypeId}(ho:o.op= .call { callee:=.builtin .copy,args:= #[s,x],argTypes:= #[t,t] }){vs vx v:Value}{w w':World}(es:a.eval s=vs)(ex:a.eval x=vx)
  (hr:(Builtin.copy_ #[t,t] o.type #[vs,vx]).run P w= .ok v w'):(execOp a.eval o).run P w= .ok (.value v) w':=by
 unfold execOp;simp only[ho,resolve,Kan,Ka0,Kaj,invoke,builtin];simp[es,ex,hr]
theorem WW{P:Program}(w:World)(t ty elem:TypeId)(g o Le alm n:Nat)(a:Addr)(M0 ao2:Nat)(cur:Array Value)(ty':TypeId)(cs:List Value)
  (hu:P.underlying t=some (.slice elem)) (hs:ee P elem=some n)
  (hg:w.heap[g]? =some (.cells cur ty' (0,0))) (hn:cs.length=Nat.min M0 Le*n)
  (oL:∀j v,cs[j]? =some v->w.cell? (a.add j)=some v) (oH:o+cs.length<=cur.size) (h1:∀v∈cs,v.oneCell'=true):
  (Builtin.copy_ #[t,t] ty #[.slice (some ⟨g,o,none⟩) Le alm,.slice (some a) M0 ao2]).run P w=
   .ok (goInt (Nat.min M0 Le)) (w.setRow g (cur.toList.take o++cs++cur.toList.drop (o+cs.length)).toArray):=by
 have hl:=run_loadCells_list (P:=P) w a cs oL;have aF:=run_storeCells_at P g o ty' cs 0 cur w hg (by simpa using oH) h1;have hz:=kH hs;simp[Builtin.copy_,run_underlying hu,hz,Builtin.lenOf,Builtin.firstCells,<-hn,hl,aF]
theorem Q9g{o:Oper}{s x:Operand}{t e:TypeId}{n:Nat}{ps px:PV}{d:Nat}{Q:Exit->Act->World->Prop}
  (ho:o.op= .call { callee:=.builtin .copy,args:= #[s,x],argTypes:= #[t,t] }) (hd:o.dst=some d) (ar:d<C.N) (aU:a.defers=[]) (h:aI C ρ fr hp a.tmps w)
  (hu:C.P.underlying t=some (.slice e)) (hn:ee C.P e=some n) (hs:Qt C ρ hp w ps (a.eval s)) (hx:Qt C ρ hp w px (a.eval x))
  (hv:tt n ps px d fr hp K):o.wp C.P a w (cM C false w K) Q:=by
 unfold tt at hv;split at hv
 ·rename_i e' ys β m oL;split at hv
  ·rename_i hb al;obtain⟨k0,k1,k2,k3,k4,hK⟩:=hv;obtain⟨eU,g1,g2,g3⟩:=hs;rw[al]at g1;cases g1;obtain⟨ad,BC,ex,AH⟩:=GQ (e:=n) h hx oL k0 k3;have bk:=h.own β hb al;have zero:Nat.min ys.length m=0->o.wp C.P a w (cM C false w K) Q:=by
    intro h0;have bm:∀base cap,a.eval s= .slice base m cap->(execOp a.eval o).run C.P w= .ok (.value (goInt 0)) w:=fun base cap es=>
     QZ ho es ex (WV (P:=C.P) (ty:=o.type) hu hn h0 w)
    have e2:({ hb with xs:=ys.take m++hb.xs.drop ys.length }:HB)=hb:=by
     have:ys.take m++hb.xs.drop ys.length=hb.xs:=by
      rcases Nat.min_eq_zero_iff.1 h0 with hq|hq
      ·have:ys=[]:=Kcd hq;subst this;simp
      ·have:hb.xs=[]:=Kcd (by omega);subst hq;simp[this]
     rw[this]
    have e3:Qy hp β hb=hp:=by
     funext γ;unfold Qy;split
     ·rename_i he;rw[he,al]
     ·rfl
    rw[e2,e3,show(min (ys.length:Int) (m:Int))=0 by have:min ys.length m=0:=h0;omega]at hK;obtain⟨ad',eI,es⟩:=Qt.MH (C:=C) (ρ:=ρ) (hp:=hp) (w:=w) ⟨hb,al,g2,g3⟩;exact jq (bm _ _ es) (cM.kF hd ar aU h (by simp) (Qt.mkInt _ _) hK)
   by_cases EI:Nat.min ys.length m=0
   ·exact zero EI
   rcases g3 with⟨g3,es,jQ,_⟩|⟨b,cap,g3,es,g5,g6⟩
   ·exact(EI (by rw[jQ];simp)).elim
   rw[KbH]at es;have pR:ys≠[]:=by rintro rfl;exact EI (by simp)
   obtain⟨sb,off,f,rfl,hf,gB⟩:=AH pR;have a9:=bk.dS;rw[g3]at a9;obtain⟨b1,b2,cur,eI,c1,c2,c3,c4,c5⟩:=a9;obtain⟨k,hk⟩:∃k,k=min ys.length m:=⟨_,rfl⟩
   have lW:=wy f (k*n);have L9:k*n<=ys.length*n:=Kaf _ (by omega);have jB:∀u∈fQ f (k*n),u.oneCell'=true:=by
    intro u iV;obtain⟨q,hq⟩:=KaE iV;obtain⟨kt,rfl⟩:=yQ hq;have hi:q/n<ys.length:=(Kbm k0).2 (by omega);have hj:=Kbt q k0;obtain⟨l1,l2,l3⟩:=gB _ _ (Kam hi);have pF:q%n<(ys[q/n]'hi).cells.length:=by omega
    have:=l3 _ _ (Kam pF);rw[KaS,Kbp]at this;exact this.qY.1
   have hkc:k*n<=eI*n:=Kaf _ (by omega);have oH:0+(fQ f (k*n)).length<=cur.size:=by rw[lW,c2,k2];omega
   have bm:=WW (P:=C.P) w t o.type e b 0 m cap n ⟨sb,off,none⟩ ys.length BC cur hb.ty (fQ f (k*n)) hu hn c1 (by rw[lW,hk])
    (fun j v hj=>by obtain⟨fJ,rfl⟩:=yQ hj;rw[Kby];exact hf j (by omega)) oH jB
   have ku:=yN (cur:=cur) (p:=0) (cs:=fQ f (k*n)) oH;have gl:=fun q hq=>yM (cur:=cur) (p:=0) (cs:=fQ f (k*n)) (k:=q) oH hq;generalize hW:(cur.toList.take 0++fQ f (k*n)++cur.toList.drop (0+(fQ f (k*n)).length)).toArray=W at bm ku gl;have dZ:(ys.take m++hb.xs.drop ys.length).length=hb.xs.length:=by simp;omega
   have eK:∀(i:Nat)(x:PV),(ys.take m++hb.xs.drop ys.length)[i]? =some x->(i<k/\ys[i]? =some x)∨(k<=i/\hb.xs[i]? =some x):=by
    intro i x aS;rw[Ka1]at aS;have ht:(ys.take m).length=k:=by simp;omega
    rw[ht]at aS;by_cases hi:i<k
    ·rw[if_pos hi,KaJ (by omega)]at aS;exact .inl ⟨hi,aS⟩
    ·rw[if_neg hi,Ka9]at aS;refine .inr ⟨by omega,?_⟩;have dm:ys.length+(i-k)<hb.xs.length:=(Kad.1 aS).1
     rwa[show ys.length+(i-k)=i by omega]at aS
   have aF:=h.store β b hb { hb with xs:=ys.take m++hb.xs.drop ys.length } al k1 (by intro e;rw[e]at k4;simp at k4;exact EI (by simp[k4])) g3 (yP w b W) rfl dZ k1
    (fun i x aS=>by
     rcases eK i x aS with⟨_,hq⟩|⟨_,hq⟩
     ·exact⟨by rw[(gB _ x hq).1];exact k2.symm,(gB _ x hq).2.1⟩
     ·exact bk.len i x hq)
    (fun e' Am dN=>by obtain⟨cur',ty',d1,d2⟩:=dN;rw[c1]at d1;cases d1;exact⟨_,_,setRow_heap w b cur _ hb.ty _ c1,by rw[ku];exact d2⟩)
    ⟨W,eI,setRow_heap w b cur W hb.ty _ c1,by rw[ku];exact c2,by rw[dZ];exact c3,c4,fun i x aS j y hy=>by
     show Qu w _ y (Array.getD W (i*hb.e+j) undef);rcases eK i x aS with⟨hi,hq⟩|⟨hi,hq⟩
     ·have hj:j<n:=by have:=(Kad.1 hy).1;have:=(gB _ x hq).1;omega
      have q1:=(uM (n:=0) hi hj).1;rw[k2,gl _ (by rw[c2,k2];omega),if_pos (by omega),Kcl,Cq q1];exact(gB _ x hq).2.2 j y hy
     ·have dm:i<hb.xs.length:=(Kad.1 hq).1;have hj:j<hb.e:=by have:=(Kad.1 hy).1;have:=(bk.len i x hq).1;omega
      have:=c5 i x hq j y hy;have q2:k*n<=i*n:=Kaf _ hi;have q3:=(uM (n:=0) (show i<eI by omega) (show j<n by omega)).1;rw[gl _ (by rw[c2,k2];omega),if_neg (by rw[k2];omega)];exact this⟩
   rw[show(min (ys.length:Int) (m:Int))=((Nat.min ys.length m:Nat):Int)by have:Nat.min ys.length m=min ys.length m:=rfl;omega]at hK;exact jq (QZ ho es ex bm) (cM.kF hd ar aU aF (by simp) (Qt.mkInt _ _) hK)
  ·exact hv.elim
 ·exact hv.elim
theorem Ys{o:Oper}{t:TypeId}{parts:Array (Nat×Operand)}{z:PV}{n by_:Nat}{ps:List (Nat×Nat×aO)}{d:Nat}(ho:o.op= .build t parts)(hd:o.dst=some d)(ar:d<C.N)(h:aI C ρ fr hp a.tmps w)
  (hz:jJ C.P t=some (n,by_,z)) (fW:zV C.P t parts.toList=some ps)
  (hv:s0 z.cells.length (ps.map fun p=>(p.1,p.2.1,ev fr p.2.2))/\K (af fr d (.aT (gZ z.cells ((ps.map fun p=>(p.1,p.2.1,ev fr p.2.2)).map fun p=>(p.1,(fl p.2.2).getD []))))) hp):bh C ρ o a w K:=by
 obtain⟨cA,hK⟩:=hv;obtain⟨ti,zv,i1,i2,i3,i4,i5⟩:=rB hz;have Mz:o6 (cT C ρ hp w) z.cells zv.cells:=by have h0:Rows w (aH C ρ hp) z.cells zv.cells:=(ri i5).rows;exact⟨h0.1,fun i x hx=>cT.Wf (h0.2 i x hx)⟩
 have qH:(parts.map fun(x:Nat×Operand)=>(x.1,a.eval x.2)).toList=parts.toList.map fun x=>(x.1,a.eval x.2):=by simp
 have key:∀(f:Nat×Operand->Option (Nat×Nat×aO))(place:Nat->Option (Nat×Nat)),parts.toList.mapM f=some ps->(∀x q,f x=some q->place x.1=some (q.1,q.2.1)/\bY x.2=some q.2.2)->
   ∃eg,Instr.fill place zv.cells (parts.map fun(x:Nat×Operand)=>(x.1,a.eval x.2)).toList=some eg/\
    o6 (cT C ρ hp w) (gZ z.cells ((ps.map fun p=>(p.1,p.2.1,ev fr p.2.2)).map fun p=>(p.1,(fl p.2.2).getD []))) eg:=by
  intro f place hm hf;rw[qH];refine Cv place _ _ _ _ Mz (by simp[(oo hm).1]) (fun i p q ye tY=>?_);simp only[Kc7,Kaw,Kaa]at tY;obtain⟨q0,iy,rfl⟩:=tY;obtain⟨x,hx,oI,rfl⟩:=SV hm ye iy;obtain⟨f1,f2⟩:=hf x q0 oI;obtain⟨cs,o1,o2,o3⟩:=cA (q0.1,q0.2.1,ev fr q0.2.2) (KaI.2 ⟨q0,Kai iy,rfl⟩);simp only[Function.comp]at o1 o2 o3⊢;simp only[o1,KbT];obtain⟨r1,r2,_⟩:=Oy (cC h f2) o1;exact⟨by rw[o2];exact f1,⟨r1,r2⟩,by rw[o2];exact o3⟩
 have fin:∀eg,(∀w',(Instr.build t (parts.map fun(x:Nat×Operand)=>(x.1,a.eval x.2))).run C.P w'= .ok (.agg eg) w')->
   o6 (cT C ρ hp w) (gZ z.cells ((ps.map fun p=>(p.1,p.2.1,ev fr p.2.2)).map fun p=>(p.1,(fl p.2.2).getD []))) eg->bh C ρ o a w K:=by
  intro eg bm hr;refine⟨.agg eg,fun w'=>?_,_,_,by rw[hd];exact h.af (p:=.aT _) ⟨eg,rfl,hr.1,hr.2⟩ ar,hK⟩;unfold execOp;simp only[ho,Kan];have:=bm w';rw[show(parts.map fun(x:Nat×Operand)=>(x.1,a.eval x.2))=(parts.map fun x=>match x with|(i,x)=>(i,a.eval x))from rfl]at this;rw[this];rfl
 unfold zV at fW;split at fW
 ·rename_i fs hu;simp only[Kab]at fW;obtain⟨pl,gE,hm⟩:=fW;obtain⟨eg,g1,g2⟩:=key _ (fun i=>pl[i]?) hm (fun x q hq=>by simp only[Kab,Kaa]at hq;obtain⟨r,hr,y,hy,rfl⟩:=hq;exact⟨by simpa using hr,hy⟩);refine fin eg (fun w'=>?_) g2;unfold Instr.build;have iT:=run_places (P:=C.P) w' fs.toList pl gE;simp[Kan,ux i1 i2,ij hu,Kb6,iT]at g1⊢;simp[g1]
 ·rename_i len e hu;simp only[Kab]at fW;obtain⟨m,jQ,hm⟩:=fW;obtain⟨eg,g1,g2⟩:=key _ (fun i=>some (i*m,m)) hm (fun x q hq=>by simp only[Kaa]at hq;obtain⟨y,hy,rfl⟩:=hq;exact⟨rfl,hy⟩);refine fin eg (fun w'=>?_) g2;unfold Instr.build;simp only[Kan,ux i1 i2,ij hu,kH jQ,Kaj,g1,Ka0]
 ·simp at fW
end Go.FW
namespace Go.FW
open Go
variable {C : Ctx} {ρ : Nat -> Option Nat} {fr : Fr} {hp : HP} {tmps : Array Value} {w : World} {a : Act} {K : Qg}
theorem Gq{x:PV}(h:lE x=true):∃β n,x= .ax β 0 n/\5000000<=β:=by
 unfold lE at h;split at h
 ·exact⟨_,_,rfl,by simpa using h⟩
 ·cases h
theorem SW{γ:Nat}:iF γ (fF γ fr)=fF γ fr:=by
 funext i;unfold iF fF;generalize fr i=p;cases p with
 |aN bB e ty xs=>
  simp only[cZ];split
  ·rfl
  ·rename_i aP;simp[iZ,aP]
 |aM bB o n=>simp only[cZ];split<;>rfl
 |np bB o n=>simp only[cZ];split<;>rfl
 |fn f first cap=>
  simp only[cZ];split
  ·rfl
  ·unfold bX;split<;>rfl
 |aT cs=>rfl
 |eO cs=>rfl
 |eP cs q=>rfl
 |_=>simp only[cZ,bX];split<;>rfl
theorem wR{γ β o n:Nat}{b':Option Nat}{aw:HB}{w':World}{v:Value}(h:aI C ρ fr hp tmps w)(hx:Ext (fun b=>ρ γ=some b/\∃hb,hp γ=some hb/\hb.fz=false) w w')(aP:β≠γ)
  (hr:eG ρ hp w β o n v):eG (rb ρ γ b') (Qy hp γ aw) w' β o n v:=
 eG.move hr ⟨ov aP,fun hb al=>⟨hb,by simp[Qy,aP,al],rfl,Kac _,fun b cap h1 h2=>
  mj (hx.block b (my h2) (fun⟨e1,mS,e2,_⟩=>aP (h.inj β γ b (by simp[al]) (by simp[e2]) h1 e1))) h2⟩⟩
theorem eG.slice{β o n:Nat}{v:Value}(h:eG ρ hp w β o n v):∃ad m c,v= .slice ad m c:=by
 obtain⟨_,_,_,⟨_,e,_⟩|⟨_,_,_,e,_⟩⟩:=h
 ·exact⟨_,_,_,e⟩
 ·exact⟨_,_,_,e⟩
theorem DF{β:Nat}(h:1000000<=β):b9 β=true:=by simp[b9];omega
theorem HC{β:Nat}(h:2000000<=β):bG β=false:=by simp[bG];omega
theorem aI.Fc{γ b ty cap:Nat}{cur:Array Value}{xs:List PV}(h:aI C ρ (fF γ fr) hp tmps w)(hB:b9 γ=true)(ak:hp γ=some ⟨1,ty,[],false⟩)(bz:ρ γ=some b)
  (h1:w.heap[b]? =some (.cells cur ty (0,0))) (h2:cur.size=cap) (h3:xs.length<=cap) (h4:cap<=maxLen) (hr:xs.all lE=true)
  (h6:∀(i β n:Nat),xs[i]? =some (.ax β 0 n)->eG ρ hp w β 0 n (cur.getD i undef)):aI C ρ (FW.af (fF γ fr) γ (.aN γ 1 ty xs)) hp tmps w:=by
 have fL:∀(i:Nat)(x:PV),xs[i]? =some x->∃β n,x= .ax β 0 n/\5000000<=β:=fun i x hx=>Gq (Kax.1 hr _ (Kai hx));have:=h.MK (w':=w) (γ:=γ) (b:=b) (e:=1) (ty:=ty) (xs':=xs) (cur':=cur) (cap:=cap) hB (by omega) ak rfl rfl rfl rfl bz (Ext.refl _ _) (fun _ _ h=>h) h1 (by omega) h3 h4
  (fun i x hx=>by obtain⟨β,n,rfl,_⟩:=fL i x hx;rfl)
  (fun i x hx j y hy=>by
   obtain⟨β,n,rfl,al⟩:=fL i x hx;rw[show(PV.ax β 0 n).bj=[.ax β 0 n]from rfl]at hy;have hj:j<1:=by have:=(Kad.1 hy).1;simpa using this
   obtain rfl:j=0:=by omega
   simp at hy;subst hy;rw[KbF,KaT];exact⟨DF (by omega),h6 i β n hx⟩)
 rwa[SW]at this
theorem DG{γ k cap:Nat}{bd:Nat->Option Nat}{an:HP}{b ty:Nat}{cur:Array Value}(hB:b9 γ=true)(h1:an γ=some ⟨1,ty,[],false⟩)(h2:bd γ=some b)(h3:w.heap[b]? =some (.cells cur ty (0,0)))(h4:cur.size=cap)(h5:cap<=maxLen)(h6:k<=cap):
  Qt C bd an w (.aM γ 0 k) (.slice (some ⟨b,0,none⟩) k cap):=
 ⟨hB,⟨1,ty,[],false⟩,b,cap,h1,h2,by simp,⟨cur,ty,h3,by simp[h4]⟩,by omega,h6⟩
theorem Q9h{o:Oper}{t e:TypeId}{len n by_:Nat}{z:PV}{parts:Array (Nat×Operand)}{ps:List aO}{d:Nat}{Q:Exit->Act->World->Prop}(ho:o.op= .buildSlice t len parts)(hd:o.dst=some d)(ar:d<C.N)(aU:a.defers=[])(h:aI C ρ fr hp a.tmps w)
  (hu:C.P.underlying t=some (.slice e)) (hz:jJ C.P e=some (n,by_,z)) (pM:parts.toList.map (·.1)=List.range len) (jV:z.cells.length=n) (fW:(parts.toList.mapM fun p=>bY p.2)=some ps)
  (UH:oy (ps.map (ev fr))=true) (hv:TX n e (ps.map (ev fr)) d fr hp K):o.wp C.P a w (cM C true w K) Q:=by
 obtain⟨rfl,hK⟩:=hv;obtain⟨ti,zv,i1,i2,i3,i4,i5⟩:=rB hz;obtain⟨m1,m2⟩:=oo fW;obtain⟨u,rfl⟩:∃u,ps=[u]:=by
  match ps,UH with
  | [],hb=>simp[oy]at hb
  | [u],_=>exact⟨u,rfl⟩
  |u::v::ps,hb=>simp[oy]at hb
 have fL:lE (ev fr u)=true:=by simpa[oy]using UH
 obtain⟨β,m,qH,al⟩:=Gq fL;obtain⟨⟨i,x⟩,vW⟩:∃p,parts.toList=[p]:=by
  match hq:parts.toList with
  | []=>rw[hq]at m1;simp at m1
  | [p]=>exact⟨p,rfl⟩
  |p::q::r=>rw[hq]at m1;simp at m1
 rw[vW]at pM m2;obtain rfl:len=1:=by have:=congrArg List.length pM;simpa using this.symm
 obtain rfl:i=0:=by simpa using pM
 have hxu:bY x=some u:=by obtain⟨x',aS,vV⟩:=m2 0 u rfl;simp at aS;subst aS;exact vV
 have hx:=cC h hxu;rw[qH]at hx;have tZ:eG ρ hp w β 0 m (a.eval x):=hx;obtain⟨ad,m',c',hvx⟩:=tZ.slice;have hN:=C.hN;have rX:cX d<5000000:=by unfold cX;omega
 have hB:b9 (cX d)=true:=DF (by unfold cX;omega);have hY:bG (cX d)=false:=HC (by unfold cX;omega);obtain⟨hs,he⟩:=h.wg (cX d) hY wQ ⟨1,e,[],false⟩ #[a.eval x] 1 _ (.inl rfl) (by simp) (by simp) (by rw[lB];omega) (by simp) (by simp) (by simp);have eY:=hs.Fc (cur:= #[a.eval x]) (cap:=1) (xs:=[.ax β 0 m]) hB (by simp[Qy]) (gI _ _ _) (mh w _) (by simp) (by simp) (by rw[lB];omega) (by simp[lE,al]) (fun i du n' hi=>by
  match i,hi with
  |0,hi=>simp at hi;obtain⟨rfl,rfl⟩:=hi;exact wR h (Ext.alloc w _ _) (by omega) tZ
  |i+1,hi=>simp at hi)
 rw[Kbj,Kbu,qH]at hK;refine jq (v:=.slice (some ⟨w.heap.size,0,none⟩) 1 1) ?_ (cM.kF hd ar aU eY (fun _=>he) (DG hB (by simp[Qy]) (gI _ _ _) (mh w _) (by simp) (by rw[lB];omega) (by omega)) hK);unfold execOp;have AZ:(parts.map fun x=>match x with|(i,x)=>(i,a.eval x)).toList=[(0,a.eval x)]:=by simp[vW]
 simp only[ho,Instr.buildSlice,Kan,ij hu,Kaj,kH (show ee C.P e=some 1 by simp[ee,i1,i3]),AZ];simp[Ka0,Kan,ux i1 i2,Instr.fill,hvx,Value.cells,newRow,show Array.range 1= #[0]from rfl]
theorem Yt{o:Oper}{t:TypeId}{n:Nat}{x:Operand}{cs:List PV}{d:Nat}{Q:Exit->Act->World->Prop}(ho:o.op= .box t x)(hd:o.dst=some d)(ar:d<C.N)(aU:a.defers=[])(h:aI C ρ fr hp a.tmps w)
  (hx:Qt C ρ hp w (.aT cs) (a.eval x)) (hv:tq n t cs d fr hp K):o.wp C.P a w (cM C true w K) Q:=by
 obtain⟨⟨hlen,hn,hU,qQ⟩,hK⟩:=hv;obtain⟨vs,ex,fM,jz⟩:=hx;have hN:=C.hN;have hB:b9 (cX d)=true:=DF (by unfold cX;omega);have hY:bG (cX d)=false:=HC (by unfold cX;omega);obtain⟨hs,he⟩:=h.wg (cX d) hY wQ ⟨n,t,[],false⟩ vs 1 _ (.inl rfl) (by simp;omega) (by simp) (by rw[lB];omega) hn (by simp) (by simp);have cH:∀(i:Nat)(y:PV),cs[i]? =some y->cT C (rb ρ (cX d) (some w.heap.size)) (Qy hp (cX d) ⟨n,t,[],false⟩) (w.alloc (.cells vs t)) y (vs.getD i undef):=fun i y hi=>by
  have hm:=Kai hi;have Vq:∀β∈y.dP,β≠cX d:=fun β al e=>by have:=Kax.1 qQ y hm;subst e;simp[al]at this
  refine(jz i y hi).move ⟨fun b hb _=>Co w _ b hb,fun b hb hX=>?_,by rw[Cp];omega⟩ (fun β al=>⟨ov (Vq β al),fun hb hh=>⟨hb,by simp[Qy,Vq β al,hh],rfl,Kac _,fun b cap _ hc=>mj (Co w _ b (my hc)) hc⟩⟩);rintro(bp|⟨γ,hg,h1,h2,h3⟩)
  ·exact hX (.inl bp)
  ·by_cases ak:γ=cX d
   ·subst ak;rw[gI]at h3;cases h3;omega
   ·refine hX (.inr ⟨γ,hg,?_,h2,by rwa[ov ak]at h3⟩);simpa[Qy,ak]using h1
 have:=hs.MK (w':=w.alloc (.cells vs t)) (γ:=cX d) (b:=w.heap.size) (e:=n) (ty:=t) (xs':=[.aT cs]) (cur':=vs) (cap:=1) hB hn (show Qy hp (cX d) ⟨n,t,[],false⟩ (cX d)=some ⟨n,t,[],false⟩by simp[Qy]) rfl rfl rfl rfl (gI _ _ _) (Ext.refl _ _) (fun _ _ h=>h) (mh w _) (by omega) (by simp) (by rw[lB];omega)
  (fun i x hx=>by
   match i,hx with
   |0,hx=>simp at hx;subst hx;exact hlen
   |i+1,hx=>simp at hx)
  (fun i x hx j y hy=>by
   match i,hx with
   |0,hx=>simp at hx;subst hx;rw[KbH,Kbc];exact cH j y hy
   |i+1,hx=>simp at hx)
 rw[SW]at this;refine jq (v:=.pointer (some ⟨w.heap.size,0,none⟩)) (w':=w.alloc (.cells vs t)) ?_ (cM.kF (p:=.np (cX d) 0 0) hd ar aU this (fun _=>he) ⟨hB,w.heap.size,⟨n,t,[],false⟩,gI _ _ _,by simp[Qy],by simp⟩ hK);unfold execOp;simp only[ho,Instr.box,newVar,newRow,ex,Value.cells];simp
theorem Yu{o:Oper}{t:TypeId}{n:Nat}{x:Operand}{px:PV}{d:Nat}{Q:Exit->Act->World->Prop}(ho:o.op= .box t x)(hd:o.dst=some d)(ar:d<C.N)(aU:a.defers=[])(h:aI C ρ fr hp a.tmps w)
  (hx:Qt C ρ hp w px (a.eval x)) (hv:fR n t px d fr hp K):o.wp C.P a w (cM C true w K) Q:=
 Q9d ho hd ar aU h hx (fun _ e hb=>Yt ho hd ar aU h (e▸hx) hb) hv
theorem Yv {o:Oper} {s x:Operand} {t e:TypeId} {n by_:Nat} {z:PV} {ps px:PV} {d:Nat} {Q:Exit->Act->World->Prop}
  (ho:o.op= .call { callee:=.builtin .append,args:= #[s,x],argTypes:= #[t,t] }) (hd:o.dst=some d) (ar:d<C.N) (aU:a.defers=[]) (h:aI C ρ fr hp a.tmps w)
  (hu:C.P.underlying t=some (.slice e)) (hz:jJ C.P e=some (n,by_,z)) (jV:z.cells.length=n) (hs:Qt C ρ hp w ps (a.eval s)) (hx:Qt C ρ hp w px (a.eval x))
  (hv:xy n by_ e ps px d fr hp K):o.wp C.P a w (cM C false w K) Q:=by
 obtain⟨ti,zv,i1,i2,i3,i4,i5⟩:=rB hz;have hN:=C.hN;have rX:cX d<5000000:=by unfold cX;omega
 have Ug:b9 (cX d)=true:=DF (by unfold cX;omega);have hYd:bG (cX d)=false:=HC (by unfold cX;omega);unfold xy at hv;split at hv
 ·rename_i δ;split at hv
  ·rename_i M6 ty' y am9;obtain⟨rfl,hyr,rfl,hv⟩:=hv;obtain⟨β,m,rfl,al⟩:=Gq hyr;obtain⟨_,apE,b,cap,gδ,rδ,ex,_,_,_⟩:=hx;have AK:=h.eQ M6;rw[am9]at AK;obtain⟨_,_,b2,eU,cur,Am,q1,q2,q3,q4,q5,q6,q7,q8,q9,_,ig⟩:=AK;rw[gδ]at q2;cases q2;rw[rδ]at q1;cases q1;rw[KbH]at ex;have fj:=ig 0 _ rfl 0 (.ax β 0 m) rfl;simp only[KbH,Kbc]at fj;have tZ:eG ρ hp w β 0 m (cur.getD 0 undef):=fj.2;obtain⟨ad,m',c',Eu⟩:=tZ.slice;have h0s:0<cur.size:=by simp at q8;omega
   have pz:w.cell? ⟨b,0,none⟩=some (cur.getD 0 undef):=lz q6 h0s;obtain⟨u,Bg⟩:∃u,cur.getD 0 undef=u:=⟨_,rfl⟩
   rw[Bg]at tZ Eu pz;have yc:∀(j:Nat)(v:Value),[u][j]? =some v->w.cell? ((⟨b,0,none⟩:Addr).add j)=some v:=fun j v hj=>by
    have hj0:j<1:=by have:=(Kad.1 hj).1;simpa using this
    obtain rfl:j=0:=by omega
    simp at hj;subst hj;rw[Kby,KaT];exact pz
   have sw:zv.cells.size=1:=by have:=(ri (w:=w) (X:=aH C ρ hp) i5).cells.1;omega
   split at hv
   ·obtain⟨hb,hK⟩:=hv;have es:=hs.wh;have bm:=run_append_nil (P:=C.P) w t o.type e ti zv hu i1 i2 ⟨b,0,none⟩ 1 cap [u] (by simp[i3]) yc (by omega) (by omega) (by rw[i4];omega);have fU:=grownCap_ge w 1 0 e;have iN:=grownCap_le_maxLen w 1 0 e (by rw[lB];omega);generalize grownCap w 1 0 e=G at bm fU iN;have jz:([u].toArray++Builtin.zeroCells zv.cells (G-1)).size=G:=by simp[size_zeroCells,sw];omega
    have amK:([u].toArray++Builtin.zeroCells zv.cells (G-1)).size=G*1:=by omega
    have ia:([u].toArray++Builtin.zeroCells zv.cells (G-1)).getD 0 undef=u:=by rw[kI,if_pos (by simp),uD];rfl
    obtain⟨gj,_⟩:=h.wg (cX d) hYd wQ ⟨1,e,[],false⟩ ([u].toArray++Builtin.zeroCells zv.cells (G-1)) G _ (.inr rfl) amK (by simp) iN (by simp) (by simp) (by simp);have eY:=gj.Fc (cap:=G) (xs:=[.ax β 0 m]) Ug (by simp[Qy]) (gI _ _ _) (mh w.drew _) jz (by simpa using fU) iN (by simp[lE,al]) (fun i du n' hi=>by
     match i,hi with
     |0,hi=>simp at hi;obtain⟨rfl,rfl⟩:=hi;rw[ia];exact wR h ((Ext.drew w _).trans (Ext.alloc w.drew _ _)) (by omega) tZ
     |i+1,hi=>simp at hi)
    exact jq (sG ho es ex bm) (cM.kF hd ar aU eY (by simp) (DG Ug (by simp[Qy]) (gI _ _ _) (mh w.drew _) jz iN fU) hK)
   ·rename_i γ k;split at hv
    ·rename_i bB oh xs am8;obtain⟨⟨rfl,aqk,hY,rfl,rfl,EW,LL,AV⟩,⟨hb,ak,lP⟩,hK⟩:=hv;obtain⟨hB,LK,b1,DR,g1,g2,es,g4,g5,g6⟩:=hs;rw[ak]at g1;cases g1;have AK:=h.eQ bB;rw[am8]at AK;obtain⟨_,_,Il,aw,kR,rQ,p1,p2,p3,p4,p5,p6,p7,p8,p9,_,p11⟩:=AK;rw[ak]at p2;cases p2;rw[g2]at p1;cases p1;rw[KbH]at es;obtain⟨apo,aqn,d1,d2⟩:=g4;rw[p6]at d1;cases d1;rw[p4,KbF,Kbc]at d2;rw[KbF]at p7;obtain rfl:rQ=DR:=by omega
     have Vv:∀(i du n':Nat),xs[i]? =some (.ax du 0 n')->eG ρ hp w du 0 n' (kR.getD i undef):=fun i du n' hi=>by have:=p11 i _ hi 0 (.ax du 0 n') rfl;simp only[KbF,KaT]at this;exact this.2
     have Vx:∀(i du n':Nat),xs[i]? =some (.ax du 0 n')->du≠bB:=fun i du n' hi=>by have:=Kax.1 EW _ (Kai hi);simp[lE]at this;omega
     have cu:(xs++[PV.ax β 0 m]).all lE=true:=by rw[List.all_append,EW];simp[lE,al]
     have bk:=(h.own bB hb ak).dS;rw[g2]at bk;obtain⟨o1,o2,_⟩:=bk;replace o1:=Ctx.DS o1 hY;have jB:∀u'∈[u],u'.oneCell'=true:=by intro u' iV;simp at iV;subst iV;rw[Eu];rfl
     by_cases yg:xs.length+1<=rQ
     ·have bm:=run_append_room (P:=C.P) w t o.type oh ti hu i1 b1 xs.length rQ kR p6 ⟨b,0,none⟩ 1 cap [u] (by simp[i3]) yc jB yg (by simp[i3];omega);rw[i3,KbF]at bm;have oH:xs.length+[u].length<=kR.size:=by simp;omega
      have ku:=yN (cur:=kR) (p:=xs.length) (cs:=[u]) oH;have gl:=fun k hk=>yM (cur:=kR) (p:=xs.length) (cs:=[u]) (k:=k) oH hk;generalize hW:(kR.toList.take xs.length++[u]++kR.toList.drop (xs.length+[u].length)).toArray=W at bm ku gl;have hE:Ext (fun c=>ρ bB=some c/\∃hb,hp bB=some hb/\hb.fz=false) w (w.setRow b1 W):=(yP w b1 W).mono (fun i _ hi=>⟨hi▸g2,hb,ak,lP⟩);have L4:(w.setRow b1 W).heap[b1]? =some (.cells W oh (0,0)):=setRow_heap w b1 kR W oh _ p6;have gj:=h.yv (w':=w.setRow b1 W) bB (some b1) ⟨1,oh,[],false⟩ hY wQ hE
       (fun c hc=>by cases hc;exact⟨o1,by simpa using o2,.inr ⟨g2,hb,ak,lP⟩⟩) (by simp) (by simp) (by simp)
       (fun c hc=>by cases hc;exact⟨W,rQ,L4,by simp[ku];omega,by simp,p9,by simp⟩)
      have eY:=gj.Fc (cap:=rQ) (xs:=xs++[.ax β 0 m]) hB (by simp[Qy]) (gI _ _ _) L4 (by omega) (by simpa using yg) p9 cu (fun i du n' hi=>by
       rw[Ka1]at hi;by_cases dm:i<xs.length
       ·rw[if_pos dm]at hi;rw[gl i (by omega),if_neg (by omega)];exact wR h hE (Vx i du n' hi) (Vv i du n' hi)
       ·rw[if_neg dm]at hi;have pE:i-xs.length<1:=by have:=(Kad.1 hi).1;simpa using this
        obtain rfl:i=xs.length:=by omega
        rw[KbP]at hi;simp at hi;obtain⟨rfl,rfl⟩:=hi;rw[gl _ (by omega),if_pos (by simp),KbP];exact wR h hE (by omega) tZ)
      exact jq (sG ho es ex bm) (cM.kF hd ar aU eY (by simp) (DG hB (by simp[Qy]) (gI _ _ _) L4 (by omega) p9 yg) hK)
     ·have fy:(kR.toList.take xs.length).length=xs.length:=by simp;omega
      have holds:∀(j:Nat)(v:Value),(kR.toList.take xs.length)[j]? =some v->w.cell? ((⟨b1,0,none⟩:Addr).add j)=some v:=fun j v hj=>by
       have fJ:j<xs.length:=by have:=(Kad.1 hj).1;omega
       rw[KaJ fJ]at hj;rw[Kby,Kbc,lz p6 (by omega),Cn kR j v hj]
      have bm:=run_append_grow (P:=C.P) w t o.type oh ti zv hu i1 i2 ⟨b1,0,none⟩ xs.length rQ (kR.toList.take xs.length) (by rw[fy,i3,KbF]) holds ⟨b,0,none⟩ 1 cap [u] (by simp[i3]) yc
       (by omega) (by omega) (growslice_fits (by omega) (by rw[i4];exact LL))
      have fU:=grownCap_ge w (xs.length+1) rQ oh;have iN:=grownCap_le_maxLen w (xs.length+1) rQ oh (by rw[lB];exact AV);generalize grownCap w (xs.length+1) rQ oh=G at bm fU iN;have jz:((kR.toList.take xs.length).toArray++[u].toArray++Builtin.zeroCells zv.cells (G-(xs.length+1))).size=G:=by simp only[Kci,KbL,fy,size_zeroCells,sw,KaX,Kbh];omega
      have en:∀i,i<xs.length+1->((kR.toList.take xs.length).toArray++[u].toArray++Builtin.zeroCells zv.cells (G-(xs.length+1))).getD i undef=if i<xs.length then kR.getD i undef else u:=fun i hi=>by
       rw[kI,if_pos (by simp only[Kci,KbL,fy,KaX,Kbh];omega),kI,KbL,fy];by_cases dm:i<xs.length
       ·rw[if_pos dm,if_pos dm,uD,Kao,KaJ dm];simp[KaZ]
       ·rw[if_neg dm,if_neg dm,uD,show i-xs.length=0 by omega];rfl
      generalize hW:(kR.toList.take xs.length).toArray++[u].toArray++Builtin.zeroCells zv.cells (G-(xs.length+1))=W at bm jz en;obtain⟨gj,_⟩:=h.wg bB hY wQ ⟨1,oh,[],false⟩ W G _ (.inr rfl) (by simp[jz]) (by simp) iN (by simp) (by simp) (by simp);have hE:Ext (fun c=>ρ bB=some c/\∃hb,hp bB=some hb/\hb.fz=false) w (w.drew.alloc (.cells W oh)):=(Ext.drew w _).trans (Ext.alloc w.drew _ _);have eY:=gj.Fc (cap:=G) (xs:=xs++[.ax β 0 m]) hB (by simp[Qy]) (gI _ _ _) (mh w.drew _) jz (by simpa using fU) iN cu (fun i du n' hi=>by
       rw[Ka1]at hi;by_cases dm:i<xs.length
       ·rw[if_pos dm]at hi;rw[en i (by omega),if_pos dm];exact wR h hE (Vx i du n' hi) (Vv i du n' hi)
       ·rw[if_neg dm]at hi;have pE:i-xs.length<1:=by have:=(Kad.1 hi).1;simpa using this
        obtain rfl:i=xs.length:=by omega
        rw[KbP]at hi;simp at hi;obtain⟨rfl,rfl⟩:=hi;rw[en _ (by omega),if_neg (by omega)];exact wR h hE (by omega) tZ)
      exact jq (sG ho es ex bm) (cM.kF hd ar aU eY (by simp) (DG hB (by simp[Qy]) (gI _ _ _) (mh w.drew _) jz iN fU) hK)
    ·exact hv.elim
   ·exact hv.elim
  ·exact hv.elim
 ·exact hv.elim
theorem Q9i{o:Oper}{t e:TypeId}{len n by_:Nat}{z:PV}{parts:Array (Nat×Operand)}{ps:List aO}{d:Nat}{Q:Exit->Act->World->Prop}(ho:o.op= .buildSlice t len parts)(hd:o.dst=some d)(ar:d<C.N)(aU:a.defers=[])(h:aI C ρ fr hp a.tmps w)
  (hu:C.P.underlying t=some (.slice e)) (hz:jJ C.P e=some (n,by_,z)) (pM:parts.toList.map (·.1)=List.range len) (VG:len*n<=16777216) (jV:z.cells.length=n) (fW:(parts.toList.mapM fun p=>bY p.2)=some ps)
  (hv:nM n e (ps.map (ev fr)) d fr hp K):o.wp C.P a w (cM C true w K) Q:=by
 unfold nM at hv;split at hv
 ·rename_i hb;exact Q9h ho hd ar aU h hu hz pM jV fW hb hv
 ·exact ab4 ho hd ar aU h hu hz pM VG jV fW hv
theorem Yw{o:Oper}{s x:Operand}{t e:TypeId}{n by_:Nat}{z:PV}{ps px:PV}{d:Nat}{Q:Exit->Act->World->Prop}
  (ho:o.op= .call { callee:=.builtin .append,args:= #[s,x],argTypes:= #[t,t] }) (hd:o.dst=some d) (ar:d<C.N) (aU:a.defers=[]) (h:aI C ρ fr hp a.tmps w)
  (hu:C.P.underlying t=some (.slice e)) (hz:jJ C.P e=some (n,by_,z)) (jV:z.cells.length=n) (hs:Qt C ρ hp w ps (a.eval s)) (hx:Qt C ρ hp w px (a.eval x))
  (hv:iH n by_ e ps px d fr hp K):o.wp C.P a w (cM C false w K) Q:=
 Q9f ho hd ar aU h hu hz jV hs hx (fun _ hn=>Yv ho hd ar aU h hu hz jV hs hx hn) hv
end Go.FW
namespace Go.FW
open Go
variable {C : Ctx} {ρ : Nat -> Option Nat} {fr : Fr} {hp : HP} {w : World} {a : Act} {K : Qg}
theorem Xh {P : Program} {g : FuncId} (hg : (P.funcs[g]?).any (fun fn => fn.body.isSome && fn.name != "runtime.NumGoroutine") = true) (args : Array Value) (w : World) :
  (callFunc g args).run P w= .ok (.enter g args) w:=by
 cases hf:P.funcs[g]? with
 |none=>simp[hf]at hg
 |some fn=>
  simp only[hf,Option.any_some,Kat,bne_iff_ne,ne_eq]at hg;obtain⟨h1,h2⟩:=hg;have h3:fn.body.isNone=false:=by cases hb:fn.body<;>simp[hb]at h1⊢
  have h4 : (fn.name == "runtime.NumGoroutine") = false := by simpa using h2
  have hn:¬(fn.body=none):=fun he=>by simp[he]at h1
  unfold callFunc;simp[hf,h2,hn]
theorem Yx{o:Oper}{f:Operand}{args:Array Operand}{ts:Array TypeId}{pf:aO}{c8:List aO}{pr:Bool}{Q:Exit->Act->World->Prop}
  (ho:o.op= .call { callee:=.value f,args:=args,argTypes:=ts }) (ar:∀d,o.dst=some d->d<C.N) (aU:a.defers=[]) (h:aI C ρ fr hp a.tmps w)
  (hf:bY f=some pf) (dM:args.toList.mapM bY=some c8) (hv:mC C pr (ev fr pf) (c8.map (ev fr)) o.dst fr hp K):o.wp C.P a w (cM C pr w K) Q:=by
 have xW:=cC h hf;unfold mC at hv;split at hv
 ·rename_i g first cap qH
  rw[qH]at xW;obtain⟨hg,amF⟩:=hv;obtain⟨fv,cv,ef,h1,h2,h3,h4⟩:=xW;obtain⟨m1,m2⟩:=G4 h dM;have anE:(args.toList.map a.eval).toArray=args.map a.eval:=Array.ext' (by simp);rw[anE]at m2;have hc:=amF ρ a.tmps w fv cv (args.map a.eval) ar h h1 h2 (by simpa using m1.symm) h3 h4 m2;have hex:(execOp a.eval o).run C.P w= .ok (.enter g (fv++args.map a.eval++cv)) w:=by unfold execOp;simp only[ho,resolve,Kan,Ka0,Kaj,ef,Deferred.ofValue,invoke];rw[Xh hg]
  unfold Oper.wp;rw[hex];refine hc.mono fun e w' an=>?_;obtain⟨v,ay,an,rfl,hs,hx,hK⟩:=an;refine⟨by rw[uB];exact aU,⟨ay,an,?_,hK⟩,hx⟩;cases hd:o.dst with
  |some d=>rw[hd]at hs;exact hs
  |none=>rw[hd]at hs;exact hs
 ·exact hv.elim
theorem sP{α:Type}{xs:Array α}{l:List α}(h:xs.toList=l):xs=l.toArray:=by subst h;simp
theorem zn{P:Program}{t e:TypeId}(h:rH P t=some e):P.underlying t=some (.slice e):=by
 unfold rH at h;split at h
 ·rename_i hq;cases h;exact hq
 ·cases h
theorem R2{dr:Bool}{o:Oper}(cw:(fN C.P dr o).cls=0)(ar:∀d,o.dst=some d->d<C.N)(h:aI C ρ fr hp a.tmps w)(hv:bo C (fN C.P dr o) fr hp K):bh C ρ o a w K:=by
 unfold fN at cw hv;cases ae:mo C.P dr o with
 |none=>rw[ae]at hv;exact hv.elim
 | some so=>
  rw[ae]at cw hv;simp only[KbT]at cw hv;unfold mo at ae;split at ae
  case h_1 x d hop hd=>simp only[Kaa]at ae;obtain⟨y,hy,rfl⟩:=ae;exact Nf (.inl hop) hd (ar d hd) h (cC h hy) hv
  case h_2 x d hop hd=>simp only[Kaa]at ae;obtain⟨y,hy,rfl⟩:=ae;exact Nf (.inr hop) hd (ar d hd) h (cC h hy) hv
  case h_3 c x y d hop hd=>
   simp only[Kab,Kaa]at ae;obtain⟨pc,hc,px,hx,py,hy,rfl⟩:=ae;exact Yo hop hd (ar d hd) h (cC h hc) (cC h hx) (cC h hy) hv
  case h_4 op t x y t2 d hop hd=>
   simp only[Kab,Kaa]at ae;obtain⟨px,hx,py,hy,rfl⟩:=ae;unfold yC at hv;split at hv
   ·rename_i ng vU;split at vU
    ·rename_i eY;exact ZC hop vU eY hd (ar d hd) h (cC h hx) (cC h hy) hv
    ·cases vU
   split at hv
   ·rename_i ng vU;split at vU
    ·rename_i eY;exact ZA hop vU eY hd (ar d hd) h (cC h hx) (cC h hy) hv
    ·cases vU
   refine Zv hop hd (ar d hd) h (cC h hx) (cC h hy) (fun hb=>?_) hv;split at hb
   ·assumption
   ·cases hb
  case h_5 op t x d hop hd=>simp only[Kaa]at ae;obtain⟨y,hy,rfl⟩:=ae;exact abx hop hd (ar d hd) h (cC h hy) hv
  case h_6 s t x d hop hd=>
   split at ae
   ·rename_i ds k hS hT;simp only[Kaa]at ae;obtain⟨y,hy,rfl⟩:=ae;exact Yn hop hd (ar d hd) h hS hT (cC h hy) hv
   ·cases ae
  case h_7 t x i d hop hd=>
   simp only[Kab]at ae;obtain⟨px,hx,pi,hi,ae⟩:=ae;split at ae
   ·rename_i e hu;simp only[Kaa]at ae;obtain⟨n,hn,rfl⟩:=ae;exact ZD hop hd (ar d hd) h hu hn (cC h hx) (cC h hi) hv
   ·rename_i len e hu;simp only[Kaa]at ae;obtain⟨n,hn,rfl⟩:=ae;exact Yp hop hd (ar d hd) h hu hn (cC h hx) (cC h hi) hv
   ·cases ae
  case h_8 t x i d hop hd=>
   simp only[Kab]at ae;obtain⟨px,hx,pi,hi,ae⟩:=ae;split at ae
   ·rename_i len e hu;simp only[Kab,Kaa]at ae;obtain⟨n,hn,ag,jP,rfl⟩:=ae;exact Q9b hop hd (ar d hd) h hu hn jP (cC h hx) (cC h hi) hv
   ·rename_i hu;cases ae;exact Q9a hop hd (ar d hd) h hu (cC h hx) (cC h hi) hv
   ·cases ae
  case h_9 t x j d hop hd=>
   simp only[Kab]at ae;obtain⟨px,hx,ae⟩:=ae;split at ae
   ·rename_i fs hu;simp only[Kab]at ae;obtain⟨f,hf,n,hn,ae⟩:=ae;split at ae
    ·cases ae
    ·rename_i lV;simp only[KaB]at ae;subst ae;exact ZE hop hd (ar d hd) h hu hf hn lV (cC h hx) hv
   ·cases ae
  case h_10 t x j d hop hd=>
   simp only[Kab]at ae;obtain⟨px,hx,ae⟩:=ae;split at ae
   ·rename_i fs hu;simp only[Kab,Kaa]at ae;obtain⟨f,hf,n,hn,ag,jP,rfl⟩:=ae;exact Yq hop hd (ar d hd) h hu hf hn jP (cC h hx) hv
   ·cases ae
  case h_17 t parts d hop hd=>
   simp only[Kab,Kaa]at ae;obtain⟨⟨n,by_,z⟩,hz,ps,fW,rfl⟩:=ae;simp only[bo,kn]at hv;split at hv
   ·exact Ys hop hd (ar d hd) h hz fW hv
   ·exact Q9c hop hd (ar d hd) h hz fW hv
  case h_18 t x lo hi m d hop hd=>
   simp only[Kab,Kaa]at ae;obtain⟨px,hx,Ff,oJ,By,tT,pm,hm,e,he,n,hn,rfl⟩:=ae;have hu:C.P.underlying t=some (.slice e):=by
    unfold rH at he;split at he
    ·rename_i hq;cases he;exact hq
    ·cases he
   exact abB hop hd (ar d hd) h hu hn (cC h hx) oJ tT hm hv
  case h_19 x i d hop hd=>simp only[Kaa]at ae;obtain⟨y,hy,rfl⟩:=ae;exact ZB hop hd (ar d hd) h (cC h hy) hv
  case h_20 f first cap d hop hd=>
   simp only[Kab,Kaa]at ae;obtain⟨pf,h1,pc,h2,rfl⟩:=ae;exact abC hop hd (ar d hd) h h1 h2 hv
  case h_11=>simp only[Kab,Kaa]at ae;obtain⟨_,_,_,_,_,_,rfl⟩:=ae;cases cw
  case h_12=>simp only[Kab,Kaa]at ae;obtain⟨_,_,_,_,_,_,rfl⟩:=ae;cases cw
  case h_13=>simp only[Kab,Kaa]at ae;obtain⟨_,_,_,_,rfl⟩:=ae;cases cw
  case h_14=>simp only[Kaa]at ae;obtain⟨_,_,rfl⟩:=ae;cases cw
  case h_15=>simp only[Kab,Kaa]at ae;obtain⟨_,_,_,_,_,_,_,_,rfl⟩:=ae;cases cw
  case h_16=>
   simp only[Kab]at ae;obtain⟨_,_,_,_,ae⟩:=ae;split at ae
   ·simp only[Kaa]at ae;obtain⟨_,_,rfl⟩:=ae;cases cw
   ·cases ae
  case h_21 hop=>simp only[Kaa]at ae;obtain⟨y,hy,rfl⟩:=ae;exact Yr hop ar h (cC h hy) hv
  case h_22 c hop=>
   obtain⟨callee,args,ts⟩:=c;split at ae
   ·simp only[Kab,Kaa]at ae;obtain⟨_,_,_,_,rfl⟩:=ae;cases cw
   ·rename_i x t d pq dM lf hd;obtain rfl:args= #[x]:=sP dM;obtain rfl:ts= #[t]:=sP lf;cases pq;split at ae
    ·rename_i hs;simp only[Kaa]at ae;obtain⟨y,hy,rfl⟩:=ae;exact Zy hop hd (ar d hd) h (cC h hy) hs hv
    simp only[Kab,Kaa]at ae;obtain⟨e,he,y,hy,rfl⟩:=ae;exact Zx hop hd (ar d hd) h (cC h hy) (zn he) hv
   ·rename_i x y d pq dM hd;simp only[Kab,Kaa]at ae;obtain⟨px,hx,py,hy,rfl⟩:=ae;obtain rfl:args= #[x,y]:=sP dM;cases pq;exact abv hop hd (ar d hd) h (cC h hx) (cC h hy) hv
   ·rename_i x y d pq dM hd;simp only[Kab,Kaa]at ae;obtain⟨px,hx,py,hy,rfl⟩:=ae;obtain rfl:args= #[x,y]:=sP dM;cases pq;exact abw hop hd (ar d hd) h (cC h hx) (cC h hy) hv
   ·simp only[Kab]at ae;obtain⟨_,_,_,_,_,_,ae⟩:=ae;split at ae
    ·simp only[Kab]at ae;obtain⟨_,_,ae⟩:=ae;split at ae
     ·cases ae;cases cw
     ·cases ae
    ·cases ae
   ·simp only[Kab]at ae;obtain⟨_,_,_,_,_,_,ae⟩:=ae;split at ae
    ·simp only[Kaa]at ae;obtain⟨_,_,rfl⟩:=ae;cases cw
    ·cases ae
   ·cases ae
  case h_23=>cases ae
theorem R3{dr:Bool}{o:Oper}(cw:(fN C.P dr o).cls=1)(ar:∀d,o.dst=some d->d<C.N)(h:aI C ρ fr hp a.tmps w)(hv:bo C (fN C.P dr o) fr hp K):zW C ρ o a w K:=by
 unfold fN at cw hv;cases ae:mo C.P dr o with
 |none=>rw[ae]at hv;exact hv.elim
 | some so=>
  rw[ae]at cw hv;simp only[KbT]at cw hv;unfold mo at ae;split at ae
  case h_11 t x d hop hd=>
   simp only[Kab,Kaa]at ae;obtain⟨px,hx,n,hn,ag,jP,rfl⟩:=ae;exact abA hop hd (ar d hd) h hn jP (cC h hx) hv
  case h_1=>simp only[Kaa]at ae;obtain⟨_,_,rfl⟩:=ae;cases cw
  case h_2=>simp only[Kaa]at ae;obtain⟨_,_,rfl⟩:=ae;cases cw
  case h_3=>simp only[Kab,Kaa]at ae;obtain⟨_,_,_,_,_,_,rfl⟩:=ae;cases cw
  case h_4=>simp only[Kab,Kaa]at ae;obtain⟨_,_,_,_,rfl⟩:=ae;unfold yC at cw;split at cw<;>first|(cases cw;done)|(split at cw<;>cases cw)
  case h_5=>simp only[Kaa]at ae;obtain⟨_,_,rfl⟩:=ae;cases cw
  case h_6=>split at ae<;>first|cases ae|(simp only[Kaa]at ae;obtain⟨_,_,rfl⟩:=ae;cases cw)
  case h_7=>
   simp only[Kab]at ae;obtain⟨_,_,_,_,ae⟩:=ae;split at ae<;>first|cases ae|(simp only[Kaa]at ae;obtain⟨_,_,rfl⟩:=ae;cases cw)
  case h_8=>
   simp only[Kab]at ae;obtain⟨_,_,_,_,ae⟩:=ae;split at ae<;>first|(simp only[Kab,Kaa]at ae;obtain⟨_,_,_,_,rfl⟩:=ae;cases cw)|(cases ae;done)|(cases ae;cases cw)
  case h_9=>
   simp only[Kab]at ae;obtain⟨_,_,ae⟩:=ae;split at ae
   ·simp only[Kab]at ae;obtain⟨_,_,_,_,ae⟩:=ae;split at ae<;>first|(cases ae;done)|(simp only[KaB]at ae;subst ae;cases cw)
   ·cases ae
  case h_10=>
   simp only[Kab]at ae;obtain⟨_,_,ae⟩:=ae;split at ae<;>first|(cases ae;done)|(simp only[Kab,Kaa]at ae;obtain⟨_,_,_,_,_,_,rfl⟩:=ae;cases cw)
  case h_12=>simp only[Kab,Kaa]at ae;obtain⟨_,_,_,_,_,_,rfl⟩:=ae;cases cw
  case h_13=>simp only[Kab,Kaa]at ae;obtain⟨_,_,_,_,rfl⟩:=ae;cases cw
  case h_14=>simp only[Kaa]at ae;obtain⟨_,_,rfl⟩:=ae;cases cw
  case h_15=>simp only[Kab,Kaa]at ae;obtain⟨_,_,_,_,_,_,_,_,rfl⟩:=ae;cases cw
  case h_16=>
   simp only[Kab]at ae;obtain⟨_,_,_,_,ae⟩:=ae;split at ae
   ·simp only[Kaa]at ae;obtain⟨_,_,rfl⟩:=ae;cases cw
   ·cases ae
  case h_17=>simp only[Kab,Kaa]at ae;obtain⟨_,_,_,_,rfl⟩:=ae;cases cw
  case h_18=>simp only[Kab,Kaa]at ae;obtain⟨_,_,_,_,_,_,_,_,_,_,_,_,rfl⟩:=ae;cases cw
  case h_19=>simp only[Kaa]at ae;obtain⟨_,_,rfl⟩:=ae;cases cw
  case h_20=>simp only[Kab,Kaa]at ae;obtain⟨_,_,_,_,rfl⟩:=ae;cases cw
  case h_21=>simp only[Kaa]at ae;obtain⟨_,_,rfl⟩:=ae;cases cw
  case h_22=>
   split at ae
   ·simp only[Kab,Kaa]at ae;obtain⟨_,_,_,_,rfl⟩:=ae;cases cw
   ·split at ae
    ·simp only[Kaa]at ae;obtain⟨_,_,rfl⟩:=ae;cases cw
    ·simp only[Kab,Kaa]at ae;obtain⟨_,_,_,_,rfl⟩:=ae;cases cw
   ·simp only[Kab,Kaa]at ae;obtain⟨_,_,_,_,rfl⟩:=ae;cases cw
   ·simp only[Kab,Kaa]at ae;obtain⟨_,_,_,_,rfl⟩:=ae;cases cw
   ·simp only[Kab]at ae;obtain⟨_,_,_,_,_,_,ae⟩:=ae;split at ae
    ·simp only[Kab]at ae;obtain⟨_,_,ae⟩:=ae;split at ae
     ·cases ae;cases cw
     ·cases ae
    ·cases ae
   ·simp only[Kab]at ae;obtain⟨_,_,_,_,_,_,ae⟩:=ae;split at ae
    ·simp only[Kaa]at ae;obtain⟨_,_,rfl⟩:=ae;cases cw
    ·cases ae
   ·cases ae
  case h_23=>cases ae
theorem bh.wp{o:Oper}{two:Bool}{Q:Exit->Act->World->Prop}(aU:a.defers=[])(h:bh C ρ o a w K):o.wp C.P a w (cM C two w K) Q:=by obtain⟨v,hr,ay,an,hs,hK⟩:=h;exact jq (hr w) ⟨by rw[uB];exact aU,⟨ay,an,⟨ρ,hs⟩,hK⟩,fun _=>Ext.refl _ _⟩
theorem zW.wp{o:Oper}{two:Bool}{Q:Exit->Act->World->Prop}(aU:a.defers=[])(h:zW C ρ o a w K):o.wp C.P a w (cM C two w K) Q:=by obtain⟨v,b,_,hr,ay,an,hs,hK⟩:=h;exact jq (hr w rfl) ⟨by rw[uB];exact aU,⟨ay,an,⟨ρ,hs⟩,hK⟩,fun _=>Ext.refl _ _⟩
theorem cM.mono{two WD:Bool}{a':Act}{w':World}(h2:WD=true->two=true)(h:cM C two w K a' w'):cM C WD w K a' w':=⟨h.1,h.2.1,fun hh=>h.2.2 (h2 hh)⟩
theorem ab7{dr:Bool}{o:Oper}{Q:Exit->Act->World->Prop}(ar:∀d,o.dst=some d->d<C.N)(aU:a.defers=[])(h:aI C ρ fr hp a.tmps w)(hv:bo C (fN C.P dr o) fr hp K):
  o.wp C.P a w (cM C (!(fN C.P dr o).iK) w K) Q:=by
 by_cases h0:(fN C.P dr o).cls=0
 ·exact(R2 h0 ar h hv).wp aU
 by_cases h1:(fN C.P dr o).cls=1
 ·exact(R3 h1 ar h hv).wp aU
 unfold fN at h0 h1 hv⊢;cases ae:mo C.P dr o with
 |none=>rw[ae]at hv;exact hv.elim
 | some so=>
  rw[ae]at h0 h1 hv;simp only[KbT]at h0 h1 hv⊢;have fin:∀ {two:Bool},(so.iK=false->two=true)->o.wp C.P a w (cM C two w K) Q->o.wp C.P a w (cM C (!so.iK) w K) Q:=fun h2 hw=>
   Oper.wp_mono (fun a' w' hA=>hA.mono (fun hh=>h2 (by simpa using hh))) hw
  unfold mo at ae;split at ae
  case h_12 t x y hop hd=>
   simp only[Kab,Kaa]at ae;obtain⟨px,hx,py,hy,n,hn,rfl⟩:=ae;exact fin (by simp[cx.iK]) (ab6 hop hd aU h hn (cC h hx) (cC h hy) hv)
  case h_13 t x d hop hd=>
   simp only[Kab,Kaa]at ae;obtain⟨px,hx,n,hn,rfl⟩:=ae;exact fin (fun _=>rfl) (Yu hop hd (ar d hd) aU h (cC h hx) hv)
  case h_14 t d hop hd=>
   simp only[Kaa]at ae;obtain⟨⟨n,by_,z⟩,hz,rfl⟩:=ae;obtain⟨ti,zv,i1,i2,_,_,i5⟩:=rB hz;exact fin (fun _=>rfl) (XP hop hd (ar d hd) aU h i1 i2 i5 hv)
  case h_15 t l c d hop hd=>
   simp only[Kab,Kaa]at ae;obtain⟨pl,hl,pc,hc,e,he,⟨n,by_,z⟩,hz,rfl⟩:=ae;exact fin (fun _=>rfl) (ab3 hop hd (ar d hd) aU h (zn he) hz (cC h hl) (cC h hc) hv)
  case h_16 t len parts d hop hd=>
   simp only[Kab]at ae;obtain⟨e,he,⟨n,by_,z⟩,hz,ae⟩:=ae;split at ae
   ·rename_i AJ;simp only[Kaa]at ae;obtain⟨ps,fW,rfl⟩:=ae;exact fin (fun _=>rfl) (Q9i hop hd (ar d hd) aU h (zn he) hz AJ.1 AJ.2.1 AJ.2.2 fW hv)
   ·cases ae
  case h_22 c hop=>
   obtain⟨callee,args,ts⟩:=c;split at ae
   ·rename_i f pq;simp only[Kab,Kaa]at ae;obtain⟨pf,hf,c8,dM,rfl⟩:=ae;cases pq;exact fin (two:=dr&& !Pf C.P pf) (fun hh=>by simpa[cx.iK]using hh) (Yx hop ar aU h hf dM hv)
   ·split at ae
    ·simp only[Kaa]at ae;obtain⟨_,_,rfl⟩:=ae;exact absurd rfl h0
    ·simp only[Kab,Kaa]at ae;obtain⟨_,_,_,_,rfl⟩:=ae;exact absurd rfl h0
   ·simp only[Kab,Kaa]at ae;obtain⟨_,_,_,_,rfl⟩:=ae;exact absurd rfl h0
   ·simp only[Kab,Kaa]at ae;obtain⟨_,_,_,_,rfl⟩:=ae;exact absurd rfl h0
   ·rename_i s x t u d pq dM lf hd;simp only[Kab]at ae;obtain⟨ps,hs,px,hx,e,he,ae⟩:=ae;split at ae
    ·rename_i Ms;subst Ms;simp only[Kab]at ae;obtain⟨⟨n,by_,z⟩,hz,ae⟩:=ae;split at ae
     ·rename_i jV;simp only[KaB]at ae;subst ae;obtain rfl:args= #[s,x]:=sP dM;obtain rfl:ts= #[t,t]:=sP lf;cases pq;exact fin (by simp[cx.iK]) (Yw hop hd (ar d hd) aU h (zn he) hz jV (cC h hs) (cC h hx) hv)
     ·cases ae
    ·cases ae
   ·rename_i s x t u d pq dM lf hd;simp only[Kab]at ae;obtain⟨ps,hs,px,hx,e,he,ae⟩:=ae;split at ae
    ·rename_i Ms;subst Ms;simp only[Kaa]at ae;obtain⟨n,hn,rfl⟩:=ae;obtain rfl:args= #[s,x]:=sP dM;obtain rfl:ts= #[t,t]:=sP lf;cases pq;exact fin (by simp[cx.iK]) (Q9g hop hd (ar d hd) aU h (zn he) hn (cC h hs) (cC h hx) hv)
    ·cases ae
   ·cases ae
  all_goals exfalso
  case h_1=>simp only[Kaa]at ae;obtain⟨_,_,rfl⟩:=ae;exact h0 rfl
  case h_2=>simp only[Kaa]at ae;obtain⟨_,_,rfl⟩:=ae;exact h0 rfl
  case h_3=>simp only[Kab,Kaa]at ae;obtain⟨_,_,_,_,_,_,rfl⟩:=ae;exact h0 rfl
  case h_4=>simp only[Kab,Kaa]at ae;obtain⟨_,_,_,_,rfl⟩:=ae;exact h0 (by unfold yC;split<;>first|rfl|(split<;>rfl))
  case h_5=>simp only[Kaa]at ae;obtain⟨_,_,rfl⟩:=ae;exact h0 rfl
  case h_6=>split at ae<;>first|(cases ae;done)|(simp only[Kaa]at ae;obtain⟨_,_,rfl⟩:=ae;exact h0 rfl)
  case h_7=>
   simp only[Kab]at ae;obtain⟨_,_,_,_,ae⟩:=ae;split at ae<;>first|(cases ae;done)|(simp only[Kaa]at ae;obtain⟨_,_,rfl⟩:=ae;exact h0 rfl)
  case h_8=>
   simp only[Kab]at ae;obtain⟨_,_,_,_,ae⟩:=ae;split at ae<;>first|(cases ae;done)|(simp only[Kab,Kaa]at ae;obtain⟨_,_,_,_,rfl⟩:=ae;exact h0 rfl)|(cases ae;exact h0 rfl)
  case h_9=>
   simp only[Kab]at ae;obtain⟨_,_,ae⟩:=ae;split at ae
   ·simp only[Kab]at ae;obtain⟨_,_,_,_,ae⟩:=ae;split at ae<;>first|(cases ae;done)|(simp only[KaB]at ae;subst ae;exact h0 rfl)
   ·cases ae
  case h_10=>
   simp only[Kab]at ae;obtain⟨_,_,ae⟩:=ae;split at ae<;>first|(cases ae;done)|(simp only[Kab,Kaa]at ae;obtain⟨_,_,_,_,_,_,rfl⟩:=ae;exact h0 rfl)
  case h_11=>simp only[Kab,Kaa]at ae;obtain⟨_,_,_,_,_,_,rfl⟩:=ae;exact h1 rfl
  case h_17=>simp only[Kab,Kaa]at ae;obtain⟨_,_,_,_,rfl⟩:=ae;exact h0 rfl
  case h_18=>simp only[Kab,Kaa]at ae;obtain⟨_,_,_,_,_,_,_,_,_,_,_,_,rfl⟩:=ae;exact h0 rfl
  case h_19=>simp only[Kaa]at ae;obtain⟨_,_,rfl⟩:=ae;exact h0 rfl
  case h_20=>simp only[Kab,Kaa]at ae;obtain⟨_,_,_,_,rfl⟩:=ae;exact h0 rfl
  case h_21=>simp only[Kaa]at ae;obtain⟨_,_,rfl⟩:=ae;exact h0 rfl
  case h_23=>cases ae
end Go.FW
namespace Go.FW
open Go
variable {C : Ctx} {ρ : Nat -> Option Nat} {fr : Fr} {hp : HP} {w : World} {a : Act} {K : Qg}
theorem ab8(h:aI C ρ fr hp a.tmps w){s:Nat}(hs:s<C.N):a.tmps[s]? =some (a.tmps.getD s undef):=by
 have:s<a.tmps.size:=by rw[h.sz];exact hs
 simp[Array.getD,this]
theorem Ra{dr:Bool}{ops:Array Oper}{o:Oper}{g:uu}(h:aI C ρ fr hp a.tmps w)(hc:ry C.P C.N dr ops o=some g)(hv:oz C g.g g.o fr hp K):
  (∀d,o.dst=some d->d<C.N)/\g.o=fN C.P dr o/\
  ((Region.wanted o (yielded ops a.tmps)=true/\bo C g.o fr hp K)∨(Region.wanted o (yielded ops a.tmps)=false/\ju g.o fr hp K)):=by
 unfold ry at hc;split at hc
 ·rename_i cu;have ar:∀d,o.dst=some d->d<C.N:=fun d hd=>by rw[hd]at cu;simpa using cu
  cases hg:o.guard with
  |none=>rw[hg]at hc;cases hc;exact⟨ar,rfl,.inl ⟨by simp[Region.wanted,hg],hv⟩⟩
  | some jw=>
   obtain⟨j,want⟩:=jw;rw[hg]at hc;simp only at hc;split at hc
   ·rename_i s hs;split at hc
    ·rename_i hsN;cases hc;refine⟨ar,rfl,?_⟩;have ht:=ab8 h hsN;have hr:=h.eQ s;simp only[oz]at hv;split at hv
     ·rename_i t nU;rw[nU]at hr;have hb:=hr.xI;have hy:yielded ops a.tmps j=some t:=by simp only[yielded,hs,Kda,ht,hb]
      have vZ:∀b,t=b->af fr s (.bool b)=fr:=fun b aw=>by
       funext i;unfold af;split
       ·rename_i hi;subst hi;subst aw;exact nU.symm
       ·rfl
      by_cases hw:t=want
      ·refine .inl ⟨by simp[Region.wanted,hg,hy,hw],?_⟩;have:=hv.1 hw
       rwa[vZ want hw]at this
      ·have qV:t= !want:=by cases t<;>cases want<;>simp_all
       refine .inr ⟨by simp[Region.wanted,hg,hy,hw],?_⟩;have:=hv.2 qV
       rwa[vZ _ qV]at this
     ·rename_i nU;rw[nU]at hr;obtain⟨vs,ev,fM,_⟩:=hr;have Bi:vs= #[]:=Kcw (by simpa using fM);have hy:yielded ops a.tmps j=none:=by simp only[yielded,hs,Kda,ht,ev]
      exact .inr ⟨by simp[Region.wanted,hg,hy],hv⟩
     ·exact hv.elim
    ·cases hc
   ·cases hc
 ·cases hc
theorem Pn{dr:Bool}{o:Oper}:(fN C.P dr o).dst=o.dst:=by
 unfold fN;cases ae:mo C.P dr o with
 |none=>rfl
 | some so=>
  simp only[KbT];unfold mo at ae;split at ae
  case h_1 hd=>simp only[Kaa]at ae;obtain⟨_,_,rfl⟩:=ae;exact hd.symm
  case h_2 hd=>simp only[Kaa]at ae;obtain⟨_,_,rfl⟩:=ae;exact hd.symm
  case h_3 hd=>simp only[Kab,Kaa]at ae;obtain⟨_,_,_,_,_,_,rfl⟩:=ae;exact hd.symm
  case h_4 hd=>simp only[Kab,Kaa]at ae;obtain⟨_,_,_,_,rfl⟩:=ae;unfold yC;split<;>first|exact hd.symm|(split<;>exact hd.symm)
  case h_5 hd=>simp only[Kaa]at ae;obtain⟨_,_,rfl⟩:=ae;exact hd.symm
  case h_6 hd=>split at ae<;>first|(cases ae;done)|(simp only[Kaa]at ae;obtain⟨_,_,rfl⟩:=ae;exact hd.symm)
  case h_7 hd=>
   simp only[Kab]at ae;obtain⟨_,_,_,_,ae⟩:=ae;split at ae<;>first|(cases ae;done)|(simp only[Kaa]at ae;obtain⟨_,_,rfl⟩:=ae;exact hd.symm)
  case h_8 hd=>
   simp only[Kab]at ae;obtain⟨_,_,_,_,ae⟩:=ae;split at ae<;>first|(cases ae;done)|(simp only[Kab,Kaa]at ae;obtain⟨_,_,_,_,rfl⟩:=ae;exact hd.symm)|(cases ae;exact hd.symm)
  case h_9 hd=>
   simp only[Kab]at ae;obtain⟨_,_,ae⟩:=ae;split at ae
   ·simp only[Kab]at ae;obtain⟨_,_,_,_,ae⟩:=ae;split at ae<;>first|(cases ae;done)|(simp only[KaB]at ae;subst ae;exact hd.symm)
   ·cases ae
  case h_10 hd=>
   simp only[Kab]at ae;obtain⟨_,_,ae⟩:=ae;split at ae<;>first|(cases ae;done)|(simp only[Kab,Kaa]at ae;obtain⟨_,_,_,_,_,_,rfl⟩:=ae;exact hd.symm)
  case h_11 hd=>simp only[Kab,Kaa]at ae;obtain⟨_,_,_,_,_,_,rfl⟩:=ae;exact hd.symm
  case h_12 hd=>simp only[Kab,Kaa]at ae;obtain⟨_,_,_,_,_,_,rfl⟩:=ae;exact hd.symm
  case h_13 hd=>simp only[Kab,Kaa]at ae;obtain⟨_,_,_,_,rfl⟩:=ae;exact hd.symm
  case h_14 hd=>simp only[Kaa]at ae;obtain⟨_,_,rfl⟩:=ae;exact hd.symm
  case h_15 hd=>simp only[Kab,Kaa]at ae;obtain⟨_,_,_,_,_,_,_,_,rfl⟩:=ae;exact hd.symm
  case h_16 hd=>
   simp only[Kab]at ae;obtain⟨_,_,_,_,ae⟩:=ae;split at ae
   ·simp only[Kaa]at ae;obtain⟨_,_,rfl⟩:=ae;exact hd.symm
   ·cases ae
  case h_17 hd=>simp only[Kab,Kaa]at ae;obtain⟨_,_,_,_,rfl⟩:=ae;exact hd.symm
  case h_18 hd=>simp only[Kab,Kaa]at ae;obtain⟨_,_,_,_,_,_,_,_,_,_,_,_,rfl⟩:=ae;exact hd.symm
  case h_19 hd=>simp only[Kaa]at ae;obtain⟨_,_,rfl⟩:=ae;exact hd.symm
  case h_20 hd=>simp only[Kab,Kaa]at ae;obtain⟨_,_,_,_,rfl⟩:=ae;exact hd.symm
  case h_21=>simp only[Kaa]at ae;obtain⟨_,_,rfl⟩:=ae;rfl
  case h_22=>
   split at ae
   ·simp only[Kab,Kaa]at ae;obtain⟨_,_,_,_,rfl⟩:=ae;rfl
   ·rename_i hd;split at ae
    ·simp only[Kaa]at ae;obtain⟨_,_,rfl⟩:=ae;exact hd.symm
    ·simp only[Kab,Kaa]at ae;obtain⟨_,_,_,_,rfl⟩:=ae;exact hd.symm
   ·rename_i hd;simp only[Kab,Kaa]at ae;obtain⟨_,_,_,_,rfl⟩:=ae;exact hd.symm
   ·rename_i hd;simp only[Kab,Kaa]at ae;obtain⟨_,_,_,_,rfl⟩:=ae;exact hd.symm
   ·rename_i hd;simp only[Kab]at ae;obtain⟨_,_,_,_,_,_,ae⟩:=ae;split at ae
    ·simp only[Kab]at ae;obtain⟨_,_,ae⟩:=ae;split at ae
     ·cases ae;exact hd.symm
     ·cases ae
    ·cases ae
   ·rename_i hd;simp only[Kab]at ae;obtain⟨_,_,_,_,_,_,ae⟩:=ae;split at ae
    ·simp only[Kaa]at ae;obtain⟨_,_,rfl⟩:=ae;exact hd.symm
    ·cases ae
   ·cases ae
  case h_23=>cases ae
theorem Yy{dr two:Bool}{o:Oper}(ar:∀d,o.dst=some d->d<C.N)(aU:a.defers=[])(h:aI C ρ fr hp a.tmps w)(hv:ju (fN C.P dr o) fr hp K):cM C two w K (a.put o.dst undef) w:=by
 unfold ju at hv;rw[Pn]at hv;cases hd:o.dst with
 |some d=>rw[hd]at hv;exact⟨aU,⟨_,hp,⟨ρ,h.af Qt.WB (ar d hd)⟩,hv⟩,fun _=>Ext.refl _ _⟩
 |none=>rw[hd]at hv;exact⟨aU,⟨fr,hp,⟨ρ,h⟩,hv⟩,fun _=>Ext.refl _ _⟩
theorem R4{dr:Bool}{ops:Array Oper}{i:Nat}{o:Oper}{g:uu}{Q:Exit->Act->World->Prop}(hi:ops[i]? =some o)(aU:a.defers=[])(h:aI C ρ fr hp a.tmps w)(hc:ry C.P C.N dr ops o=some g)(hv:oz C g.g g.o fr hp K):
  wpOp C.P ops Q i (cM C (!(fN C.P dr o).iK) w K) a w:=by
 obtain⟨ar,lS,AG⟩:=Ra h hc hv;rw[lS]at AG;unfold wpOp;simp only[hi];rcases AG with⟨hw,hv⟩|⟨hw,hv⟩
 ·rw[if_pos hw];exact .inl (ab7 ar aU h hv)
 ·rw[hw];simp only[KaL,if_false];exact Yy ar aU h hv
def BR(C:Ctx)(K:Qg)(Q:Exit->Act->World->Prop):Prop:=∀fr hp (a:Act) w,a.defers=[]->eT C fr hp a.tmps w->K fr hp->Q .normal a w
theorem zX{C:Ctx}{R:Qg}{sk:List It}{fr:Fr}{hp:HP}:vc C R (.o .nil::sk) fr hp=vc C R sk fr hp:=by rw[vc]
theorem Aa{C:Ctx}{R:Qg}{sk:List It}{g:Option (Nat×Bool)}{o:cx}{r:RT}{fr:Fr}{hp:HP}:vc C R (.o (.o g o r)::sk) fr hp=oz C g o fr hp (vc C R (.o r::sk)):=by rw[vc]
theorem P1{C:Ctx}{R:Qg}{sk:List It}{x y:RT}{fr:Fr}{hp:HP}:vc C R (.o (.br x y)::sk) fr hp=(vc C R (.o x::sk) fr hp/\vc C R (.o y::sk) fr hp):=by rw[vc]
theorem DH{C:Ctx}{R:Qg}{sk:List It}{r:RT}{fr:Fr}{hp:HP}:vc C R (.o (.wk r)::sk) fr hp=∃bE aE,Wk fr hp bE aE/\vc C R (.o r::sk) bE aE:=by rw[vc]
theorem wZ{C:Ctx}{R:Qg}{sk:List It}{tmps:Array Value}{w:World}:∀(r:RT)(fr:Fr)(hp:HP),eT C fr hp tmps w->vc C R (.o r::sk) fr hp->
  ∃r' ay an,r'.strip=r.strip/\(∀x,r'≠ .wk x)/\eT C ay an tmps w/\vc C R (.o r'::sk) ay an:=by
 intro r;induction r with
 |wk r ih=>intro fr hp hs hv;rw[DH]at hv;obtain⟨bE,aE,hw,hv⟩:=hv;exact ih bE aE (hw _ _ _ hs) hv
 |nil=>exact fun fr hp hs hv=>⟨_,fr,hp,rfl,(fun x h=>by cases h),hs,hv⟩
 |o=>exact fun fr hp hs hv=>⟨_,fr,hp,rfl,(fun x h=>by cases h),hs,hv⟩
 |br=>exact fun fr hp hs hv=>⟨_,fr,hp,rfl,(fun x h=>by cases h),hs,hv⟩
theorem SX{r:RT}(h:r.strip= .nil)(hn:∀x,r≠ .wk x):r= .nil:=by
 cases r with
 |nil=>rfl
 |wk x=>exact absurd rfl (hn x)
 |_=>simp[RT.strip]at h
theorem HG{r s:RT}{g:Option (Nat×Bool)}{o:cx}(h:r.strip= .o g o s)(hn:∀x,r≠ .wk x):∃r',r= .o g o r'/\r'.strip=s:=by
 cases r with
 |o g' o' r'=>simp only[RT.strip,RT.o.injEq]at h;obtain⟨rfl,rfl,h⟩:=h;exact⟨r',rfl,h⟩
 |wk x=>exact absurd rfl (hn x)
 |_=>simp[RT.strip]at h
theorem ab9{r a b:RT}(h:r.strip= .br a b)(hn:∀x,r≠ .wk x):∃a' b',r= .br a' b'/\a'.strip=a/\b'.strip=b:=by
 cases r with
 |br a' b'=>simp only[RT.strip,RT.br.injEq]at h;exact⟨a',b',rfl,h.1,h.2⟩
 |wk x=>exact absurd rfl (hn x)
 |_=>simp[RT.strip]at h
theorem R5{R:Qg}{sk:List It}{ops:Array Oper}{Q:Exit->Act->World->Prop}(hQ:BR C (vc C R sk) Q):∀(gs:List uu)(is:List Nat)(r:RT)(fr:Fr)(hp:HP)(a:Act)(w:World),
  is.length=gs.length->(∀(k i:Nat)(g:uu),is[k]? =some i->gs[k]? =some g->∃o,ops[i]? =some o/\ry C.P C.N false ops o=some g)->
  a.defers=[]->eT C fr hp a.tmps w->r.strip=xw gs->vc C R (.o r::sk) fr hp->wpOps C.P ops Q is a w
 | [],[],r,fr,hp,a,w,_,_,aU,hs,hr,hv=>by obtain⟨r',ay,an,h1,h2,hs,hv⟩:=wZ r fr hp hs hv;obtain rfl:=SX (h1.trans hr) h2;rw[zX]at hv;exact hQ ay an a w aU hs hv
 | [],i::is,_,_,_,_,_,hl,_,_,_,_,_=>by simp at hl
 |g::gs,[],_,_,_,_,_,hl,_,_,_,_,_=>by simp at hl
 |g::gs,i::is,r,fr,hp,a,w,hl,hc,aU,hs,hr,hv=>by obtain⟨o,ho,ae⟩:=hc 0 i g rfl rfl;obtain⟨r',ay,an,h1,h2,⟨ρ,hs⟩,hv⟩:=wZ r fr hp hs hv;obtain⟨r2,rfl,oa⟩:=HG (h1.trans hr) h2;rw[Aa]at hv;rw[wpOps_cons];refine wpOp_mono (fun a' w' hA=>?_) (R4 ho aU hs ae hv);obtain⟨vI,⟨ay,an,dY,od⟩,_⟩:=hA;exact R5 hQ gs is r2 ay an a' w' (by simpa using hl) (fun k j g' h1 h2=>hc (k+1) j g' (by simpa using h1) (by simpa using h2)) vI dY oa od
end Go.FW
