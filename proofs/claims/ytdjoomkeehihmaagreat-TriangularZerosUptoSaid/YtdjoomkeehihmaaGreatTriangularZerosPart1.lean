/- Part 1 of the proof of TriangularZeros: FwA, FwRA, FwRB, FwRF, FwRG, FwRH, FwB, FwC, FwD, FwE, FwF, FwG, FwH, FwI, FwJ, FwK, FwL, FwLN, FwM, FwN. Own lemmas; no conditions. -/
import Derived.Test.YtdjoomkeehihmaaGreatTriangularZerosPart0
import Derived.WalkKit
import Derived.RangeFuncNested
import Derived.Laws.AppendOwn
import Derived.OrdersIn
import Derived.TacticsIn
import Derived.BigFrameIn
import Derived.Laws.Rows
import Derived.Laws.ResultCell
import Derived.Orders
import Derived.Laws.StructEq
set_option maxHeartbeats 1000000
set_option linter.unusedSimpArgs false
set_option linter.unusedVariables false
set_option linter.unnecessarySimpa false
set_option maxRecDepth 100000
namespace Go.FW
open Go
inductive PV where
 |undef
 |int (k:IntKind) (n:Int)
 |bool (b:Bool)
 |aa
 |sl (e:Nat) (xs:List PV)
 |agg (cs:List PV)
 |au (vs:List PV)
 |fn (f:FuncId) (first cap:List PV)
 |pt (cs:List PV)
 |mp (β i o:Nat)
 |ax (β o n:Nat)
 |rb (β o n:Nat)
 |aM (γ o n:Nat)
 |np (γ i o:Nat)
 |aX (cs:List PV)
 |ff (cs:List PV)
 |aN (γ e ty:Nat) (xs:List PV)
 |str (s:ByteArray)
 |fg (cs:List PV) (q:PV)
 deriving Inhabited
abbrev PV.ms(β n:Nat):PV:=.ax β 0 n
def PV.cells:PV->List PV
 |.agg cs=>cs
 |x=>[x]
def PV.bl:PV->List PV
 |.aX cs=>cs
 |x=>x.cells
def PV.ik:PV->Bool
 |.undef=>false
 |_=>true
def PV.aE:PV->Bool
 |.int .. | .bool _| .aa| .sl .. | .agg _| .pt _| .str _=>true
 |.fn _ first cap=>first.all PV.ik&&cap.all PV.ik
 |_=>false
inductive Qu(w:World)(X:Nat->Prop):PV->Value->Prop
 |int (k:IntKind) (n:Int):Qu w X (.int k n) (.int k n)
 |bool (b:Bool):Qu w X (.bool b) (.bool b)
 |str (s:ByteArray):Qu w X (.str s) (.string s)
 |aa:Qu w X .aa (.slice none 0 0)
 |gT (e:Nat) (a:Option Addr) (cap:Nat) (hc:cap<=maxLen):Qu w X (.sl e []) (.slice a 0 cap)
 | sl (e:Nat) (xs:List PV) (b off cap:Nat) (vs:Nat->Nat->Value) (hX:¬X b) (hb:b<w.heap.size) (hl:xs.length<=cap) (hc:cap<=maxLen)
   (he:∀(i:Nat)(x:PV),xs[i]? =some x->x.cells.length=e)
   (hv:∀i,i<xs.length->∀j,j<e->w.cell? ⟨b,off+i*e+j,none⟩=some (vs i j))
   (hr:∀(i:Nat)(x:PV),xs[i]? =some x->∀(j:Nat)(y:PV),x.cells[j]? =some y->Qu w X y (vs i j)):
   Qu w X (.sl e xs) (.slice (some ⟨b,off,none⟩) xs.length cap)
 | pt (cs:List PV) (b off:Nat) (vs:Nat->Value) (hX:¬X b) (hb:b<w.heap.size)
   (hv:∀j,j<cs.length->w.cell? ⟨b,off+j,none⟩=some (vs j))
   (hr:∀(j:Nat)(y:PV),cs[j]? =some y->Qu w X y (vs j)):
   Qu w X (.pt cs) (.pointer (some ⟨b,off,none⟩))
 | fn (f:FuncId) (first cap:List PV) (fv cv:Array Value) (h1:fv.size=first.length) (h2:cv.size=cap.length)
   (sR:∀(i:Nat)(x:PV),first[i]? =some x->Qu w X x (fv.getD i undef)) (oz:∀(i:Nat)(x:PV),cap[i]? =some x->Qu w X x (cv.getD i undef)):
   Qu w X (.fn f first cap) (.func (.func f) fv cv)
structure Ext(Y:Nat->Prop)(w w':World):Prop where
 os:w'.os=w.os
 tape:w'.tape=w.tape
 output:w'.output=w.output
 size:w.heap.size<=w'.heap.size
 block:∀b,b<w.heap.size->¬Y b->w'.heap[b]? =w.heap[b]?
theorem Ext.refl(Y:Nat->Prop)(w:World):Ext Y w w:=⟨rfl,rfl,rfl,Nat.le_refl _,fun _ _ _=>rfl⟩
theorem Ext.trans{Y:Nat->Prop}{a b c:World}(h:Ext Y a b)(k:Ext Y b c):Ext Y a c:=
  ⟨k.os.trans h.os,k.tape.trans h.tape,k.output.trans h.output,Nat.le_trans h.size k.size,
   fun i hi hY=>(k.block i (Nat.lt_of_lt_of_le hi h.size) hY).trans (h.block i hi hY)⟩
theorem Ext.mono{Y Y':Nat->Prop}{a b:World}(h:Ext Y a b)(hY:∀i,i<a.heap.size->Y i->Y' i):Ext Y' a b:=
 ⟨h.os,h.tape,h.output,h.size,fun i hi hn=>h.block i hi (fun hy=>hn (hY i hi hy))⟩
theorem Ext.trans'{Y Y':Nat->Prop}{a b c:World}(h:Ext Y a b)(k:Ext Y' b c)(hY:∀i,i<a.heap.size->Y' i->Y i):Ext Y a c:=
  ⟨k.os.trans h.os,k.tape.trans h.tape,k.output.trans h.output,Nat.le_trans h.size k.size,
   fun i hi hn=>(k.block i (Nat.lt_of_lt_of_le hi h.size) (fun hy=>hn (hY i hi hy))).trans (h.block i hi hn)⟩
def bT:Nat->Prop:=fun _=>False
theorem vd{w w':World}{a:Addr}(h:w'.heap[a.block]? =w.heap[a.block]?):w'.cell? a=w.cell? a:=by simp[World.cell?,h]
theorem Q7c{w:World}{b o:Nat}{v:Value}(h:w.cell? ⟨b,o,none⟩=some v):b<w.heap.size:=by
 rcases Nat.lt_or_ge b w.heap.size with h'|h'
 ·exact h'
 ·simp[World.cell?,Array.getElem?_eq_none h']at h
theorem Qu.mono{w w':World}{X X':Nat->Prop}{p:PV}{v:Value}(h:Qu w X p v)
  (hb:∀b,b<w.heap.size->¬X b->w'.heap[b]? =w.heap[b]?) (hx:∀b,b<w.heap.size->¬X b->¬X' b) (hs:w.heap.size<=w'.heap.size):Qu w' X' p v:=by
 induction h with
 |int k n=>exact .int k n
 |bool b=>exact .bool b
 |str s=>exact .str s
 |aa=>exact .aa
 |gT e a cap hc=>exact .gT e a cap hc
 | sl e xs b off cap vs hX aw hl hc he hv hr ih=>
  exact .sl e xs b off cap vs (hx b aw hX) (Nat.lt_of_lt_of_le aw hs) hl hc he
   (fun i hi j hj=>by rw[vd (hb b aw hX)];exact hv i hi j hj) (fun i x aW j y hy=>ih i x aW j y hy)
 |pt cs b off vs hX aw hv hr ih=>exact .pt cs b off vs (hx b aw hX) (Nat.lt_of_lt_of_le aw hs) (fun j hj=>by rw[vd (hb b aw hX)];exact hv j hj) (fun j y hy=>ih j y hy)
 |fn f first cap fv cv h1 h2 sR oz Nz FV=>exact .fn f first cap fv cv h1 h2 Nz FV
theorem Qu.rC{w:World}{X:Nat->Prop}{p:PV}{v:Value}(h:Qu w X p v):v.oneCell'=true/\v.cells= #[v]/\p.cells=[p]:=by cases h<;>exact⟨rfl,rfl,rfl⟩
def ba(w:World)(X:Nat->Prop):PV->Value->Prop
 |.agg cs,v=>∃vs:Array Value,v= .agg vs/\vs.size=cs.length/\∀i x,cs[i]? =some x->Qu w X x (vs.getD i undef)
 |p,v=>Qu w X p v
def dH(w:World)(X:Nat->Prop):PV->Value->Prop
 |.au ps,v=>∃vs:Array Value,v= .tuple vs/\vs.size=ps.length/\∀i x,ps[i]? =some x->ba w X x (vs.getD i undef)
 |p,v=>ba w X p v
theorem ba.mono{w w':World}{X X':Nat->Prop}{p:PV}{v:Value}(h:ba w X p v)
  (hb:∀b,b<w.heap.size->¬X b->w'.heap[b]? =w.heap[b]?) (hx:∀b,b<w.heap.size->¬X b->¬X' b) (hs:w.heap.size<=w'.heap.size):ba w' X' p v:=by
 cases p with
 |agg cs=>obtain⟨vs,rfl,h1,h2⟩:=h;exact⟨vs,rfl,h1,fun i x hi=>(h2 i x hi).mono hb hx hs⟩
 |_=>exact Qu.mono h hb hx hs
theorem dH.mono{w w':World}{X X':Nat->Prop}{p:PV}{v:Value}(h:dH w X p v)
  (hb:∀b,b<w.heap.size->¬X b->w'.heap[b]? =w.heap[b]?) (hx:∀b,b<w.heap.size->¬X b->¬X' b) (hs:w.heap.size<=w'.heap.size):dH w' X' p v:=by
 cases p with
 |au ps=>obtain⟨vs,rfl,h1,h2⟩:=h;exact⟨vs,rfl,h1,fun i x hi=>(h2 i x hi).mono hb hx hs⟩
 |agg cs=>exact ba.mono (p:=.agg cs) h hb hx hs
 |_=>exact Qu.mono h hb hx hs
theorem dH.XF{w:World}{X:Nat->Prop}{p:PV}{v:Value}(h:ba w X p v):dH w X p v:=by
 cases p with
 |au ps=>cases h
 |_=>exact h
theorem ba.data{w:World}{X:Nat->Prop}{p:PV}{v:Value}(h:ba w X p v):p.aE=true:=by
 have hu:∀(x:PV)(u:Value),Qu w X x u->x.ik=true:=fun x u hx=>by cases hx<;>rfl
 have bz:∀(l:List PV)(vs:Array Value),(∀(i:Nat)(x:PV),l[i]? =some x->Qu w X x (vs.getD i undef))->l.all PV.ik=true:=fun l vs hl=>by rw[List.all_eq_true];intro x hx;obtain⟨i,hi⟩:=List.getElem?_of_mem hx;exact hu x _ (hl i x hi)
 cases p with
 |agg cs=>rfl
 |fn f first cap=>
  have h':Qu w X (.fn f first cap) v:=h;cases h' with
  |fn _ _ _ fv cv h1 h2 h3 h4=>simp[PV.aE,bz _ _ h3,bz _ _ h4]
 |_=>cases h<;>rfl
theorem ba.cells{w:World}{X:Nat->Prop}{p:PV}{v:Value}(h:ba w X p v):
  v.cells.size=p.cells.length/\∀j y,p.cells[j]? =some y->Qu w X y (v.cells.getD j undef):=by
 by_cases ha:∃cs,p= .agg cs
 ·obtain⟨cs,rfl⟩:=ha;obtain⟨vs,rfl,h1,h2⟩:=h;exact⟨h1,h2⟩
 ·have hc:Qu w X p v:=by
   cases p with
   |agg cs=>exact absurd ⟨cs,rfl⟩ ha
   |_=>exact h
  obtain⟨_,h2,h3⟩:=hc.rC;rw[h2,h3];refine⟨rfl,fun j y hy=>?_⟩
  match j,hy with
  |0,hy=>simp at hy;subst hy;exact hc
  |j+1,hy=>simp at hy
theorem ba.qw{w:World}{X:Nat->Prop}{p:PV}{v:Value}(h:Qu w X p v):ba w X p v:=by
 cases p with
 |agg cs=>cases h
 |_=>exact h
theorem ba.XL{w:World}{X:Nat->Prop}{p:PV}{v:Value}(h:ba w X p v):∀u∈v.cells.toList,u.oneCell'=true:=by
 intro u hu;obtain⟨h1,h2⟩:=h.cells;obtain⟨j,hj,rfl⟩:=List.getElem_of_mem hu;have fG:j<v.cells.size:=by simpa using hj
 have hp:j<p.cells.length:=by omega
 have:=(h2 j p.cells[j] (List.getElem?_eq_getElem hp)).rC.1;simpa[Array.getD,fG]using this
abbrev Ka0:=@Sem.run_pure
abbrev Ka1:=@Nat.mul_add
abbrev Ka2:=@List.any_eq_true
abbrev Ka3:=@List.getElem?_append
abbrev Ka4:=@List.getLast?_eq_getElem?
abbrev Ka5:=@List.length_drop
abbrev Ka6:=@Rat.intCast_eq_zero_iff
abbrev Ka7:=@Nat.mul_le_mul_left
abbrev Ka8:=@List.getElem_of_mem
abbrev Ka9:=@List.map_congr_left
abbrev KaA:=@List.flatMap_nil
abbrev KaB:=@Option.some.injEq
abbrev KaC:=@List.contains_nil
abbrev KaD:=@Int.natAbs_natCast
abbrev KaE:=@List.mem_map
abbrev KaF:=@Nat.add_mul
abbrev KaG:=@List.getElem?_of_mem
abbrev KaH:=@List.length_take
abbrev KaI:=@Array.getElem?_eq_some_iff
abbrev KaJ:=@Bool.false_eq_true
abbrev KaK:=@Nat.mul_le_mul
abbrev KaL:=@List.mem_singleton
abbrev KaM:=@List.getElem?_take_of_lt
abbrev KaN:=@List.nil_append
abbrev KaO:=@Nat.lt_of_lt_of_le
abbrev KaP:=@List.mem_cons
abbrev KaQ:=@List.cons_append
abbrev KaR:=@Nat.mod_eq_of_lt
abbrev KaS:=@Nat.add_zero
abbrev KaT:=@List.mem_append
abbrev KaU:=@Nat.mul_comm
abbrev KaV:=@List.length_map
abbrev KaW:=@List.length_cons
abbrev KaX:=@Rat.intCast_natCast
abbrev KaY:=@Nat.pos_of_ne_zero
abbrev KaZ:=@Array.getD_eq_getD_getElem?
abbrev Kaa:=@Option.map_eq_some_iff
abbrev Kab:=@Option.bind_eq_some_iff
abbrev Kac:=@Nat.le_refl
abbrev Kad:=@List.getElem?_eq_some_iff
abbrev Kae:=@List.take_of_length_le
abbrev Kaf:=@Nat.mul_le_mul_right
abbrev Kag:=@List.getElem_mem
abbrev Kah:=@List.take_succ_eq_append_getElem
abbrev Kai:=@List.mem_of_getElem?
abbrev Kaj:=@Result.andThen_ok
abbrev Kak:=@List.append_nil
abbrev Kal:=@List.getD_eq_getElem?_getD
abbrev Kam:=@List.getElem?_eq_getElem
abbrev Kan:=@List.drop_of_length_le
abbrev Kao:=@Sem.run_bind
abbrev Kap:=@List.length_append
abbrev Kaq:=@List.mem_flatMap
abbrev Kar:=@List.take_length
abbrev Kas:=@List.length_eq_zero_iff
abbrev Kat:=@Bool.and_eq_true
abbrev Kau:=@List.flatMap_cons
abbrev Kav:=@List.all_eq_true
abbrev Kaw:=@Nat.le_trans
abbrev Kax:=@List.contains_cons
abbrev Kay:=@List.getElem?_map
abbrev Kaz:=@List.drop_eq_getElem_cons
abbrev Kb0:=@List.range_succ
abbrev Kb1:=@Nat.mul_zero
abbrev Kb2:=@Rat.mkRat_eq_div
abbrev Kb3:=@Rat.intCast_le_intCast
abbrev Kb4:=@List.flatMap_append
abbrev Kb5:=@List.take_zero
abbrev Kb6:=@Array.mapM_eq_mapM_toList
abbrev Kb7:=@List.getElem?_append_left
abbrev Kb8:=@List.length_set
abbrev Kb9:=@Rat.natCast_mul
abbrev KbA:=@Addr.add_lit
abbrev KbB:=@Nat.pow_succ
abbrev KbC:=@Nat.eq_of_mul_eq_mul_right
abbrev KbD:=@Int.toNat_natCast
abbrev KbE:=@Nat.pow_le_pow_right
abbrev KbF:=@Nat.mul_one
abbrev KbG:=@List.headD_eq_head?_getD
abbrev KbH:=@List.mem_append_right
abbrev KbI:=@Nat.zero_mul
abbrev KbJ:=@Nat.gcd_dvd_left
abbrev KbK:=@List.append_cons
abbrev KbL:=@List.append_assoc
abbrev KbM:=@List.size_toArray
abbrev KbN:=@Nat.pow_pos
abbrev KbO:=@List.mem_cons_self
abbrev KbP:=@Nat.sub_self
abbrev KbQ:=@Nat.add_comm
abbrev KbR:=@List.mem_filterMap
abbrev KbS:=@Bool.or_eq_true
abbrev KbT:=@Option.getD_some
abbrev KbU:=@List.length_zipWith
abbrev KbV:=@Nat.gcd_dvd_right
abbrev KbW:=@List.foldl_append
abbrev KbX:=@Rat.le_trans
abbrev KbY:=@Nat.min_eq_left
abbrev KbZ:=@Bool.true_and
abbrev Kba:=@List.replicate_zero
abbrev Kbb:=@List.getElem?_drop
abbrev Kbc:=@List.mem_of_mem_take
abbrev Kbd:=@List.map_cons
abbrev Kbe:=@Nat.zero_add
abbrev Kbf:=@List.length_pos_iff
abbrev Kbg:=@Array.getElem?_eq_getElem
abbrev Kbh:=@Nat.mul_assoc
abbrev Kbi:=@Nat.mul_div_cancel_left
abbrev Kbj:=@List.length_nil
abbrev Kbk:=@Rat.mul_le_mul_of_nonneg_right
abbrev Kbl:=@List.filterMap_cons
abbrev Kbm:=@List.mem_cons_of_mem
abbrev Kbn:=@Nat.div_lt_iff_lt_mul
abbrev Kbo:=@List.take_append_drop
abbrev Kbp:=@List.drop_zero
abbrev Kbq:=@List.replicate_succ
abbrev Kbr:=@Nat.div_add_mod
abbrev Kbs:=@List.any_eq_false
abbrev Kbt:=@Rat.mul_le_mul_of_nonneg_left
abbrev Kbu:=@List.map_nil
abbrev Kbv:=@Rat.intCast_mul
abbrev Kbw:=@Nat.mod_lt
abbrev Kbx:=@List.mem_of_mem_drop
abbrev Kby:=@Nat.zero_le
abbrev Kbz:=@Nat.mul_left_comm
abbrev Kc0:=@List.mem_replicate
abbrev Kc1:=@Option.some.inj
abbrev Kc2:=@Int.ofNat_dvd_left
abbrev Kc3:=@Nat.eq_zero_or_pos
abbrev Kc4:=@Nat.gcd_zero_right
abbrev Kc5:=@Rat.intCast_neg
abbrev Kc6:=@List.all_eq_false
abbrev Kc7:=@Rat.mkRat_self
abbrev Kc8:=@Bool.false_and
abbrev Kc9:=@Nat.lt_or_ge
abbrev KcA:=@Nat.le_mul_of_pos_right
abbrev KcB:=@Rat.div_def
abbrev KcC:=@List.getElem_map
abbrev KcD:=@Int.natAbs_neg
abbrev KcE:=@Array.getElem?_eq_none
abbrev KcF:=@List.getElem_cons_zero
abbrev KcG:=@Nat.lt_of_le_of_lt
abbrev KcH:=@List.getLast?_cons
abbrev KcI:=@List.countP_append
abbrev KcJ:=@Int.le_refl
abbrev KcK:=@List.foldl_cons
abbrev KcL:=@List.cons.injEq
abbrev KcM:=@Nat.div_le_self
abbrev KcN:=@Bool.true_or
abbrev KcO:=@List.filterMap_append
abbrev KcP:=@Prod.mk.injEq
abbrev KcQ:=@Int.fdiv_eq_ediv_of_nonneg
abbrev KcR:=@Option.ne_none_iff_exists'
abbrev KcS:=@List.mem_append_left
abbrev KcT:=@List.mapM_cons
abbrev KcU:=@List.mem_or_eq_of_mem_set
abbrev KcV:=@List.ext_getElem
abbrev KcW:=@Nat.one_mul
abbrev KcX:=@List.getElem?_range
abbrev KcY:=@List.map_map
abbrev KcZ:=@Option.pure_def
abbrev Kca:=@List.getElem?_take
abbrev Kcb:=@List.length_filterMap_le
abbrev Kcc:=@Nat.div_eq_of_lt
abbrev Kcd:=@List.eq_nil_of_length_eq_zero
abbrev Kce:=@Nat.mul_pos
abbrev Kcf:=@Bool.or_eq_false_iff
abbrev Kcg:=@Nat.add_assoc
abbrev Kch:=@List.mem_range
abbrev Kci:=@Rat.mul_nonneg
abbrev Kcj:=@Array.size_append
abbrev Kck:=@Option.map_some
abbrev Kcl:=@List.getElem?_append_right
abbrev Kcm:=@Nat.sub_zero
abbrev Kcn:=@Bool.false_or
abbrev Kco:=@Nat.dvd_trans
abbrev Kcp:=@Nat.add_mul_mod_self_left
abbrev Kcq:=@Int.natAbs_mul
abbrev Kcr:=@Nat.eq_zero_of_gcd_eq_zero_right
abbrev Kcs:=@Nat.add_mul_div_left
abbrev Kct:=@Array.getElem?_setIfInBounds_ne
abbrev Kcu:=@List.head?_drop
abbrev Kcv:=@List.getElem_append_left
abbrev Kcw:=@Array.eq_empty_of_size_eq_zero
abbrev Kcx:=@Nat.gcd_comm
abbrev Kcy:=@Option.bind_eq_bind
abbrev Kcz:=@List.mem_map_of_mem
abbrev Kda:=@List.map_set
abbrev Kdb:=@Bool.or_true
abbrev Kdc:=@Option.bind_some
abbrev Kdd:=@Nat.lt_succ_self
abbrev Kde:=@Nat.min_eq_right
abbrev Kdf:=@Nat.gcd_le_right
abbrev Kdg:=@List.getElem_set
abbrev Kdh:=@List.not_mem_nil
abbrev Kdi:=@Nat.dvd_mul_left
abbrev Kdj:=@List.sum_cons
abbrev Kdk:=@Bool.and_true
abbrev Kdl:=@Rat.one_mul
open Go Go.RowKit
structure vQ(Y:Nat->Prop)(w w':World):Prop where
 os:w'.os=w.os
 tape:w'.tape=w.tape
 output:w'.output=w.output
 size:w.heap.size<=w'.heap.size
 block:∀b,b<w.heap.size->Y b->w'.heap[b]? =w.heap[b]?
theorem vQ.trans{Y:Nat->Prop}{a b c:World}(h:vQ Y a b)(k:vQ Y b c):vQ Y a c:=
 ⟨k.os.trans h.os,k.tape.trans h.tape,k.output.trans h.output,Kaw h.size k.size,fun i hi hY=>(k.block i (KaO hi h.size) hY).trans (h.block i hi hY)⟩
theorem vQ.mono{Y Y':Nat->Prop}{a b:World}(h:vQ Y a b)(hY:∀i,i<a.heap.size->Y' i->Y i):vQ Y' a b:=
 ⟨h.os,h.tape,h.output,h.size,fun i hi hn=>h.block i hi (hY i hi hn)⟩
theorem Ext.ua(X:Nat->Prop)(W:World)(o:Obj):Ext X W (W.alloc o):=
 ⟨rfl,rfl,rfl,by simp,fun b hb _=>Below.heap_alloc W o b hb⟩
theorem CallsIn.amL{F:Fence}(hd:F.depth=none){m m':Nat}{P:Program}{f:FuncId}{args:Array Value}{w:World}{R:Ending->World->Prop}
  (h:CallsIn F m P f args w R):CallsIn F m' P f args w R:=⟨h.1,fun cs _=>h.2 cs (fun d h=>by rw[hd]at h;cases h)⟩
variable {F : Fence} {n : Nat} {P : Program} {w : World}
end Go.FW
namespace Go.FW
open Go Go.RowKit
section
variable {F : Fence} {n : Nat} {P : Program} {ops : Array Oper} {Q : Exit -> Act -> World -> Prop}
def pj:List Bool->Nat
 | []=>0
 |true::l=>pj l
 |false::l=>pj l+1
theorem PY:∀ {l:List Bool} {i:Nat},l[i]? =some false->pj (l.set i true)+1=pj l
 | [],i,h=>by simp at h
 |b::l,0,h=>by simp at h;subst h;simp[pj]
 |b::l,i+1,h=>by simp at h;have:=PY h;cases b<;>simp[pj]<;>omega
theorem PZ:∀(n:Nat),pj (List.replicate n false)=n
 |0=>rfl
 |n+1=>by simp[Kbq,pj,PZ n]
theorem ON:∀ {l:List Bool} {i:Nat},pj l=0->l[i]? ≠some false
 | [],i,_=>by simp
 |true::l,0,_=>by simp
 |true::l,i+1,h=>by simpa using ON (l:=l) (i:=i) (by simpa[pj]using h)
 |false::l,_,h=>by simp[pj]at h
def o8(l:Array Bool):Nat->Bool:=fun i=>l.getD i false
theorem afp{l:Array Bool}{i:Nat}(h:l.getD i true=false):o8 (l.setIfInBounds i true)=fun k=>k==i||o8 l k:=by
 funext k;unfold o8;have hi:i<l.size:=by
  rcases Kc9 i l.size with h'|h'
  ·exact h'
  ·simp[KcE h']at h
 by_cases hk:i=k
 ·subst hk;simp[hi]
 ·rw[getD_set_ne false hk];simp[Ne.symm hk]
def ll(ops:Array Oper)(i:Nat):List Nat:=match ops[i]? with
 |some o=>(o.after.toList.filter (Region.binds .any)).map (·.on)
 |none=>[]
theorem Q9x(I:(Nat->Bool)->Act->World->Prop)
  (ar:∀i,i<ops.size->∀k∈ll ops i,k<i)
  (kO:∀l i,i<ops.size->l i=false->(∀k∈ll ops i,l k=true)->∀a w,I l a w->wpOpIn F n P ops Q i (I (fun k=>k==i||l k)) a w)
  (uw:∀l a w,(∀i,i<ops.size->l i=true)->I l a w->Q .normal a w):
  ∀(m:Nat)(l:Array Bool)(a:Act)(w:World),pj l.toList=m->l.size=ops.size->I (o8 l) a w->wpAnyIn F n P .any ops Q m l a w:=by
 have fin:∀(l:Array Bool),Region.ready .any ops l=[]->l.size=ops.size->∀i,i<ops.size->o8 l i=true:=by
  intro l hr hz i;induction i using Nat.strongRecOn with
  | ind i ih=>
   intro hi;cases h:o8 l i with
   |true=>rfl
   | false=>
    exfalso;have ho:ops[i]? =some ops[i]:=by simp[hi]
    have:i∈Region.ready .any ops l:=by
     refine mem_ready.2 ⟨?_,_,ho,?_⟩
     ·unfold o8 at h;have dq:i<l.size:=by omega
      simp[dq]at h⊢;exact h
     ·intro e he hb;have hk:e.on∈ll ops i:=by unfold ll;rw[ho];exact KaE.2 ⟨e,List.mem_filter.2 ⟨by simpa using he,hb⟩,rfl⟩
      have wm:=ar i hi _ hk;exact ih e.on wm (by omega)
    rw[hr]at this;cases this
 intro m;induction m with
 | zero=>
  intro l a w hn hz hI;have hr:Region.ready .any ops l=[]:=by
   cases h:Region.ready .any ops l with
   |nil=>rfl
   |cons i is=>
    have hm:i∈Region.ready .any ops l:=by rw[h];exact KbO
    obtain⟨h1,_⟩:=mem_ready.1 hm;refine absurd ?_ (ON (i:=i) hn);rcases Kc9 i l.size with h'|h'
    ·simp[h']at h1 ⊢;exact h1
    ·simp[KcE h']at h1
  exact⟨hr,uw _ a w (fin l hr hz) hI⟩
 | succ m ih=>
  intro l a w hn hz hI;refine⟨fun hr=>uw _ a w (fin l hr hz) hI,fun i hi=>?_⟩;obtain⟨h1,o,ho,h2⟩:=mem_ready.1 hi;have dq:i<l.size:=by
   rcases Kc9 i l.size with h'|h'
   ·exact h'
   ·simp[KcE h']at h1
  have hls:o8 l i=false:=by unfold o8;simp[dq]at h1⊢;exact h1
  refine wpOpIn_mono (fun a' w' hA=>?_) (kO (o8 l) i (by omega) hls ?_ a w hI)
  ·have:=PY (l:=l.toList) (i:=i) (by simp[dq]at h1 ⊢;exact h1);exact ih _ a' w' (by rw[Array.toList_setIfInBounds];omega) (by simpa using hz) (by rw[afp h1];exact hA)
  ·intro k hk;unfold ll at hk;rw[ho]at hk;obtain⟨e,he,rfl⟩:=KaE.1 hk;obtain⟨he,hb⟩:=List.mem_filter.1 he;exact h2 e (by simpa using he) hb
theorem acR{id:Nat}{a:Act}{w:World}(hm:P.follows .mixedOrders=true)(I:(Nat->Bool)->Act->World->Prop)
  (ar:∀i,i<ops.size->∀k∈ll ops i,k<i) (h0:I (fun _=>false) a w.drew)
  (kO:∀l i,i<ops.size->l i=false->(∀k∈ll ops i,l k=true)->∀a w,I l a w->wpOpIn F n P ops Q i (I (fun k=>k==i||l k)) a w)
  (uw:∀l a w,(∀i,i<ops.size->l i=true)->I l a w->Q .normal a w):(Code.region id ops true).wpIn F n P Q a w:=by
 refine wpIn_region_any hm (Q9x I ar kO uw _ _ a _ ?_ (by simp) ?_)
 ·rw[Array.toList_replicate,PZ]
 ·have:o8 (Array.replicate ops.size false)=fun _=>false:=by funext k;unfold o8;simp[Array.getD]
  rw[this];exact h0
theorem P0{tmps:Array Value}{d k:Nat}{v:Value}(h:d≠k):(tmps.setIfInBounds d v)[k]?.getD undef=tmps[k]?.getD undef:=by simp[Kct h]
structure iH(ops:Array Oper)(N:Nat)(V:Nat->Value)(Z:List (Nat×Value))(Wd:(Nat->Bool)->World->Prop)(l:Nat->Bool)(a:Act)(w:World):Prop where
 d0:a.defers=[]
 sz:a.tmps.size=N
 fixed:∀z∈Z,a.tmps[z.1]?.getD undef=z.2
 slot:∀i o d,l i=true->ops[i]? =some o->o.dst=some d->a.tmps[d]?.getD undef=V i
 cl:∀j,l j=true->∀k∈ll ops j,l k=true
 wd:Wd l w
def yu(ops:Array Oper)(N:Nat)(Z:List (Nat×Value))(i:Nat):Bool:=
 match(ops[i]?).bind (·.dst)with
 |some d=>decide (d<N)&&Z.all (fun z=>z.1 !=d)&&(List.range ops.size).all fun j=>j==i||(ops[j]?).bind (·.dst) !=some d
 |none=>false
variable {N : Nat} {V : Nat -> Value} {Z : List (Nat × Value)} {Wd : (Nat -> Bool) -> World -> Prop} {l : Nat -> Bool} {a : Act} {w w' : World} {i : Nat}
theorem iH.put(h:iH ops N V Z Wd l a w)(dt:∀k∈ll ops i,l k=true)(ha:yu ops N Z i=true){o:Oper}(ho:ops[i]? =some o)(hw:Wd (fun k=>k==i||l k) w'):
  iH ops N V Z Wd (fun k=>k==i||l k) (a.put o.dst (V i)) w':=by
 unfold yu at ha;rw[ho]at ha;cases hd:o.dst with
 |none=>simp[hd]at ha
 | some d=>
  simp only[Kdc,hd,Kat,decide_eq_true_eq,Kav,Kch,bne_iff_ne,KbS,beq_iff_eq]at ha;obtain⟨⟨h1,h2⟩,h3⟩:=ha;have hp:a.put (some d) (V i)={ a with tmps:=a.tmps.setIfInBounds d (V i) }:=rfl;rw[hp];refine⟨h.d0,by simp[h.sz],fun z hz=>?_,fun j oj dj hj nC sH=>?_,fun j hj k hk=>?_,hw⟩
  ·rw[<-h.fixed z hz];have:=h2 z hz;simp only;rw[P0 (Ne.symm this)]
  ·simp only;by_cases dW:j=i
   ·subst dW;rw[ho]at nC;cases nC;rw[hd]at sH;cases sH;simp[h.sz,h1]
   ·have hjs:j<ops.size:=(KaI.1 nC).1;have h4:=(h3 j hjs).resolve_left dW;rw[nC]at h4;have h5:dj≠d:=fun e=>h4 (by simp[sH,e]);rw[P0 (Ne.symm h5)];exact h.slot j oj dj (by have:(j==i)=false:=(by simpa using dW);rw[this]at hj;simpa using hj) nC sH
  ·by_cases dW:j=i
   ·subst dW;simp[dt k hk]
   ·have:(j==i)=false:=by simpa using dW
    rw[this]at hj;simp[h.cl j (by simpa using hj) k hk]
theorem iH.val(h:iH ops N V Z Wd l a w)(dt:∀k∈ll ops i,l k=true)(ha:yu ops N Z i=true){o:Oper}(ho:ops[i]? =some o)(hg:Region.wanted o (yielded ops a.tmps)=true)
  (sD:o.about P w a.eval=none) (hop:∀c,o.op≠ .defer c) (bp:(execOp a.eval o).run P w= .ok (.value (V i)) w') (hw:Wd (fun k=>k==i||l k) w'):
  wpOpIn F n P ops Q i (iH ops N V Z Wd (fun k=>k==i||l k)) a w:=by
 unfold wpOpIn;rw[ho];simp only[hg,if_true];refine⟨fun f hf=>(by rw[sD]at hf;cases hf),?_⟩;have:o.semAt F.round a.eval=execOp a.eval o:=by
  cases F.round with
  |none=>simp[Oper.semAt]
  |some l=>exact Oper.semAt_some l _ _ hop
 rw[this,bp];exact h.put dt ha ho hw
theorem iH.skip(h:iH ops N V Z Wd l a w)(dt:∀k∈ll ops i,l k=true)(ha:yu ops N Z i=true){o:Oper}(ho:ops[i]? =some o)(hg:Region.wanted o (yielded ops a.tmps)=false)
  (sD:∀f,o.about P w a.eval=some f->F.fn f) (hV:V i=undef) (hw:Wd (fun k=>k==i||l k) w):wpOpIn F n P ops Q i (iH ops N V Z Wd (fun k=>k==i||l k)) a w:=by
 unfold wpOpIn;rw[ho];simp only[hg,KaJ,if_false];have:=h.put dt ha ho hw;rw[hV]at this;exact⟨sD,this⟩
theorem iH.app(h:iH ops N V Z Wd l a w)(dt:∀k∈ll ops i,l k=true)(ha:yu ops N Z i=true){o:Oper}(ho:ops[i]? =some o)(hg:Region.wanted o (yielded ops a.tmps)=true){s x:Operand}{t:TypeId}
  (hop:o.op=Op.call { callee:=Callee.builtin Builtin.append,args:= #[s,x],argTypes:= #[t,t] }) {v u:Value} (hs:a.eval s=v) (hx:a.eval x=u) (bp:(Builtin.append_ #[t,t] o.type #[v,u]).run P w= .ok (V i) w') (hw:Wd (fun k=>k==i||l k) w'):
  wpOpIn F n P ops Q i (iH ops N V Z Wd (fun k=>k==i||l k)) a w:=by
 refine h.val dt ha ho hg ?_ (by rw[hop];intro c hc;cases hc) ?_ hw
 ·simp[Oper.about,hop,resolve,Target.leads,Ka0]
 ·simp[execOp,hop,resolve,invoke,builtin,hs,hx,bp,Result.andThen]
end
end Go.FW
namespace Go.FW
open Go Go.RowKit
section
variable {F : Fence} {n : Nat} {P : Program} {ops : Array Oper} {Q : Exit -> Act -> World -> Prop}
variable {N : Nat} {V : Nat -> Value} {Z : List (Nat × Value)} {Wd : (Nat -> Bool) -> World -> Prop} {l : Nat -> Bool} {a : Act} {w w' : World} {i : Nat}
end
end Go.FW
namespace Go.FW
open Go Go.RowKit
section
variable {F : Fence} {n : Nat} {P : Program} {ops : Array Oper} {Q : Exit -> Act -> World -> Prop}
variable {G : Type} {N : Nat} {V : G -> Nat -> Value} {Z : List (Nat × Value)} {Wd : G -> (Nat -> Bool) -> World -> Prop} {l : Nat -> Bool} {a : Act} {w w' : World} {i : Nat} {g : G}
def mX(ops:Array Oper)(N:Nat)(V:G->Nat->Value)(Z:List (Nat×Value))(Wd:G->(Nat->Bool)->World->Prop)(l:Nat->Bool)(a:Act)(w:World):Prop:=∃g,iH ops N (V g) Z (Wd g) l a w
theorem mX.of(h:wpOpIn F n P ops Q i (iH ops N (V g) Z (Wd g) l) a w):wpOpIn F n P ops Q i (mX ops N V Z Wd l) a w:=wpOpIn_mono (fun _ _ h=>⟨g,h⟩) h
theorem iH.amG(h:iH ops N (V g) Z (Wd g) l a w)(dt:∀k∈ll ops i,l k=true)(hd:F.depth=none)(ha:yu ops N Z i=true){o:Oper}(ho:ops[i]? =some o)(hg:Region.wanted o (yielded ops a.tmps)=true){c:Call}(hop:o.op= .call c){f:FuncId}{xs:Array Operand}{ty:Array TypeId}
  (hc:c={ callee:=.value (.func f),args:=xs,argTypes:=ty }) {vs:Array Value} (hx:xs.map a.eval=vs) (hFf:F.fn f) (ef:∀args w,(callFunc f args).run P w= .ok (.enter f args) w) {R:Ending->World->Prop} {m:Nat} (hy:CallsIn F m P f vs w R)
  (hR:∀e w',R e w'->∃g',e= .returned (V g' i)/\(∀j,l j=true->V g' j=V g j)/\Wd g' (fun k=>k==i||l k) w'):wpOpIn F n P ops Q i (mX ops N V Z Wd (fun k=>k==i||l k)) a w:=by
 unfold wpOpIn;rw[ho];simp only[hg,if_true];have dz:(resolve a.eval c o.type).run P w= .ok { target:=.fn (.func f) #[],args:=vs } w:=by subst hc;simp only[resolve,hx];simp[Deferred.ofValue,Act.eval]
 refine⟨fun f' hf=>?_,?_⟩
 ·simp[Oper.about,hop,dz,Target.leads]at hf;subst hf;exact hFf
 ·have:o.semAt F.round a.eval=execOp a.eval o:=by
   cases F.round with
   |none=>simp[Oper.semAt]
   |some l=>exact Oper.semAt_some l _ _ (by rw[hop];intro c h;cases h)
  have bp:(execOp a.eval o).run P w= .ok (.enter f vs) w:=by simp only[execOp,hop,Kao,dz,Result.andThen];simp[go_sem,invoke,ef]
  rw[this,bp];refine⟨fun h=>(by rw[hd]at h;cases h),(CallsIn.amL hd hy).mono fun e w' he=>?_⟩;obtain⟨g',rfl,hV,hw⟩:=hR e w' he;have h2:iH ops N (V g') Z (fun _ _=>True) l a w:=⟨h.d0,h.sz,h.fixed,fun j o d hj ho hd=>by rw[hV j hj];exact h.slot j o d hj ho hd,h.cl,trivial⟩
  have t:=h2.put (w':=w') dt ha ho trivial;exact⟨g',t.d0,t.sz,t.fixed,t.slot,t.cl,hw⟩
theorem iH.sto{V:Nat->Value}{Wd:(Nat->Bool)->World->Prop}(h:iH ops N V Z Wd l a w)(dt:∀k∈ll ops i,l k=true){o:Oper}(ho:ops[i]? =some o)(Wo:o.dst=none)(hg:Region.wanted o (yielded ops a.tmps)=true)
  (sD:o.about P w a.eval=none) (hop:∀c,o.op≠ .defer c) (bp:(execOp a.eval o).run P w= .ok .skip w') (hw:Wd (fun k=>k==i||l k) w'):
  wpOpIn F n P ops Q i (iH ops N V Z Wd (fun k=>k==i||l k)) a w:=by
 unfold wpOpIn;rw[ho];simp only[hg,if_true];refine⟨fun f hf=>(by rw[sD]at hf;cases hf),?_⟩;have:o.semAt F.round a.eval=execOp a.eval o:=by
  cases F.round with
  |none=>simp[Oper.semAt]
  |some l=>exact Oper.semAt_some l _ _ hop
 rw[this,bp];show iH ops N V Z Wd (fun k=>k==i||l k) (a.put o.dst undef) w';rw[Wo];refine⟨h.d0,h.sz,h.fixed,fun j oj d hj nC sH=>?_,fun j hj k hk=>?_,hw⟩
 ·by_cases dW:j=i
  ·subst dW;rw[ho]at nC;cases nC;rw[Wo]at sH;cases sH
  ·have:(j==i)=false:=(by simpa using dW)
   rw[this]at hj;exact h.slot j oj d (by simpa using hj) nC sH
 ·by_cases dW:j=i
  ·subst dW;simp[dt k hk]
  ·have:(j==i)=false:=(by simpa using dW)
   rw[this]at hj;simp[h.cl j (by simpa using hj) k hk]
theorem Q9y{id:Nat}{a:Act}{w:World}(hm:P.follows .mixedOrders=true)(N:Nat)(V:G->Nat->Value)(Z:List (Nat×Value))(Wd:G->(Nat->Bool)->World->Prop)
  (ar:∀i,i<ops.size->∀k∈ll ops i,k<i) (h0:mX ops N V Z Wd (fun _=>false) a w.drew)
  (kO:∀l i,i<ops.size->l i=false->(∀k∈ll ops i,l k=true)->∀a w,mX ops N V Z Wd l a w->wpOpIn F n P ops Q i (mX ops N V Z Wd (fun k=>k==i||l k)) a w)
  (uw:∀l a w,(∀i,i<ops.size->l i=true)->mX ops N V Z Wd l a w->Q .normal a w):(Code.region id ops true).wpIn F n P Q a w:=
 acR hm _ ar h0 kO uw
end
end Go.FW
namespace Go.FW
open Go
theorem afq{w:World}{X:Nat->Prop}{base:Nat}{e:TypeId}{v:Value}{vs:List Value}{ps:List PV}{n:Nat}(h:w.ownsRow base e 1 v n vs)(hn:ps.length=n)(hX:∀b,v.ownBlock=some b->¬X b)(hc:∀p∈ps,p.cells=[p])
  (hr:∀j (hj:j<ps.length),Qu w X ps[j] (vs.getD j undef)):Qu w X (.sl 1 ps) v:=by
 subst hn;obtain⟨hl,hv⟩:=h;rcases hv with⟨rfl,h0⟩|⟨g,cap,cur,rfl,hb,hg,kM,ja,fY,bj⟩
 ·have:ps=[]:=Kas.1 h0;subst this;exact .gT 1 _ _ (Kby _)
 ·refine .sl 1 ps g 0 cap (fun i _=>vs.getD i undef) (hX g rfl) (KaI.1 hg).1 kM ja ?_ ?_ ?_
  ·intro i x hx;rw[hc x (Kai hx)];rfl
  ·intro i hi j hj;obtain rfl:j=0:=by omega
   have mc:i<cur.size:=by omega
   have e1:vs.getD i undef=cur[i]:=by rw[Kal,<-bj,Kca,if_pos (by omega)];simp[mc]
   simp only[World.cell?,Kbe,KbF,KaS,hg,e1];simp[mc]
  ·intro i x hx j y hy;have hm:=Kai hx;rw[hc x hm]at hy;obtain⟨hi,rfl⟩:=Kad.1 hx
   match j,hy with
   |0,hy=>simp at hy;subst hy;exact hr i hi
theorem CD{P:Program}{fn:Func}{p u:Tmp}{ty:TypeId}(h:fn.results= #[.cell p ty,.tmp u])(tmps:Array Value)(w:World)(g:Nat)(t:TypeId)(cs:Array Value)(fr:Nat×Nat)(d:TypeDesc)
  (hp:tmps.getD p undef= .pointer (some ⟨g,0,none⟩)) (hg:w.heap[g]? =some (.cells cs t fr))
  (hu:P.underlying ty=some d)
  (hd:(match d with| .struct _| .array _ _=>true|_=>false)=true) (hi:(P.info? ty).map (·.size)=some cs.size):
  (results fn tmps).run P w= .ok (.tuple #[.agg cs,tmps.getD u undef]) w:=by
 rw[results_cell_tmp h,hp];simp[asAddr,run_loadVar_row w g t ty cs fr d hg hu hd hi,Result.andThen]
theorem Ext.setCell{Y:Nat->Prop}(w:World)(a:Addr)(v:Value)(h:Y a.block):Ext Y w (w.setCell a v):=
 ⟨rfl,rfl,rfl,by simp[World.setCell],fun b _ hn=>heap_setCell_other w a b v (fun e=>hn (e▸h))⟩
theorem Qu.AQ{w:World}{X:Nat->Prop}{ps:List PV}{v:Value}(h:Qu w X (.sl 2 ps) v){i:Nat}(hi:i<ps.length){p q:PV}(hp:ps[i]= .agg [p,q]):
  ∃b off cap u1 u2,v= .slice (some ⟨b,off,none⟩) ps.length cap/\w.cell? ⟨b,off+i*2,none⟩=some u1/\w.cell? ⟨b,off+i*2+1,none⟩=some u2/\Qu w X p u1/\Qu w X q u2/\¬X b/\b<w.heap.size:=by
 generalize hY:PV.sl 2 ps=Y at h;cases h with
 |gT e a cap=>cases hY;simp at hi
 |sl e xs b off cap vs hX hb hl hc he hv hr=>
  cases hY;have hx:ps[i]? =some (.agg [p,q]):=by rw[Kam hi,hp]
  exact⟨b,off,cap,vs i 0,vs i 1,rfl,hv i hi 0 (by omega),hv i hi 1 (by omega),hr i _ hx 0 p rfl,hr i _ hx 1 q rfl,hX,hb⟩
 |_=>cases hY
theorem acS{w:World}{X:Nat->Prop}{base:Nat}{ty:TypeId}{v:Value}{vs:List Value}{ps:List PV}{n e:Nat}(h:w.ownsRow base ty e v n vs)(hn:ps.length=n)(hX:∀b,v.ownBlock=some b->¬X b)(hc:∀p∈ps,p.cells.length=e)
  (hr:∀j (hj:j<ps.length) k y,ps[j].cells[k]? =some y->Qu w X y (vs.getD (j*e+k) undef)):Qu w X (.sl e ps) v:=by
 subst hn;obtain⟨hl,hv⟩:=h;rcases hv with⟨rfl,h0⟩|⟨g,cap,cur,rfl,hb,hg,kM,ja,fY,bj⟩
 ·have:ps=[]:=Kas.1 h0;subst this;exact .gT e _ _ (Kby _)
 ·refine .sl e ps g 0 cap (fun i k=>vs.getD (i*e+k) undef) (hX g rfl) (KaI.1 hg).1 kM ja (fun i x hx=>hc x (Kai hx)) ?_ ?_
  ·intro i hi j hj;have ar:i*e+j<ps.length*e:=by have:=Kaf e (show i+1<=ps.length from hi);rw[KaF]at this;omega
   have mc:i*e+j<cur.size:=by have:=Kaf e kM;omega
   have e1:vs.getD (i*e+j) undef=cur[i*e+j]:=by rw[Kal,<-bj,Kca,if_pos ar];simp[mc]
   simp only[World.cell?,Kbe,hg,e1];simp[mc]
  ·intro i x hx j y hy;obtain⟨hi,rfl⟩:=Kad.1 hx;exact hr i hi j y hy
attribute [go_sem_proc ↓] reduceIte
inductive aP where
 |t (n:Nat)
 |c (p:PV)
 deriving Inhabited
inductive cB where
 |mv (d:Nat) (x:aP)
 |pick (d:Nat) (c a b:aP)
 |bin (d:Nat) (op:BinOp) (bt:Bool) (x y:aP)
 |eqs (d:Nat) (ng:Bool) (x y:aP)
 |Ck (d:Nat) (ng:Bool) (x y:aP)
 |Cj (d:Nat) (x:aP)
 |Ci (d:Nat) (x i:aP)
 |un (d:Nat) (op:UnOp) (x:aP)
 |conv (d:Nat) (k:IntKind) (x:aP)
 |len (d:Nat) (x:aP)
 |mx (d:Nat) (x y:aP)
 |mn (d:Nat) (x y:aP)
 |idx (d e:Nat) (x i:aP)
 |BZ (d n e:Nat) (x i:aP)
 |B1 (d n e:Nat) (ag:Bool) (x i:aP)
 |cC (d off:Nat) (x:aP)
 |yA (d off n:Nat) (ag:Bool) (x:aP)
 |ld (d n:Nat) (ag:Bool) (x:aP)
 |st (n:Nat) (x v:aP)
 |box (d n ty:Nat) (v:aP)
 |alloc (d n ty:Nat) (z:PV)
 |mk (d e bytes ty:Nat) (z:PV) (l c:aP)
 |bs (d e ty:Nat) (parts:List aP)
 |app (d e bytes ty:Nat) (s x:aP)
 |uc (d e:Nat) (s x:aP)
 |sl (d e:Nat) (x:aP) (lo hi mx:Option aP)
 |ext (d:Nat) (x:aP) (i:Nat)
 |bU (d:Nat) (zero:List PV) (parts:List (Nat×Nat×aP))
 |fn (d f:Nat) (first cap:List aP)
 |call (d:Option Nat) (pr:Bool) (f:aP) (args:List aP)
 |B8 (d:Option Nat) (x:aP)
 |bad (d:Option Nat)
 deriving Inhabited
def cB.dst:cB->Option Nat
 |.mv d _| .pick d _ _ _| .bin d _ _ _ _| .eqs d _ _ _| .Ck d _ _ _| .Cj d _| .Ci d _ _| .un d _ _| .conv d _ _| .len d _| .mx d _ _| .mn d _ _| .idx d _ _ _| .BZ d _ _ _ _| .B1 d _ _ _ _ _| .cC d _ _| .yA d _ _ _ _
 |.ld d _ _ _| .box d _ _ _| .alloc d _ _ _| .mk d _ _ _ _ _ _| .bs d _ _ _| .app d _ _ _ _ _| .uc d _ _ _| .sl d _ _ _ _ _| .ext d _ _| .bU d _ _| .fn d _ _ _=>some d
 |.st _ _ _=>none
 |.call d _ _ _| .B8 d _| .bad d=>d
structure uS where
 g:Option (Nat×Bool)
 o:cB
 deriving Inhabited
inductive RT where
 |nil
 |o (g:Option (Nat×Bool)) (o:cB) (r:RT)
 |br (a b:RT)
 |wk (r:RT)
 deriving Inhabited
inductive SC where
 |skip
 |rg (r:RT)
 |raw (id:Nat) (ops:Array Oper)
 |seq (a b:SC)
 |cond (c:aP) (a b:SC)
 |block (id:Nat) (a:SC)
 |loop (a:SC)
 |exit (id:Nat)
 |ret
 deriving Inhabited
def z':Value->Option PV
 |.int k n=>some (.int k n)
 |.bool b=>some (.bool b)
 |.string s=>some (.str s)
 |.slice none 0 0=>some .aa
 |_=>none
def rV:Value->Option PV
 |.agg cs=>(cs.toList.mapM z').map .agg
 |v=>z' v
def b7:Operand->Option aP
 |.tmp t=>some (.t t)
 |.const v=>(rV v).map .c
 |.func f=>some (.c (.fn f [] []))
 |.global _=>none
def eB(P:Program)(t:TypeId):Option Nat:=(P.info? t).map (·.size)
def lX(P:Program)(t:TypeId):Option Bool:=(P.underlying t).map fun d=>match d with| .struct _| .array _ _=>true|_=>false
def sg(P:Program)(t:TypeId):Option TypeId:=match P.underlying t with|some (.slice e)=>some e|_=>none
def jX(P:Program)(t:TypeId):Option (Nat×Nat×PV):=(P.info? t).bind fun i=>i.zero.bind fun z=>(rV z).map fun p=>(i.size,i.bytes,p)
def nZ:Option Operand->Option (Option aP)
 |none=>some none
 |some x=>(b7 x).map some
def AF(P:Program)(t:TypeId)(parts:List (Nat×Operand)):Option (List (Nat×Nat×aP)):=
 match P.underlying t with
 |some (.struct fs)=>(fs.toList.mapM fun f=>(P.info? f.type).map fun i=>(f.offset,i.size)).bind fun pl=>parts.mapM fun p=>(pl[p.1]?).bind fun q=>(b7 p.2).map fun y=>(q.1,q.2,y)
 |some (.array _ e)=>(eB P e).bind fun n=>parts.mapM fun p=>(b7 p.2).map fun y=>(p.1*n,n,y)
 |_=>none
def F8(P:Program)(t:TypeId):Bool:=match P.underlying t with
 |some (.struct fs)=>match fs.toList with
  | [f, g] => f.name != "_" && g.name != "_" && f.offset == 0 && g.offset == 1 && (match P.underlying f.type with | some (.int _) => true | _ => false) && (match P.underlying g.type with | some (.int _) => true | _ => false) && !(P.stoodInHeld t) && !(P.eqGuardType P.depth t)
  |_=>false
 |_=>false
def Cv:BinOp->Option Bool
 |.eql=>some false
 |.neq=>some true
 |_=>none
def yj(P:Program)(t:TypeId):Bool:=match P.underlying t with|some .string=>true|_=>false
def zk(P:Program)(op:BinOp)(t:TypeId)(d:Nat)(x y:aP):cB:=
 match(if F8 P t then Cv op else none)with
 |some ng=>.eqs d ng x y
 |none=>match(if yj P t then Cv op else none)with
  |some ng=>.Ck d ng x y
  |none=>.bin d op (match P.underlying t with|some .bool=>true|_=>false) x y
def afr : List String := ["geoprover/matrix.reduce", "geoprover/matrix.subtract", "geoprover/geoproverref09.echelon"]
def Rm(P:Program)(f:aP):Bool:=match f with
 |.c (.fn g _ _)=>(P.funcs[g]?).any fun fn=>afr.contains fn.name
 |_=>false
def mF(P:Program)(draw:Bool)(o:Oper):Option cB:=
 match o.op,o.dst with
 |.move x,some d| .assign x,some d=>(b7 x).map (.mv d)
 |.pick c a b,some d=>(b7 c).bind fun c=>(b7 a).bind fun a=>(b7 b).map fun b=>.pick d c a b
 |.binOp op t x y _,some d=>(b7 x).bind fun x=>(b7 y).map fun y=>zk P op t d x y
 |.unOp op _ x,some d=>(b7 x).map (.un d op)
 |.convert s t x,some d=>match P.underlying s,P.underlying t with
  |some _,some (.int k)=>(b7 x).map (.conv d k)
  |_,_=>none
 |.indexAddr t x i,some d=>(b7 x).bind fun x=>(b7 i).bind fun i=>match P.underlying t with
  |some (.slice e)=>(eB P e).map fun n=>.idx d n x i
  |some (.array len e)=>(eB P e).map fun n=>.BZ d len n x i
  |_=>none
 |.index t x i,some d=>(b7 x).bind fun x=>(b7 i).bind fun i=>match P.underlying t with
  |some (.array len e)=>(eB P e).bind fun n=>(lX P e).map fun ag=>.B1 d len n ag x i
  |some .string=>some (.Ci d x i)
  |_=>none
 |.fieldAddr t x j,some d=>(b7 x).bind fun x=>match P.underlying t with
  |some (.struct fs)=>(fs[j]?).bind fun f=>(eB P f.type).bind fun n=>if n=0 then none else some (.cC d f.offset x)
  |_=>none
 |.field t x j,some d=>(b7 x).bind fun x=>match P.underlying t with
  |some (.struct fs)=>(fs[j]?).bind fun f=>(eB P f.type).bind fun n=>(lX P f.type).map fun ag=>.yA d f.offset n ag x
  |_=>none
 |.load t x,some d=>(b7 x).bind fun x=>(eB P t).bind fun n=>(lX P t).map fun ag=>.ld d n ag x
 |.store t x v,none=>(b7 x).bind fun x=>(b7 v).bind fun v=>(eB P t).map fun n=>.st n x v
 |.box t v,some d=>(b7 v).bind fun v=>(eB P t).map fun n=>.box d n t v
 |.alloc t,some d=>(jX P t).map fun(n,_,z)=>.alloc d n t z
 |.makeSlice t l c,some d=>(b7 l).bind fun l=>(b7 c).bind fun c=>(sg P t).bind fun e=>(jX P e).map fun(n,by_,z)=>.mk d n by_ e z l c
 |.buildSlice t len parts,some d=>(sg P t).bind fun e=>(jX P e).bind fun r=>
   if parts.toList.map (·.1)=List.range len/\len*r.1<=16777216/\r.2.2.cells.length=r.1 then(parts.toList.mapM fun p=>b7 p.2).map fun ps=>.bs d r.1 e ps else none
 |.build t parts,some d=>(jX P t).bind fun(_,_,z)=>(AF P t parts.toList).map fun ps=>.bU d z.cells ps
 |.slice t x lo hi m,some d=>(b7 x).bind fun x=>(nZ lo).bind fun lo=>(nZ hi).bind fun hi=>(nZ m).bind fun m=>(sg P t).bind fun e=>(eB P e).map fun n=>.sl d n x lo hi m
 |.extract x i,some d=>(b7 x).map fun x=>.ext d x i
 |.makeFunc (.func f) first cap,some d=>(first.toList.mapM b7).bind fun first=>(cap.toList.mapM b7).map fun cap=>.fn d f first cap
 |.nilCheck x,d=>(b7 x).map fun x=>.B8 d x
 |.call c,d=>match c.callee,c.args.toList,c.argTypes.toList,d with
  |.value f,args,_,d=>(b7 f).bind fun f=>(args.mapM b7).map fun args=>.call d (draw&& !Rm P f) f args
  |.builtin .len,[x],[t],some d=>if yj P t then(b7 x).map fun x=>.Cj d x else(sg P t).bind fun _=>(b7 x).map fun x=>.len d x
  |.builtin .max,[x,y],_,some d=>(b7 x).bind fun x=>(b7 y).map fun y=>.mx d x y
  |.builtin .min,[x,y],_,some d=>(b7 x).bind fun x=>(b7 y).map fun y=>.mn d x y
  |.builtin .append,[s,x],[t,u],some d=>(b7 s).bind fun s=>(b7 x).bind fun x=>(sg P t).bind fun e=>if t=u then(jX P e).bind fun r=>if r.2.2.cells.length=r.1 then some (.app d r.1 r.2.1 e s x)else none else none
  |.builtin .copy,[s,x],[t,u],some d=>(b7 s).bind fun s=>(b7 x).bind fun x=>(sg P t).bind fun e=>if t=u then(eB P e).map fun n=>.uc d n s x else none
  |_,_,_,_=>none
 |_,_=>none
def fZ(P:Program)(draw:Bool)(o:Oper):cB:=(mF P draw o).getD (.bad o.dst)
def rS(P:Program)(n:Nat)(draw:Bool)(ops:Array Oper)(o:Oper):Option uS:=
 if o.dst.all (· <n)then
  match o.guard with
  |none=>some ⟨none,fZ P draw o⟩
  |some (j,want)=>match(ops[j]?).bind (·.dst)with
   |some s=>if s<n then some ⟨some (s,want),fZ P draw o⟩else none
   |none=>none
 else none
def cB.cls:cB->Nat
 |.ld .. =>1
 |.box .. | .alloc .. | .mk .. | .bs .. | .call .. | .bad _=>2
 |.st .. | .app .. | .uc .. =>3
 |_=>0
def cB.iX:cB->Bool
 |.st .. | .app .. | .uc .. =>true
 |.call _ pr _ _=> !pr
 |_=>false
def cB.ap3:cB->Bool
 |.call .. =>true
 |_=>false
def qF(ops:Array Oper):Nat->Nat->Nat->Bool
 |0,_,_=>false
 |n+1,i,j=>match ops[j]? with
  |none=>false
  |some o=>o.after.toList.any fun e=>Region.binds .any e&&(e.on==i||qF ops n i e.on)
def tN(P:Program)(ops:Array Oper)(i:Nat):Nat:=((ops[i]?).map fun o=>(fZ P true o).cls).getD 9
def xY(P:Program)(dr:Bool)(ops:Array Oper)(i:Nat):Bool:=((ops[i]?).map fun o=>(fZ P dr o).iX).getD false
def Gh(P:Program)(dr:Bool)(ops:Array Oper)(a9:Array Bool)(i:Nat):Bool:=
  (Region.ready .any ops a9).contains i&&Region.free .any ops a9 i&&
  (match tN P ops i with
   |0=>true
   |1=>(List.range ops.size).all fun j=> !xY P dr ops j||qF ops ops.size i j
   |_=>false)
def ub:List RT->RT
 | []=>.nil
 | [r]=>r
 |r::rs=>.br r (ub rs)
def pL(P:Program)(N:Nat)(dr:Bool)(ops:Array Oper):Nat->Array Bool->Option RT
 |0,a9=>if Region.ready .any ops a9==[]then some .nil else none
 |n+1,a9=>
  if Region.ready .any ops a9==[]then some .nil else
  match(List.range ops.size).find? (Gh P dr ops a9)with
  |some i=>((ops[i]?).bind (rS P N dr ops)).bind fun g=>(pL P N dr ops n (a9.setIfInBounds i true)).map fun r=>.o g.g g.o r
  |none=>((Region.ready .any ops a9).mapM fun i=>((ops[i]?).bind (rS P N dr ops)).bind fun g=>(pL P N dr ops n (a9.setIfInBounds i true)).map fun r=>RT.o g.g g.o r).map ub
def An(P:Program)(N:Nat)(dr:Bool)(ops:Array Oper):Nat->Array Bool->Option RT
 |0,a9=>if Region.ready .any ops a9==[]then some .nil else none
 | n+1,a9=>
  if Region.ready .any ops a9==[]then some .nil else
  match(List.range ops.size).find? (Gh P dr ops a9)with
  |some i=>((ops[i]?).bind (rS P N dr ops)).bind fun g=>(An P N dr ops n (a9.setIfInBounds i true)).map fun r=>.o g.g g.o r
  |none=>match Region.ready .any ops a9 with
   | [i]=>((ops[i]?).bind (rS P N dr ops)).bind fun g=>(An P N dr ops n (a9.setIfInBounds i true)).map fun r=>.o g.g g.o r
   |_=>none
theorem CE{P:Program}{N:Nat}{dr:Bool}{ops:Array Oper}:∀(n:Nat)(a9:Array Bool)(r:RT),An P N dr ops n a9=some r->pL P N dr ops n a9=some r
 |0,a9,r,h=>h
 | n +1,a9,r,h=>by
  unfold An at h;unfold pL;split
  ·rename_i hr;rw[if_pos hr]at h;exact h
  ·rename_i hr;rw[if_neg hr]at h;split at h
   ·rename_i i hf;simp only[Kab,Kaa]at h⊢;obtain⟨g,hg,r',fW,rfl⟩:=h;exact⟨g,hg,r',CE n _ _ fW,rfl⟩
   ·rename_i hf;split at h
    ·rename_i i FI;simp only[Kab,Kaa]at h;obtain⟨g,⟨o,ho,hg⟩,r',fW,rfl⟩:=h;simp[FI,ho,hg,CE n _ _ fW,ub]
    ·cases h
def RT.count:RT->Nat
 |.nil=>1
 |.o _ _ r=>r.count
 |.br a b=>a.count+b.count
 |.wk r=>r.count
def yl:List uS->RT
 | []=>.nil
 |g::gs=>.o g.g g.o (yl gs)
def afs(P:Program)(ops:Array Oper):Bool:=decide (ops.size<=100)&&ops.toList.any fun o=>(fZ P false o).ap3
def aft(P:Program)(ops:Array Oper):Bool:=
 let cs:=ops.toList.map (fZ P true)
 decide (100<ops.size)||4<=(cs.filter fun o=>match o with| .app .. =>true|_=>false).length||
  (3<=(cs.filter fun o=>match o with| .box .. | .alloc .. =>true|_=>false).length&&3<=(cs.filter fun o=>match o with| .st .. =>true|_=>false).length)
def Aa(P:Program)(N:Nat)(ops:Array Oper)(dr:Bool)(most:Nat):Option SC:=
 if aft P ops then none else
 match pL P N dr ops ops.size (Array.replicate ops.size false)with
 |some r=>if r.count<=most then some (.rg r)else none
 |none=>none
def Ac(P:Program)(N:Nat)(ops:Array Oper)(draw:Bool):Option SC:=
 if draw then
  if Region.noSelect ops then
   match(if afs P ops then(An P N false ops ops.size (Array.replicate ops.size false)).map .rg else none)with
   |some s=>some s
   |none=>Aa P N ops true 100
  else none
 else(ops.toList.mapM (rS P N false ops)).map fun l=>.rg (yl l)
def fR(P:Program)(N:Nat):Code->Option SC
 |.skip=>some .skip
 |.region id ops draw=>match Ac P N ops draw with
  |some s=>some s
  |none=>if draw then some (.raw id ops)else none
 |.seq a b=>(fR P N a).bind fun a=>(fR P N b).map fun b=>.seq a b
 |.cond c a b=>(b7 c).bind fun c=>(fR P N a).bind fun a=>(fR P N b).map fun b=>.cond c a b
 |.block id a=>(fR P N a).map (.block id)
 |.loop a=>(fR P N a).map .loop
 |.exit id=>some (.exit id)
 |.ret=>some .ret
 |_=>none
inductive RV where
 |t (s:Nat)
 |cell (s n:Nat) (ag:Bool)
 deriving Inhabited
def mG(P:Program)(r:ResultVar):Option RV:=
 match r with
 |.tmp t=>some (.t t)
 |.cell a t=>(eB P t).bind fun n=>(lX P t).map fun ag=>.cell a n ag
def RT.strip:RT->RT
 |.nil=>.nil
 |.o g p r=>.o g p r.strip
 |.br a b=>.br a.strip b.strip
 |.wk r=>r.strip
def SC.strip:SC->SC
 |.rg r=>.rg r.strip
 |.seq a b=>.seq a.strip b.strip
 |.cond c a b=>.cond c a.strip b.strip
 |.block id a=>.block id a.strip
 |.loop a=>.loop a.strip
 |s=>s
theorem TO:∀l:List uS,(yl l).strip=yl l
 | []=>rfl
 |g::gs=>by simp only[yl,RT.strip,TO gs]
theorem UW:∀l:List RT,(∀r∈l,r.strip=r)->(ub l).strip=ub l
 | [],_=>rfl
 | [r],h=>h r (by simp)
 |r::s::l,h=>by have:=UW (s::l) fun x hx=>h x (Kbm _ hx);simp only[ub,RT.strip,h r (by simp),this]
theorem OO{α β:Type}{f:α->Option β}{Q:β->Prop}(hf:∀a b,f a=some b->Q b):∀(l:List α)(rs:List β),l.mapM f=some rs->∀r∈rs,Q r
 | [],rs,h=>by simp at h;subst h;simp
 |a::l,rs,h=>by
  simp only[KcT,Kcy,KcZ,Kab,KaB]at h;obtain⟨b,h1,bs,h2,rfl⟩:=h;intro r hr;rcases KaP.1 hr with rfl|hr
  ·exact hf _ _ h1
  ·exact OO hf l bs h2 r hr
theorem CM{P:Program}{N:Nat}{dr:Bool}{ops:Array Oper}:∀(n:Nat)(a9:Array Bool)(r:RT),pL P N dr ops n a9=some r->r.strip=r
 |0,a9,r,h=>by
  unfold pL at h;split at h
  ·cases h;rfl
  ·cases h
 | n+1,a9,r,h=>by
  unfold pL at h;split at h
  ·cases h;rfl
  ·split at h
   ·simp only[Kab,Kaa]at h;obtain⟨g,_,r',fW,rfl⟩:=h;simp only[RT.strip,CM n _ _ fW]
   ·simp only[Kaa]at h;obtain⟨rs,fu,rfl⟩:=h;refine UW rs (OO (fun i b hb=>?_) _ rs fu);simp only[Kab,Kaa]at hb;obtain⟨g,_,r',fW,rfl⟩:=hb;simp only[RT.strip,CM n _ _ fW]
theorem Qxw{P:Program}{N:Nat}{ops:Array Oper}{draw:Bool}{s:SC}(h:Ac P N ops draw=some s):s.strip=s:=by
 unfold Ac at h;split at h
 ·split at h
  ·have key:∀(dr:Bool) (most:Nat) (s:SC),Aa P N ops dr most=some s->s.strip=s:=fun dr most s hc=>by
    unfold Aa at hc;split at hc
    ·cases hc
    split at hc
    ·rename_i r hr;split at hc
     ·cases hc;simp only[SC.strip,CM _ _ _ hr]
     ·cases hc
    ·cases hc
   split at h
   ·rename_i s' ew;cases h;split at ew
    ·simp only[Kaa]at ew;obtain⟨r,hr,rfl⟩:=ew;simp only[SC.strip,CM _ _ _ (CE _ _ _ hr)]
    ·cases ew
   ·exact key _ _ _ h
  ·cases h
 ·simp only[Kaa]at h;obtain⟨gs,_,rfl⟩:=h;simp only[SC.strip,TO]
theorem Yd{P:Program}{N:Nat}:∀(c:Code)(s:SC),fR P N c=some s->s.strip=s:=by
 intro c;induction c with
 |skip=>intro s h;simp[fR]at h;subst h;rfl
 | region id ops draw=>
  intro s h;simp only[fR]at h;split at h
  ·rename_i s' ew;cases h;exact Qxw ew
  ·split at h
   ·cases h;rfl
   ·cases h
 |seq x y kP wM=>intro s h;simp only[fR,Kab,Kaa]at h;obtain⟨sx,hx,sy,hy,rfl⟩:=h;simp only[SC.strip,kP _ hx,wM _ hy]
 |cond c x y kP wM=>intro s h;simp only[fR,Kab,Kaa]at h;obtain⟨pc,gq,sx,hx,sy,hy,rfl⟩:=h;simp only[SC.strip,kP _ hx,wM _ hy]
 |block id x kP=>intro s h;simp only[fR,Kaa]at h;obtain⟨sx,hx,rfl⟩:=h;simp only[SC.strip,kP _ hx]
 |loop x kP=>intro s h;simp only[fR,Kaa]at h;obtain⟨sx,hx,rfl⟩:=h;simp only[SC.strip,kP _ hx]
 |exit id=>intro s h;simp[fR]at h;subst h;rfl
 |ret=>intro s h;simp[fR]at h;subst h;rfl
 |_=>intro s h;simp[fR]at h
structure aA where
 n:Nat
 rs:List RV
 body:SC
 deriving Inhabited
def Qe(P:Program)(f:Func):Option aA:=
 f.body.bind fun c=>(fR P f.ntmps c).bind fun b=>(f.results.toList.mapM (mG P)).map fun rs=>⟨f.ntmps,rs,b⟩
def aA.strip(s:aA):aA:=⟨s.n,s.rs,s.body.strip⟩
abbrev Zo(o:cB)(r:RT):RT:=.o none o r
abbrev Zg(g:Nat)(b:Bool)(o:cB)(r:RT):RT:=.o (some (g,b)) o r
abbrev Zm(d x:Nat)(r:RT):RT:=.o none (.mv d (.t x)) r
abbrev Zc(d:Nat)(n:Int)(r:RT):RT:=.o none (.mv d (.c (.int .i64 n))) r
abbrev Zf(d o x:Nat)(r:RT):RT:=.o none (.cC d o (.t x)) r
abbrev Zl(d n x:Nat)(r:RT):RT:=.o none (.ld d n false (.t x)) r
abbrev Zh(d n x:Nat)(r:RT):RT:=.o none (.ld d n true (.t x)) r
abbrev Zs(n x v:Nat)(r:RT):RT:=.o none (.st n (.t x) (.t v)) r
abbrev Zi(d e x i:Nat)(r:RT):RT:=.o none (.idx d e (.t x) (.t i)) r
abbrev Zb(d:Nat)(o:BinOp)(x y:Nat)(r:RT):RT:=.o none (.bin d o false (.t x) (.t y)) r
abbrev Zk(d:Nat)(o:BinOp)(x:Nat)(n:Int)(r:RT):RT:=.o none (.bin d o false (.t x) (.c (.int .i64 n))) r
abbrev Zn(d x:Nat)(r:RT):RT:=.o none (.len d (.t x)) r
abbrev Zu(d x:Nat)(r:RT):RT:=.o none (.un d .not (.t x)) r
abbrev Zq(d:Nat)(p:Bool)(f:Nat)(l:List aP)(r:RT):RT:=.o none (.call (some d) p (.c (.fn f [] [])) l) r
abbrev Zr(r:RT)(y:SC):SC:=.seq (.rg r) y
abbrev Zz(n:Int):PV:=.int .i64 n
theorem D0{p:Prop}(h:p:=by first|omega|rfl|(simp+decide only[go_sem]<;>rfl)|fail):p:=h
theorem D1{p A0:Prop}(x0:A0)(h:A0->p:=by intro x0;first|omega|rfl|(simp+decide only[go_sem,x0]<;>rfl)|fail):p:=h x0
theorem D2{p A0 A1:Prop}(x0:A0)(x1:A1)(h:A0->A1->p:=by intro x0 x1;first|omega|rfl|(simp+decide only[go_sem,x0,x1]<;>rfl)|fail):p:=h x0 x1
theorem D3{p A0 A1 A2:Prop}(x0:A0)(x1:A1)(x2:A2)(h:A0->A1->A2->p:=by intro x0 x1 x2;first|omega|rfl|(simp+decide only[go_sem,x0,x1,x2]<;>rfl)|fail):p:=h x0 x1 x2
theorem D4{p A0 A1 A2 A3:Prop}(x0:A0)(x1:A1)(x2:A2)(x3:A3)(h:A0->A1->A2->A3->p:=by intro x0 x1 x2 x3;first|omega|rfl|(simp+decide only[go_sem,x0,x1,x2,x3]<;>rfl)|fail):p:=h x0 x1 x2 x3
theorem D5{p A0 A1 A2 A3 A4:Prop}(x0:A0)(x1:A1)(x2:A2)(x3:A3)(x4:A4)(h:A0->A1->A2->A3->A4->p:=by intro x0 x1 x2 x3 x4;first|omega|rfl|(simp+decide only[go_sem,x0,x1,x2,x3,x4]<;>rfl)|fail):p:=h x0 x1 x2 x3 x4
theorem D6{p A0 A1 A2 A3 A4 A5:Prop}(x0:A0)(x1:A1)(x2:A2)(x3:A3)(x4:A4)(x5:A5)(h:A0->A1->A2->A3->A4->A5->p:=by intro x0 x1 x2 x3 x4 x5;first|omega|rfl|(simp+decide only[go_sem,x0,x1,x2,x3,x4,x5]<;>rfl)|fail):p:=h x0 x1 x2 x3 x4 x5
theorem E0{p:Prop}(h:p:=by first|omega|rfl|(simp+decide only[go_sem,et,Kax,KaC,Kau,KaA,Kak]<;>rfl)|fail):p:=h
theorem E1{p A0:Prop}(x0:A0)(h:A0->p:=by intro x0;first|omega|rfl|(simp+decide only[go_sem,et,Kax,KaC,Kau,KaA,Kak,x0]<;>rfl)|fail):p:=h x0
theorem E2{p A0 A1:Prop}(x0:A0)(x1:A1)(h:A0->A1->p:=by intro x0 x1;first|omega|rfl|(simp+decide only[go_sem,et,Kax,KaC,Kau,KaA,Kak,x0,x1]<;>rfl)|fail):p:=h x0 x1
abbrev Fr:=Nat->PV
structure HB where
 e:Nat
 ty:TypeId
 xs:List PV
 fz:Bool
abbrev HP:=Nat->Option HB
def af(f:Fr)(a:Nat)(v:PV):Fr:=fun b=>if b=a then v else f b
def Qz(h:HP)(a:Nat)(v:HB):HP:=fun b=>if b=a then some v else h b
def bI:Fr:=fun _=>.undef
def aF:HP:=fun _=>none
def cd(β:Nat):Bool:=decide (1000000<=β)
def bN(β:Nat):Bool:=decide (1000000<=β)&&decide (β<2000000)
def ji(β:Nat):Bool:=decide (1500000<=β)&&decide (β<2000000)
theorem Ex{β:Nat}(h:bN β=false):ji β=false:=by simp[bN]at h;simp[ji];omega
theorem vA{β:Nat}(h:cd β=false):bN β=false:=by simp[cd]at h;simp[bN];omega
def PV.bS:PV->List Nat
 |.mp β _ _=>[β]
 |.ax β _ _| .rb β _ _=>[β]
 |_=>[]
def PV.refs:PV->List Nat
 |.mp β _ _=>[β]
 |.ax β _ _| .rb β _ _=>[β]
 |.fn _ first cap=>first.flatMap PV.bS++cap.flatMap PV.bS
 |_=>[]
def PV.kQ:PV->Bool
 |.mp .. | .ax .. | .rb .. | .int .. | .bool _| .aa| .sl .. | .pt _| .np .. | .aM .. =>true
 |_=>false
def PV.dZ:PV->List Nat
 |.ax β _ _=>[β]
 |.aM γ _ _| .np γ _ _=>[γ]
 |_=>[]
def PV.eI:PV->List Nat
 |.aM γ _ _| .np γ _ _=>[γ]
 |_=>[]
def PV.bW:PV->List Nat
 |.aM γ _ _| .np γ _ _=>[γ]
 |.aX cs=>cs.flatMap PV.dZ
 |.ff cs=>cs.flatMap PV.dZ
 |.fg cs _=>cs.flatMap PV.dZ
 |.aN γ _ _ xs=>γ::xs.flatMap fun x=>x.bl.flatMap PV.dZ
 |.fn _ first cap=>first.flatMap PV.eI++cap.flatMap PV.eI
 |_=>[]
def bZ(β:Nat)(p:PV):PV:=if p.refs.contains β then .undef else p
def cK(β:Nat)(fr:Fr):Fr:=fun i=>bZ β (fr i)
def cE(hp:HP):PV->PV
 |.mp β i o=>if bN β then .undef else match hp β with
  |some hb=>match hb.xs[i]? with
   |some x=>.pt (x.cells.drop o)
   |none=>.undef
  |none=>.undef
 |.ax β o n=>if bN β then .undef else match hp β with
  |some hb=>.sl hb.e ((hb.xs.drop o).take n)
  |none=>.undef
 |.rb _ _ _| .aM _ _ _| .np _ _ _| .aX _| .ff _| .fg _ _| .aN _ _ _ _=>.undef
 |p=>p
def aK(hp:HP):PV->PV
 |.fn f first cap=>.fn f (first.map (cE hp)) (cap.map (cE hp))
 |p=>cE hp p
def cf(hp:HP)(l:List Nat):HP:=fun β=>if l.contains β then(hp β).map fun hb=>{ hb with fz:=true }else hp β
def ev(fr:Fr):aP->PV
 |.t n=>fr n
 |.c p=>p
def eR:Bool->Nat->Nat->PV->PV
 |true,n,o,x=>.agg ((x.cells.drop o).take n)
 |false,_,o,x=>(x.cells.drop o).headD .undef
def rE(x:PV)(o:Nat)(v:PV):PV:=.agg (x.cells.take o++v.cells++x.cells.drop (o+v.cells.length))
def PV.oD:PV->Bool
 |.ax .. | .aM .. | .undef=>true
 |_=>false
def nU(cs:List PV):PV:=if cs.any PV.oD then .aX cs else .agg cs
def g8:List PV->PV
 | [c]=>c
 |cs=>nU cs
def rB(ag:Bool)(n o:Nat)(x:PV):PV:=if ag then nU ((x.bl.drop o).take n)else(x.bl.drop o).headD .undef
def fI:PV->Option (List PV)
 |.aX cs=>if cs.all PV.ik then some cs else none
 |.aM γ o n=>some [.aM γ o n]
 |.ax β o n=>if cd β then some [.ax β o n]else none
 |.int k n=>some [.int k n]
 |.bool b=>some [.bool b]
 |.aa=>some [.aa]
 |.sl e xs=>some [.sl e xs]
 |.pt cs=>some [.pt cs]
 |.agg cs=>some cs
 |_=>none
def pQ(l:List PV)(o:Nat)(cs:List PV):List PV:=l.take o++cs++l.drop (o+cs.length)
def jo(γ:Nat):PV->PV
 |.aN bF e ty xs=>if bF=γ then .undef else .aN bF e ty xs
 |p=>p
def iR(γ:Nat)(fr:Fr):Fr:=fun i=>jo γ (fr i)
def iE(β:Nat):PV->PV
 |.ax dB o n=>if dB=β then .undef else .ax dB o n
 |.aM γ o n=>if γ=β then .undef else .aM γ o n
 |p=>p
def dh(β:Nat):PV->PV
 |.aN γ e ty xs=>if γ=β then .undef else .aN γ e ty (xs.map fun x=>g8 (x.bl.map (iE β)))
 |.aX cs=>.aX (cs.map (iE β))
 |.ff cs=>.ff (cs.map (iE β))
 |.fg cs q=>.fg (cs.map (iE β)) q
 |.aM γ o n=>if γ=β then .undef else .aM γ o n
 |.np γ i o=>if γ=β then .undef else .np γ i o
 |.fn f first cap=>if(first.flatMap PV.eI++cap.flatMap PV.eI).contains β then .undef else bZ β (.fn f first cap)
 |p=>bZ β p
def fT(β:Nat)(fr:Fr):Fr:=fun i=>dh β (fr i)
abbrev Qh:=Fr->HP->Prop
def cg(op:BinOp)(bt:Bool)(a b:PV)(d:Nat)(fr:Fr)(hp:HP)(K:Qh):Prop:=
 match a,b with
 |.int k x,.int k' y=>
  match op with
  |.shl=>0<=y/\K (af fr d (.int k (k.wrap (x*2^(min y.toNat k.bits))))) hp
  |.shr=>0<=y/\K (af fr d (.int k (x.fdiv (2^(min y.toNat k.bits))))) hp
  |.add=>k=k'/\K (af fr d (.int k (k.wrap (x+y)))) hp
  |.sub=>k=k'/\K (af fr d (.int k (k.wrap (x-y)))) hp
  |.mul=>k=k'/\K (af fr d (.int k (k.wrap (x*y)))) hp
  |.quo=>k=k'/\y≠0/\K (af fr d (.int k (k.wrap (x.tdiv y)))) hp
  |.rem=>k=k'/\y≠0/\K (af fr d (.int k (x.tmod y))) hp
  |.and=>k=k'/\K (af fr d (.int k (k.wrap (BitVec.ofInt k.bits x&&&BitVec.ofInt k.bits y).toNat))) hp
  |.or=>k=k'/\K (af fr d (.int k (k.wrap (BitVec.ofInt k.bits x|||BitVec.ofInt k.bits y).toNat))) hp
  |.xor=>k=k'/\K (af fr d (.int k (k.wrap (BitVec.ofInt k.bits x^^^BitVec.ofInt k.bits y).toNat))) hp
  |.andNot=>False
  |.eql=>k=k'/\K (af fr d (.bool (decide (x=y)))) hp
  |.neq=>k=k'/\K (af fr d (.bool (!decide (x=y)))) hp
  |.lss=>k=k'/\K (af fr d (.bool (decide (x<y)))) hp
  |.leq=>k=k'/\K (af fr d (.bool (decide (x<=y)))) hp
  |.gtr=>k=k'/\K (af fr d (.bool (decide (y<x)))) hp
  |.geq=>k=k'/\K (af fr d (.bool (decide (y<=x)))) hp
 |.bool x,.bool y=>
  match op with
  |.eql=>bt=true/\K (af fr d (.bool (x==y))) hp
  |.neq=>bt=true/\K (af fr d (.bool (!(x==y)))) hp
  |_=>False
 |_,_=>False
def qP(ng:Bool)(a b:PV)(d:Nat)(fr:Fr)(hp:HP)(K:Qh):Prop:=
 match a,b with
 |.agg [.int k x,.int l y],.agg [.int k' x',.int l' y']=>k=k'/\l=l'/\K (af fr d (.bool (ng !=(decide (x=x')&&decide (y=y'))))) hp
 |_,_=>False
def qQ(ng:Bool)(a b:PV)(d:Nat)(fr:Fr)(hp:HP)(K:Qh):Prop:=
 match a,b with
 |.str x,.str y=>K (af fr d (.bool (ng !=decide (x=y)))) hp
 |_,_=>False
def vR(a:PV)(d:Nat)(fr:Fr)(hp:HP)(K:Qh):Prop:=
 match a with
 |.str s=>K (af fr d (.int .i64 s.size)) hp
 |_=>False
def tT(a i:PV)(d:Nat)(fr:Fr)(hp:HP)(K:Qh):Prop:=
 match a,i with
 |.str s,.int _ n=>0<=n/\n<s.size/\K (af fr d (.int .u8 (s.get! n.toNat).toNat)) hp
 |_,_=>False
def sh(c a b:PV)(d:Nat)(fr:Fr)(hp:HP)(K:Qh):Prop:=
 match c with
 |.bool t=>(t=true->K (af fr d a) hp)/\(t=false->K (af fr d b) hp)
 |_=>False
def uP(op:UnOp)(a:PV)(d:Nat)(fr:Fr)(hp:HP)(K:Qh):Prop:=
 match op,a with
 |.not,.bool b=>K (af fr d (.bool !b)) hp
 |.neg,.int k n=>K (af fr d (.int k (k.wrap (0-n)))) hp
 |_,_=>False
def vI(k:IntKind)(a:PV)(d:Nat)(fr:Fr)(hp:HP)(K:Qh):Prop:=
 match a with
 |.int _ n=>K (af fr d (.int k (k.wrap n))) hp
 |_=>False
def oN(a:PV)(d:Nat)(fr:Fr)(hp:HP)(K:Qh):Prop:=
 match a with
 |.aa=>K (af fr d (.int .i64 0)) hp
 |.sl _ xs=>K (af fr d (.int .i64 xs.length)) hp
 |.ax _ _ n=>K (af fr d (.int .i64 n)) hp
 |.aM _ _ n=>K (af fr d (.int .i64 n)) hp
 |_=>False
def wQ(a b:PV)(d:Nat)(fr:Fr)(hp:HP)(K:Qh):Prop:=
 match a,b with
 |.int k x,.int _ y=>K (af fr d (.int k (max x y))) hp
 |_,_=>False
def wP(a b:PV)(d:Nat)(fr:Fr)(hp:HP)(K:Qh):Prop:=
 match a,b with
 |.int k x,.int _ y=>K (af fr d (.int k (min x y))) hp
 |_,_=>False
def dR(e:Nat)(a i:PV)(d:Nat)(fr:Fr)(hp:HP)(K:Qh):Prop:=
 match a,i with
 |.sl e' xs,.int _ n=>e=e'/\0<=n/\∃h:n.toNat<xs.length,K (af fr d (.pt (xs[n.toNat]'h).cells)) hp
 |.ax β o m,.int _ n=>0<=n/\n.toNat<m/\(hp β).map (·.e)=some e/\K (af fr d (.mp β (o+n.toNat) 0)) hp
 |.aM γ o m,.int _ n=>0<=n/\n.toNat<m/\(hp γ).map (·.e)=some e/\K (af fr d (.np γ (o+n.toNat) 0)) hp
 |_,_=>False
def qK(len e:Nat)(a i:PV)(d:Nat)(fr:Fr)(hp:HP)(K:Qh):Prop:=
 match a,i with
 |.mp β j o,.int _ n=>0<=n/\n<len/\K (af fr d (.mp β j (o+n.toNat*e))) hp
 |.pt cs,.int _ n=>0<=n/\n<len/\n.toNat*e<=cs.length/\K (af fr d (.pt (cs.drop (n.toNat*e)))) hp
 |_,_=>False
def ym(len e:Nat)(ag:Bool)(a i:PV)(d:Nat)(fr:Fr)(hp:HP)(K:Qh):Prop:=
 match a,i with
 |.agg cs,.int _ n=>0<=n/\n<len/\n.toNat*e+e<=cs.length/\(ag=false->e=1)/\K (af fr d (eR ag e (n.toNat*e) (.agg cs))) hp
 |_,_=>False
def qR(off:Nat)(a:PV)(d:Nat)(fr:Fr)(hp:HP)(K:Qh):Prop:=
 match a with
 |.mp β i o=>K (af fr d (.mp β i (o+off))) hp
 |.np γ i o=>K (af fr d (.np γ i (o+off))) hp
 |.pt cs=>off<=cs.length/\K (af fr d (.pt (cs.drop off))) hp
 |_=>False
def qL(off n:Nat)(ag:Bool)(a:PV)(d:Nat)(fr:Fr)(hp:HP)(K:Qh):Prop:=
 match a with
 |.agg cs=>off+n<=cs.length/\(ag=false->n=1)/\K (af fr d (eR ag n off (.agg cs))) hp
 |.aX cs=>off+n<=cs.length/\(ag=false->n=1)/\K (af fr d (rB ag n off (.aX cs))) hp
 |_=>False
def kT(n:Nat)(ag:Bool)(a:PV)(d:Nat)(fr:Fr)(hp:HP)(K:Qh):Prop:=
 match a with
 |.mp β i o=>match hp β with
  |some hb=>∃h:i<hb.xs.length,o+n<=hb.e/\(ag=false->n=1)/\K (af fr d (eR ag n o (hb.xs[i]'h))) hp
  |none=>False
 |.pt cs=>n<=cs.length/\(ag=false->n=1)/\K (af fr d (eR ag n 0 (.agg cs))) hp
 |.rb β o m=>n=1/\ag=false/\K (af fr d (.ax β o m)) hp
 |.np γ i o=>match fr γ with
  |.aN bF e _ xs=>bF=γ/\∃h:i<xs.length,o+n<=e/\(ag=false->n=1)/\K (af fr d (rB ag n o (xs[i]'h))) hp
  |_=>False
 |_=>False
def ph (n:Nat) (a v:PV) (fr:Fr) (hp:HP) (K:Qh):Prop:=
 match a with
 |.mp β i o=>match cf hp v.refs β with
  | some hb=>hb.fz=false/\(aK hp v).aE=true/\(aK hp v).cells.length=n/\∃h:i<hb.xs.length,o+n<=hb.e/\
    K fr (Qz (cf hp v.refs) β { hb with xs:=hb.xs.set i (if n=hb.e then aK hp v else rE (hb.xs[i]'h) o (aK hp v)) })
  |none=>False
 |.np γ i o=>match fr γ with
  |.aN bF e ty xs=>bF=γ/\(∃hb,hp γ=some hb/\hb.fz=false)/\∃h:i<xs.length,o+n<=e/\match fI v with
   |some cs=>cs.length=n/\K (af (iR γ fr) γ (.aN γ e ty (xs.set i (g8 (pQ (xs[i]'h).bl o cs))))) hp
   |none=>False
  |_=>False
 |_=>False
def de(d:Nat):Nat:=4000000+d
def tR(n ty:Nat)(cs:List PV)(d:Nat)(fr:Fr)(hp:HP)(K:Qh):Prop:=
 (cs.length=n/\0<n/\cs.all PV.ik=true/\cs.all (fun x=> !(x.dZ.contains (de d)))=true)/\
  K (af (af (fT (de d) fr) (de d) (.aN (de d) n ty [.aX cs])) d (.np (de d) 0 0)) (Qz hp (de d) ⟨n,ty,[],false⟩)
def gd(n ty:Nat)(v:PV)(d:Nat)(fr:Fr)(hp:HP)(K:Qh):Prop:=
 match v with
 |.aX cs=>tR n ty cs d fr hp K
 |v=>match(match v with| .ax β o m=>if bN β then some (β,o,m)else none|_=>none)with
 |some (β,o,m)=>K (af fr d (.rb β o m)) hp
 |none=>
 (aK hp v).aE=true/\(aK hp v).cells.length=n/\0<n/\K (af (cK d fr) d (.mp d 0 0)) (Qz (cf hp v.refs) d ⟨n,ty,[aK hp v],false⟩)
def nE(e by_ ty:Nat)(z l c:PV)(d:Nat)(fr:Fr)(hp:HP)(K:Qh):Prop:=
 match l,c with
 |.int _ L,.int _ C=>0<e/\z.cells.length=e/\0<=L/\L<=C/\by_*C<=281474976710656/\C<=9223372036854775807/\
   K (af (cK d fr) d (.ms d L.toNat)) (Qz hp d ⟨e,ty,List.replicate L.toNat z,false⟩)
 |_,_=>False
def Iz(hp:HP)(e:Nat)(ps:List PV):Prop:=∀p∈ps,(aK hp p).aE=true/\(aK hp p).cells.length=e
def lT:PV->Bool
 |.ax β 0 _=>decide (5000000<=β)
 |_=>false
def oO:List PV->Bool
 | [x]=>lT x
 |_=>false
def Vu(e ty:Nat)(ps:List PV)(d:Nat)(fr:Fr)(hp:HP)(K:Qh):Prop:=
 e=1/\K (af (af (fT (de d) fr) (de d) (.aN (de d) 1 ty ps)) d (.aM (de d) 0 1)) (Qz hp (de d) ⟨1,ty,[],false⟩)
def yn (e by_ ty:Nat) (s x:PV) (d:Nat) (fr:Fr) (hp:HP) (K:Qh):Prop:=
 match x with
 |.aM δ 0 1=>match fr δ with
  |.aN N5 1 _ [y]=>N5=δ/\lT y=true/\e=1/\
   match s with
   |.aa=>by_<=140737488355328/\K (af (af (fT (de d) fr) (de d) (.aN (de d) 1 ty [y])) d (.aM (de d) 0 1)) (Qz hp (de d) ⟨1,ty,[],false⟩)
   |.aM γ 0 k=>match fr γ with
    |.aN bF 1 oE xs=>(bF=γ/\γ<5000000/\bN γ=false/\oE=ty/\k=xs.length/\xs.all lT=true/\(k+1)*by_<=140737488355328/\k+1<=9223372036854775807)/\(∃hb,hp γ=some hb/\hb.fz=false)/\
      K (af (af (fT γ fr) γ (.aN γ 1 ty (xs++[y]))) d (.aM γ 0 (k+1))) (Qz hp γ ⟨1,ty,[],false⟩)
    |_=>False
   |_=>False
  |_=>False
 |_=>False
def EH(e ty:Nat)(ps:List PV)(d:Nat)(fr:Fr)(hp:HP)(K:Qh):Prop:=
 0<e/\Iz hp e ps/\K (af (cK d fr) d (.ms d ps.length)) (Qz (cf hp (ps.flatMap PV.refs)) d ⟨e,ty,ps.map (aK hp),false⟩)
def og(e ty:Nat)(ps:List PV)(d:Nat)(fr:Fr)(hp:HP)(K:Qh):Prop:=if oO ps=true then Vu e ty ps d fr hp K else EH e ty ps d fr hp K
def jE(hp:HP):PV->Option (Nat×List PV)
 |.aa=>some (0,[])
 |.sl e xs=>some (e,xs)
 |.ax β o n=>(hp β).map fun hb=>(hb.e,(hb.xs.drop o).take n)
 |_=>none
def iU (e by_ ty:Nat) (s x:PV) (d:Nat) (fr:Fr) (hp:HP) (K:Qh):Prop:=
 match jE hp x with
 |none=>yn e by_ ty s x d fr hp K
 | some (e',ys)=>0<e/\(e'=e∨ys=[])/\
  match s with
  |.aa=>ys.length*by_<=140737488355328/\ys.length<=9223372036854775807/\
    K (af (cK d fr) d (.ms d ys.length)) (Qz hp d ⟨e,ty,ys,false⟩)
  |.ax β 0 n=>match hp β with
   | some hb=>(cd β=false/\hb.fz=false/\hb.e=e/\hb.ty=ty/\n<=hb.xs.length/\(n+ys.length)*by_<=140737488355328/\n+ys.length<=9223372036854775807/\
     K (af (cK β fr) d (.ms β (n+ys.length))) (Qz hp β ⟨e,ty,hb.xs.take n++ys,false⟩))∨
    (cd β=true/\bN β=false/\(ys≠[]/\hb.fz=false/\hb.e=e/\hb.ty=ty/\n<=hb.xs.length/\(n+ys.length)*by_<=140737488355328/\n+ys.length<=9223372036854775807)/\
     K (af (fT β fr) d (.ms β (n+ys.length))) (Qz hp β ⟨e,ty,hb.xs.take n++ys,false⟩))
   |none=>False
  |_=>False
def tS (e:Nat) (s x:PV) (d:Nat) (fr:Fr) (hp:HP) (K:Qh):Prop:=
 match jE hp x,s with
 |some (e',ys),.ax β 0 n=>match hp β with
  | some hb=>0<e/\hb.fz=false/\hb.e=e/\(e'=e∨ys=[])/\n=hb.xs.length/\
    K (af fr d (.int .i64 (min (ys.length:Int) n))) (Qz hp β { hb with xs:=ys.take n++hb.xs.drop ys.length })
  |none=>False
 |_,_=>False
def iD(d:Int):Option PV->Option Int
 |none=>some d
 |some (.int _ n)=>some n
 |some _=>none
def iM(e:Nat)(a:PV)(lo hi mx:Option PV)(d:Nat)(fr:Fr)(hp:HP)(K:Qh):Prop:=
 match a with
 |.aa=>match iD 0 lo,iD 0 hi,iD 0 mx with
  |some L,some H,some M=>L=0/\H=0/\M=0/\(mx.isSome->hi.isSome)/\K (af fr d .aa) hp
  |_,_,_=>False
 |.sl e' xs=>match iD 0 lo,iD xs.length hi,iD xs.length mx with
  |some L,some H,some M=>e'=e/\0<=L/\L<=H/\H<=M/\M<=xs.length/\(mx.isSome->hi.isSome)/\K (af fr d (.sl e ((xs.take H.toNat).drop L.toNat))) hp
  |_,_,_=>False
 |.ax β o n=>match iD 0 lo,iD n hi,mx with
  |some L,some H,none=>(hp β).map (·.e)=some e/\0<=L/\L<=H/\H<=n/\(L=0∨L<n)/\K (af fr d (.ax β (o+L.toNat) (H.toNat-L.toNat))) hp
  |_,_,_=>False
 |_=>False
def kJ(a:PV)(i:Nat)(d:Nat)(fr:Fr)(hp:HP)(K:Qh):Prop:=
 match a with
 |.au ps=>match ps[i]? with
  |some p=>p.aE=true/\K (af fr d p) hp
  |none=>False
 |.ff ps=>match ps[i]? with
  |some p=>K (af fr d p) hp
  |none=>False
 |.fg cs q=>match i with
  |0=>K (af fr d (.aX cs)) hp
  |1=>K (af fr d q) hp
  |_=>False
 |_=>False
def ir(cells:List PV):List (Nat×List PV)->List PV
 | []=>cells
 |(o,xs)::r=>ir (cells.take o++xs++cells.drop (o+xs.length)) r
def Gi(hp:HP)(len:Nat)(ps:List (Nat×Nat×PV)):Prop:=∀p∈ps,(aK hp p.2.2).aE=true/\(aK hp p.2.2).cells.length=p.2.1/\p.1+p.2.1<=len
def AJ(zero:List PV)(ps:List (Nat×Nat×PV))(d:Nat)(fr:Fr)(hp:HP)(K:Qh):Prop:=
 Gi hp zero.length ps/\K (af fr d (.agg (ir zero (ps.map fun p=>(p.1,(aK hp p.2.2).cells))))) (cf hp (ps.flatMap fun p=>p.2.2.refs))
def PV.kS:PV->Bool
 |.aM .. | .aX _=>true
 |.ax β _ _=>decide (2000000<=β)
 |_=>false
def tG(len:Nat)(ps:List (Nat×Nat×PV)):Prop:=∀p∈ps,∃cs,fI p.2.2=some cs/\cs.length=p.2.1/\p.1+p.2.1<=len
def kK(zero:List PV)(ps:List (Nat×Nat×PV))(d:Nat)(fr:Fr)(hp:HP)(K:Qh):Prop:=
 if ps.any (fun p=>p.2.2.kS)then tG zero.length ps/\K (af fr d (.aX (ir zero (ps.map fun p=>(p.1,(fI p.2.2).getD []))))) hp
 else AJ zero ps d fr hp K
def AK(a:PV)(d:Option Nat)(fr:Fr)(hp:HP)(K:Qh):Prop:=
 match a,d with
 |.mp _ _ _,some d| .pt _,some d| .fn _ _ _,some d=>K (af fr d a) hp
 |.mp _ _ _,none| .pt _,none| .fn _ _ _,none=>K fr hp
 |_,_=>False
structure Ctx where
 P:Program
 N:Nat
 w0:World
 X0:Nat->Prop
 Fg:∀b,X0 b->b<w0.heap.size
 hN:N<=1000000
 fx:Nat->Option Nat
 oZ:∀β b,fx β=some b->b<w0.heap.size/\(ji β=false->¬X0 b)
 Z0:Nat->Prop
 MA:∀b,Z0 b->b<w0.heap.size/\¬X0 b/\∀β,fx β≠some b
@[reducible] def Ctx.plain (P : Program) (N : Nat) (w : World) (X : Nat -> Prop) (hX : ∀ b, X b -> b < w.heap.size) (hN : N <= 1000000) : Ctx :=
 ⟨P, N, w, X, hX, hN, fun _ => none, (fun _ _ h => nomatch h), bT, fun _ h => h.elim⟩
def Ctx.Y0(C:Ctx):Nat->Prop:=fun b=>(∃β,ji β=false/\C.fx β=some b)∨C.Z0 b
theorem Ctx.hY0(C:Ctx):∀b,C.Y0 b->b<C.w0.heap.size/\¬C.X0 b
 |b,.inl ⟨β,hr,h⟩=>⟨(C.oZ β b h).1,(C.oZ β b h).2 hr⟩
 |b,.inr h=>⟨(C.MA b h).1,(C.MA b h).2.1⟩
theorem Ctx.NN{P:Program}{N:Nat}{w w':World}{X:Nat->Prop}{hX:∀b,X b->b<w.heap.size}{hN:N<=1000000}(h:Ext (Ctx.plain P N w X hX hN).Y0 w w'):Ext bT w w':=
 h.mono fun b _ hb=>by
  rcases hb with⟨β,_,hb⟩|hb
  ·cases hb
  ·exact hb
def Ctx.cls(C:Ctx)(β b:Nat):Prop:=if bN β=true then C.fx β=some b else C.w0.heap.size<=b∨C.Z0 b
theorem Ctx.Ma{C:Ctx}{β b:Nat}(h:C.cls β b)(hr:ji β=false):C.w0.heap.size<=b∨C.Y0 b:=by
 unfold Ctx.cls at h;split at h
 ·exact .inr (.inl ⟨β,hr,h⟩)
 ·exact h.imp id .inr
theorem Ctx.EJ{C:Ctx}{β b:Nat}(h:C.cls β b)(hB:bN β=false):C.w0.heap.size<=b∨C.Z0 b:=by
 unfold Ctx.cls at h
 rwa[if_neg (by simp[hB])]at h
theorem Ctx.amH{C:Ctx}{β b:Nat}(h:C.w0.heap.size<=b∨C.Z0 b)(hB:bN β=false):C.cls β b:=by
 unfold Ctx.cls
 rwa[if_neg (by simp[hB])]
theorem Ctx.Ya{C:Ctx}{b:Nat}(h:C.w0.heap.size<=b∨C.Z0 b):C.w0.heap.size<=b∨C.Y0 b:=h.imp id .inr
theorem Ctx.Yb{C:Ctx}{β b:Nat}(h:C.w0.heap.size<=b∨C.Z0 b):C.fx β≠some b:=fun e=>by
 rcases h with h|h
 ·have:=(C.oZ β b e).1;omega
 ·exact(C.MA b h).2.2 β e
theorem Ctx.L9{C:Ctx}{β b:Nat}(h:C.cls β b)(hr:ji β=false):¬C.X0 b:=fun hx=>by
 rcases Ctx.Ma h hr with h|h
 ·have:=C.Fg b hx;omega
 ·exact(C.hY0 b h).2 hx
def aH(C:Ctx)(ρ:Nat->Option Nat)(hp:HP):Nat->Prop:=fun b=>C.X0 b∨∃β hb,hp β=some hb/\hb.fz=false/\ρ β=some b
def du(w:World)(b e cap:Nat):Prop:=∃cur ty,w.heap[b]? =some (.cells cur ty (0,0))/\cur.size=cap*e
def yd(w:World)(X:Nat->Prop)(b:Nat)(hb:HB):Prop:=
 ∃(cur:Array Value)(cap:Nat),w.heap[b]? =some (.cells cur hb.ty (0,0))/\cur.size=cap*hb.e/\hb.xs.length<=cap/\cap<=maxLen/\
  ∀(i:Nat)(x:PV),hb.xs[i]? =some x->∀(j:Nat)(y:PV),x.cells[j]? =some y->Qu w X y (cur.getD (i*hb.e+j) undef)
structure Yc(C:Ctx)(ρ:Nat->Option Nat)(hp:HP)(w:World)(β:Nat)(hb:HB):Prop where
 l6:0<hb.e
 len:∀(i:Nat)(x:PV),hb.xs[i]? =some x->x.cells.length=hb.e/\x.aE=true
 eg:match ρ β with
  |none=>hb.xs=[]
  |some b=>C.cls β b/\b<w.heap.size/\yd w (aH C ρ hp) b hb
 fix:bN β=true->ρ β=C.fx β
 ro:ji β=true->hb.fz=true
def eU(ρ:Nat->Option Nat)(hp:HP)(w:World)(β o n:Nat)(v:Value):Prop:=
 ∃ hb,hp β=some hb/\o+n<=hb.xs.length/\((ρ β=none/\v= .slice none 0 0/\n=0/\o=0)∨
   ∃b cap,ρ β=some b/\v= .slice (some ⟨b,o*hb.e,none⟩) n cap/\du w b hb.e (o+cap)/\o+cap<=maxLen)
def oa(ρ:Nat->Option Nat)(hp:HP)(w:World)(γ o n:Nat)(v:Value):Prop:=
 cd γ=true/\∃hb b cap,hp γ=some hb/\ρ γ=some b/\v= .slice (some ⟨b,o*hb.e,none⟩) n cap/\du w b hb.e (o+cap)/\o+cap<=maxLen/\n<=cap
def cV(C:Ctx)(ρ:Nat->Option Nat)(hp:HP)(w:World):PV->Value->Prop
 |.undef,_=>True
 |.ax β o n,v=>cd β=true/\eU ρ hp w β o n v
 |.aM γ o n,v=>oa ρ hp w γ o n v
 |p,v=>Qu w (aH C ρ hp) p v
def cW(C:Ctx)(ρ:Nat->Option Nat)(hp:HP)(w:World):PV->Value->Prop
 |.mp β i o,v=>∃b hb,ρ β=some b/\hp β=some hb/\v= .pointer (some ⟨b,i*hb.e+o,none⟩)
 |.ax β o n,v=>eU ρ hp w β o n v
 |.rb β o n,v=>∃b u,v= .pointer (some ⟨b,0,none⟩)/\b<w.heap.size/\¬aH C ρ hp b/\w.cell? ⟨b,0,none⟩=some u/\eU ρ hp w β o n u
 |.np γ i o,v=>cd γ=true/\∃b hb,ρ γ=some b/\hp γ=some hb/\v= .pointer (some ⟨b,i*hb.e+o,none⟩)
 |.aM γ o n,v=>oa ρ hp w γ o n v
 |p,v=>Qu w (aH C ρ hp) p v
def Qt(C:Ctx)(ρ:Nat->Option Nat)(hp:HP)(w:World):PV->Value->Prop
 |.undef,_=>True
 |.mp β i o,v=>cW C ρ hp w (.mp β i o) v
 |.ax β o n,v=>cW C ρ hp w (.ax β o n) v
 |.rb β o n,v=>cW C ρ hp w (.rb β o n) v
 |.np γ i o,v=>cW C ρ hp w (.np γ i o) v
 |.aM γ o n,v=>cW C ρ hp w (.aM γ o n) v
 |.aX cs,v=>∃vs:Array Value,v= .agg vs/\vs.size=cs.length/\∀(i:Nat)(x:PV),cs[i]? =some x->cV C ρ hp w x (vs.getD i undef)
 |.ff cs,v=>∃vs:Array Value,v= .tuple vs/\vs.size=cs.length/\∀(i:Nat)(x:PV),cs[i]? =some x->cV C ρ hp w x (vs.getD i undef)
 |.fg cs q,v=>∃(vs:Array Value)(u:Value),v= .tuple #[.agg vs,u]/\vs.size=cs.length/\(∀(i:Nat)(x:PV),cs[i]? =some x->cV C ρ hp w x (vs.getD i undef))/\ba w (aH C ρ hp) q u
 |.aN γ e ty xs,_=>cd γ=true/\0<e/\∃(b:Nat) (hb:HB) (cur:Array Value) (cap:Nat),ρ γ=some b/\hp γ=some hb/\hb.xs=[]/\hb.e=e/\hb.ty=ty/\w.heap[b]? =some (.cells cur ty (0,0))/\cur.size=cap*e/\xs.length<=cap/\cap<=maxLen/\
   (∀(i:Nat)(x:PV),xs[i]? =some x->x.bl.length=e)/\∀(i:Nat)(x:PV),xs[i]? =some x->∀(j:Nat)(y:PV),x.bl[j]? =some y->cV C ρ hp w y (cur.getD (i*e+j) undef)
 |.fn f first cap,v=>∃fv cv:Array Value,v= .func (.func f) fv cv/\fv.size=first.length/\cv.size=cap.length/\
   (∀(i:Nat)(x:PV),first[i]? =some x->cW C ρ hp w x (fv.getD i undef))/\(∀(i:Nat)(x:PV),cap[i]? =some x->cW C ρ hp w x (cv.getD i undef))
 |p,v=>dH w (aH C ρ hp) p v
structure aI(C:Ctx)(ρ:Nat->Option Nat)(fr:Fr)(hp:HP)(tmps:Array Value)(w:World):Prop where
 sz:tmps.size=C.N
 ext:Ext C.Y0 C.w0 w
 ij:∀β b,C.fx β=some b->∀e cap,du C.w0 b e cap->du w b e cap
 own:∀β hb,hp β=some hb->Yc C ρ hp w β hb
 inj:∀β γ b,hp β≠none->hp γ≠none->ρ β=some b->ρ γ=some b->β=γ
 fh:∀i,Qt C ρ hp w (fr i) (tmps.getD i undef)
def fl(C:Ctx)(fr:Fr)(hp:HP)(tmps:Array Value)(w:World):Prop:=∃ρ,aI C ρ fr hp tmps w
def XR(tmps:Array Value)(d:Option Nat)(v:Value):Array Value:=match d with|some d=>tmps.setIfInBounds d v|none=>tmps
def Wk(fr:Fr)(hp:HP)(ay:Fr)(an:HP):Prop:=∀(C:Ctx)(tmps:Array Value)(w:World),fl C fr hp tmps w->fl C ay an tmps w
def mQ(C:Ctx)(pr:Bool)(f:PV)(args:List PV)(d:Option Nat)(fr:Fr)(hp:HP)(K:Qh):Prop:=
 match f with
 |.fn g first cap => (C.P.funcs[g]?).any (fun fn => fn.body.isSome && fn.name != "runtime.NumGoroutine") = true /\
  ∀ρ tmps w (fv cv av:Array Value),(∀x,d=some x->x<C.N)->aI C ρ fr hp tmps w->
   fv.size=first.length->cv.size=cap.length->av.size=args.length->
   (∀(i:Nat)(x:PV),first[i]? =some x->cW C ρ hp w x (fv.getD i undef))->(∀(i:Nat)(x:PV),cap[i]? =some x->cW C ρ hp w x (cv.getD i undef))->
   (∀(i:Nat)(x:PV),args[i]? =some x->Qt C ρ hp w x (av.getD i undef))->
   Calls C.P g (fv++av++cv) w fun e w'=>∃v ay an,e= .returned v/\fl C ay an (XR tmps d v) w'/\(pr=true->Ext bT w w')/\K ay an
 |_=>False
def bu(C:Ctx)(o:cB)(fr:Fr)(hp:HP)(K:Qh):Prop:=
 match o with
 |.mv d x=>K (af fr d (ev fr x)) hp
 |.pick d c a b=>sh (ev fr c) (ev fr a) (ev fr b) d fr hp K
 |.bin d op bt x y=>cg op bt (ev fr x) (ev fr y) d fr hp K
 |.eqs d ng x y=>qP ng (ev fr x) (ev fr y) d fr hp K
 |.Ck d ng x y=>qQ ng (ev fr x) (ev fr y) d fr hp K
 |.Cj d x=>vR (ev fr x) d fr hp K
 |.Ci d x i=>tT (ev fr x) (ev fr i) d fr hp K
 |.un d op x=>uP op (ev fr x) d fr hp K
 |.conv d k x=>vI k (ev fr x) d fr hp K
 |.len d x=>oN (ev fr x) d fr hp K
 |.mx d x y=>wQ (ev fr x) (ev fr y) d fr hp K
 |.mn d x y=>wP (ev fr x) (ev fr y) d fr hp K
 |.idx d e x i=>dR e (ev fr x) (ev fr i) d fr hp K
 |.BZ d n e x i=>qK n e (ev fr x) (ev fr i) d fr hp K
 |.B1 d n e ag x i=>ym n e ag (ev fr x) (ev fr i) d fr hp K
 |.cC d off x=>qR off (ev fr x) d fr hp K
 |.yA d off n ag x=>qL off n ag (ev fr x) d fr hp K
 |.ld d n ag x=>kT n ag (ev fr x) d fr hp K
 |.st n x v=>ph n (ev fr x) (ev fr v) fr hp K
 |.box d n ty v=>gd n ty (ev fr v) d fr hp K
 |.alloc d n ty z=>gd n ty z d fr hp K
 |.mk d e by_ ty z l c=>nE e by_ ty z (ev fr l) (ev fr c) d fr hp K
 |.bs d e ty ps=>og e ty (ps.map (ev fr)) d fr hp K
 |.app d e by_ ty s x=>iU e by_ ty (ev fr s) (ev fr x) d fr hp K
 |.uc d e s x=>tS e (ev fr s) (ev fr x) d fr hp K
 |.sl d e x lo hi mx=>iM e (ev fr x) (lo.map (ev fr)) (hi.map (ev fr)) (mx.map (ev fr)) d fr hp K
 |.ext d x i=>kJ (ev fr x) i d fr hp K
 |.bU d zero ps=>kK zero (ps.map fun p=>(p.1,p.2.1,ev fr p.2.2)) d fr hp K
 |.fn d f first cap=>(first.map (ev fr)++cap.map (ev fr)).all PV.kQ=true/\K (af fr d (.fn f (first.map (ev fr)) (cap.map (ev fr)))) hp
 |.call d pr f args=>mQ C pr (ev fr f) (args.map (ev fr)) d fr hp K
 |.B8 d x=>AK (ev fr x) d fr hp K
 |.bad _=>False
def jF(o:cB)(fr:Fr)(hp:HP)(K:Qh):Prop:=
 match o.dst with
 |some d=>K (af fr d (.au [])) hp
 |none=>K fr hp
def oP(C:Ctx)(g:Option (Nat×Bool))(o:cB)(fr:Fr)(hp:HP)(K:Qh):Prop:=
 match g with
 |none=>bu C o fr hp K
 |some (s,want)=>match fr s with
  |.bool t=>(t=want->bu C o (af fr s (.bool want)) hp K)/\(t=(!want)->jF o (af fr s (.bool !want)) hp K)
  |.au []=>jF o fr hp K
  |_=>False
inductive It where
 |c (s:SC)
 |o (r:RT)
 |eb (id:Nat)
 |el (J:Qh)
def RT.sz:RT->Nat
 |.nil=>1
 |.o _ _ r=>r.sz+1
 |.br a b=>a.sz+b.sz+1
 |.wk r=>r.sz+1
def SC.sz:SC->Nat
 |.rg r=>r.sz+1
 |.seq a b=>a.sz+b.sz+1
 |.cond _ a b=>a.sz+b.sz+1
 |.block _ a=>a.sz+2
 |.loop a=>a.sz+2
 |_=>1
def It.sz:It->Nat
 |.c s=>s.sz
 |.o r=>r.sz
 |_=>1
def bY:List It->Nat
 | []=>0
 |i::is=>i.sz+bY is
def cw(id:Nat):List It->Option (List It)
 | []=>none
 |.eb i::sk=>if i=id then some sk else cw id sk
 |_::sk=>cw id sk
theorem zP(id:Nat):∀(sk eS:List It),FW.cw id sk=some eS->bY eS<=bY sk
 | [],_,h=>by simp[FW.cw]at h
 |.c s::sk,eS,h=>by have:=zP id sk eS (by simpa[FW.cw]using h);simp[bY];omega
 |.o s::sk,eS,h=>by have:=zP id sk eS (by simpa[FW.cw]using h);simp[bY];omega
 |.el s::sk,eS,h=>by have:=zP id sk eS (by simpa[FW.cw]using h);simp[bY];omega
 |.eb i::sk,eS,h=>by
  simp only[FW.cw]at h;split at h
  ·cases h;simp[bY]
  ·have:=zP id sk eS h;simp[bY];omega
theorem RT.zg(r:RT):0<r.sz:=by cases r<;>simp[RT.sz]
theorem SC.zg(s:SC):0<s.sz:=by cases s<;>simp[SC.sz]
def vc(C:Ctx)(R:Qh)(sk:List It)(fr:Fr)(hp:HP):Prop:=
 match sk with
 | []=>R fr hp
 |.el J::_=>J fr hp
 |.eb _::sk=>vc C R sk fr hp
 |.o .nil::sk=>vc C R sk fr hp
 |.o (.o g o r)::sk=>oP C g o fr hp (fun fr hp=>vc C R (.o r::sk) fr hp)
 |.o (.br a b)::sk=>vc C R (.o a::sk) fr hp/\vc C R (.o b::sk) fr hp
 |.o (.wk r)::sk=>∃bI aF,Wk fr hp bI aF/\vc C R (.o r::sk) bI aF
 |.c .skip::sk=>vc C R sk fr hp
 |.c (.rg r)::sk=>vc C R (.o r::sk) fr hp
 |.c (.raw id ops)::sk=>∀tmps w Q,fl C fr hp tmps w->(∀ay an Cl w',fl C ay an Cl w'->vc C R sk ay an->Q .normal { tmps:=Cl,defers:=[] } w')->(Code.region id ops true).wp C.P Q { tmps:=tmps,defers:=[] } w
 |.c (.seq a b)::sk=>vc C R (.c a:: .c b::sk) fr hp
 |.c (.cond c a b)::sk=>match ev fr c with
  |.bool t=>(t=true->vc C R (.c a::sk) fr hp)/\(t=false->vc C R (.c b::sk) fr hp)
  |_=>False
 |.c (.block id a)::sk=>vc C R (.c a:: .eb id::sk) fr hp
 |.c (.loop a)::sk=>∃(I:Qh)(μ:Fr->HP->Nat),(∃bI aF,Wk fr hp bI aF/\I bI aF)/\∀fr hp,I fr hp->vc C R (.c a:: .el (fun ay an=>∃bI aF,Wk ay an bI aF/\I bI aF/\μ bI aF<μ fr hp)::sk) fr hp
 |.c (.exit id)::sk=>match h:FW.cw id sk with
  |some eS=>vc C R eS fr hp
  |none=>False
 |.c .ret::_=>R fr hp
termination_by bY sk
decreasing_by
 all_goals simp only[bY,It.sz,SC.sz,RT.sz]
 all_goals first|omega|(have:=zP _ _ _ h;omega)|skip
variable {C : Ctx} {ρ : Nat -> Option Nat} {fr : Fr} {hp : HP} {tmps : Array Value} {w : World}
theorem eU.move{bf:Nat->Option Nat}{an:HP}{w':World}{β o n:Nat}{v:Value}(h:eU ρ hp w β o n v)
  (hr:bf β=ρ β/\∀hb,hp β=some hb->∃aw,an β=some aw/\aw.e=hb.e/\hb.xs.length<=aw.xs.length/\∀b cap,ρ β=some b->du w b hb.e cap->du w' b hb.e cap):eU bf an w' β o n v:=by
 obtain⟨hb,h2,h3,h4⟩:=h;obtain⟨e1,e2⟩:=hr;obtain⟨aw,h5,h6,h7,h8⟩:=e2 hb h2;refine⟨aw,h5,Kaw h3 h7,?_⟩;rcases h4 with⟨g1,g2,g3⟩|⟨b,cap,g1,g2,g3,g4⟩
 ·exact .inl ⟨by rw[e1];exact g1,g2,g3⟩
 ·exact .inr ⟨b,cap,by rw[e1];exact g1,by rw[h6];exact g2,by rw[h6];exact h8 b (o+cap) g1 g3,g4⟩
structure ob(w w':World)(X X':Nat->Prop):Prop where
 eg:∀b,b<w.heap.size->¬X b->w'.heap[b]? =w.heap[b]?
 out:∀b,b<w.heap.size->¬X b->¬X' b
 size:w.heap.size<=w'.heap.size
theorem ob.rc{w w':World}{X X':Nat->Prop}(h:ob w w' X X'):∀q u,Qu w X q u->Qu w' X' q u:=fun _ _ hq=>hq.mono h.eg h.out h.size
structure qy(ρ bf:Nat->Option Nat)(hp an:HP)(w w':World)(β:Nat):Prop where
 r:bf β=ρ β
 h:∀hb,hp β=some hb->∃aw,an β=some aw/\aw.e=hb.e/\hb.xs.length<=aw.xs.length/\(∀b cap,ρ β=some b->du w b hb.e cap->du w' b hb.e cap)/\(hb.xs=[]->aw.xs=[]/\aw.ty=hb.ty/\∀b,ρ β=some b->w'.heap[b]? =w.heap[b]?)
theorem qy.o{bf:Nat->Option Nat}{an:HP}{w':World}{β:Nat}(h:qy ρ bf hp an w w' β):bf β=ρ β/\∀hb,hp β=some hb->∃aw,an β=some aw/\aw.e=hb.e/\hb.xs.length<=aw.xs.length/\∀b cap,ρ β=some b->du w b hb.e cap->du w' b hb.e cap:=
 ⟨h.r,fun hb al=>let⟨aw,a,b,c,d,_⟩:=h.h hb al;⟨aw,a,b,c,d⟩⟩
structure ye(ρ bf:Nat->Option Nat)(hp an:HP)(w w':World)(β:Nat):Prop where
 r:bf β=ρ β
 h:∀hb,hp β=some hb->∃aw,an β=some aw/\aw.e=hb.e/\hb.xs.length<=aw.xs.length/\∀b cap,ρ β=some b->du w b hb.e cap->du w' b hb.e cap
theorem qy.Cm{bf:Nat->Option Nat}{an:HP}{w':World}{β:Nat}(h:qy ρ bf hp an w w' β):ye ρ bf hp an w w' β:=⟨h.r,h.o.2⟩
theorem oa.move{bf:Nat->Option Nat}{an:HP}{w':World}{γ o n:Nat}{v:Value}(h:oa ρ hp w γ o n v)(hr:ye ρ bf hp an w w' γ):oa bf an w' γ o n v:=by obtain⟨h0,hb,b,cap,h1,h2,h3,h4,h5,h6⟩:=h;obtain⟨aw,a1,a2,_,a4⟩:=hr.h hb h1;exact⟨h0,aw,b,cap,a1,by rw[hr.r];exact h2,by rw[a2];exact h3,by rw[a2];exact a4 b _ h2 h4,h5,h6⟩
theorem cV.move{bf:Nat->Option Nat}{an:HP}{w':World}{p:PV}{v:Value}(h:cV C ρ hp w p v)(hc:ob w w' (aH C ρ hp) (aH C bf an))(hs:∀β∈p.dZ,ye ρ bf hp an w w' β):cV C bf an w' p v:=by
 cases p with
 |undef=>trivial
 |ax β o n=>exact⟨h.1,eU.move h.2 ⟨(hs β (by simp[PV.dZ])).r,(hs β (by simp[PV.dZ])).h⟩⟩
 |aM γ o n=>exact oa.move h (hs γ (by simp[PV.dZ]))
 |_=>exact hc.rc _ _ h
theorem cW.move{bf:Nat->Option Nat}{an:HP}{w':World}{p:PV}{v:Value}(h:cW C ρ hp w p v)
  (hc:ob w w' (aH C ρ hp) (aH C bf an))
  (hr:∀β∈p.bS,bf β=ρ β/\∀hb,hp β=some hb->∃aw,an β=some aw/\aw.e=hb.e/\hb.xs.length<=aw.xs.length/\∀b cap,ρ β=some b->du w b hb.e cap->du w' b hb.e cap)
  (hs:∀β∈p.eI,ye ρ bf hp an w w' β):
  cW C bf an w' p v:=by
 cases p with
 |mp β i o=>obtain⟨b,hb,h1,h2,h3⟩:=h;obtain⟨e1,e2⟩:=hr β (by simp[PV.bS]);obtain⟨aw,h4,h5,_,_⟩:=e2 hb h2;exact⟨b,aw,by rw[e1];exact h1,h4,by rw[h5];exact h3⟩
 |ax β o n=>exact eU.move h (hr β (by simp[PV.bS]))
 |rb β o n=>obtain⟨b,u,h1,h2,h3,h4,h5⟩:=h;exact⟨b,u,h1,KaO h2 hc.size,hc.out b h2 h3,(vd (hc.eg b h2 h3)).trans h4,eU.move h5 (hr β (by simp[PV.bS]))⟩
 |np γ i o=>obtain⟨h0,b,hb,h1,h2,h3⟩:=h;have hq:=hs γ (by simp[PV.eI]);obtain⟨aw,a1,a2,_⟩:=hq.h hb h2;exact⟨h0,b,aw,by rw[hq.r];exact h1,a1,by rw[a2];exact h3⟩
 |aM γ o n=>exact oa.move h (hs γ (by simp[PV.eI]))
 |_=>exact hc.rc _ _ h
theorem GG{f:FuncId}{first cap:List PV}{i:Nat}{x:PV}(h:first[i]? =some x):∀β∈x.bS,β∈(PV.fn f first cap).refs:=by intro β al;simp only[PV.refs,KaT,Kaq];exact .inl ⟨x,Kai h,al⟩
theorem GP{f:FuncId}{first cap:List PV}{i:Nat}{x:PV}(h:cap[i]? =some x):∀β∈x.bS,β∈(PV.fn f first cap).refs:=by intro β al;simp only[PV.refs,KaT,Kaq];exact .inr ⟨x,Kai h,al⟩
theorem dH.move{w':World}{X X':Nat->Prop}{p:PV}{v:Value}(h:dH w X p v)(hc:∀q u,Qu w X q u->Qu w' X' q u):dH w' X' p v:=by
 have h1:∀p v,ba w X p v->ba w' X' p v:=by
  intro p v h;cases p with
  |agg cs=>obtain⟨vs,rfl,h1,h2⟩:=h;exact⟨vs,rfl,h1,fun i x hi=>hc _ _ (h2 i x hi)⟩
  |_=>exact hc _ _ h
 cases p with
 |au ps=>obtain⟨vs,rfl,g1,g2⟩:=h;exact⟨vs,rfl,g1,fun i x hi=>h1 _ _ (g2 i x hi)⟩
 |agg cs=>exact h1 (.agg cs) v h
 |_=>exact hc _ _ h
theorem Qt.move{bf:Nat->Option Nat}{an:HP}{w':World}{p:PV}{v:Value}(h:Qt C ρ hp w p v)
  (hc:ob w w' (aH C ρ hp) (aH C bf an))
  (hr:∀β∈p.refs,bf β=ρ β/\∀hb,hp β=some hb->∃aw,an β=some aw/\aw.e=hb.e/\hb.xs.length<=aw.xs.length/\∀b cap,ρ β=some b->du w b hb.e cap->du w' b hb.e cap)
  (hs:∀β∈p.bW,ye ρ bf hp an w w' β) (hn:∀γ e ty xs,p= .aN γ e ty xs->qy ρ bf hp an w w' γ):
  Qt C bf an w' p v:=by
 cases p with
 |undef=>trivial
 |mp β i o=>exact cW.move (p:=.mp β i o) h hc (fun dB mq=>hr dB mq) (fun β al=>by cases al)
 |ax β o n=>exact cW.move (p:=.ax β o n) h hc (fun dB mq=>hr dB mq) (fun β al=>by cases al)
 |rb β o n=>exact cW.move (p:=.rb β o n) h hc (fun dB mq=>hr dB mq) (fun β al=>by cases al)
 |np γ i o=>exact cW.move (p:=.np γ i o) h hc (fun β al=>by cases al) (fun dB mq=>hs dB mq)
 |aM γ o n=>exact cW.move (p:=.aM γ o n) h hc (fun β al=>by cases al) (fun dB mq=>hs dB mq)
 |aX cs=>obtain⟨vs,rfl,h1,h2⟩:=h;exact⟨vs,rfl,h1,fun i x hi=>(h2 i x hi).move hc (fun β al=>hs β (Kaq.2 ⟨x,Kai hi,al⟩))⟩
 |ff cs=>obtain⟨vs,rfl,h1,h2⟩:=h;exact⟨vs,rfl,h1,fun i x hi=>(h2 i x hi).move hc (fun β al=>hs β (Kaq.2 ⟨x,Kai hi,al⟩))⟩
 |fg cs q=>obtain⟨vs,u,rfl,h1,h2,h3⟩:=h;exact⟨vs,u,rfl,h1,fun i x hi=>(h2 i x hi).move hc (fun β al=>hs β (Kaq.2 ⟨x,Kai hi,al⟩)),h3.mono hc.eg hc.out hc.size⟩
 |aN γ e ty xs=>obtain⟨h0,he,b,hb,cur,cap,h1,h2,h3,h4,h5,h6,h7,h8,h9,bK,cu⟩:=h;have hq:=hn γ e ty xs rfl;obtain⟨aw,a1,a2,_,_,a5⟩:=hq.h hb h2;obtain⟨a5,a6,a7⟩:=a5 h3;refine⟨h0,he,b,aw,cur,cap,by rw[hq.r];exact h1,a1,a5,by rw[a2];exact h4,by rw[a6];exact h5,by rw[a7 b h1];exact h6,h7,h8,h9,bK,fun i x hi j y hy=>(cu i x hi j y hy).move hc (fun β al=>hs β ?_)⟩;refine Kbm _ (Kaq.2 ⟨x,Kai hi,Kaq.2 ⟨y,Kai hy,al⟩⟩)
 | fn f first cap=>
  obtain⟨fv,cv,rfl,h1,h2,h3,h4⟩:=h;exact⟨fv,cv,rfl,h1,h2,fun i x hi=>(h3 i x hi).move hc (fun β al=>hr β (GG hi β al)) (fun β al=>hs β (KaT.2 (.inl (Kaq.2 ⟨x,Kai hi,al⟩)))),
   fun i x hi=>(h4 i x hi).move hc (fun β al=>hr β (GP hi β al)) (fun β al=>hs β (KaT.2 (.inr (Kaq.2 ⟨x,Kai hi,al⟩))))⟩
 |agg cs=>exact dH.move (p:=.agg cs) h hc.rc
 |au cs=>exact dH.move (p:=.au cs) h hc.rc
 |_=>exact hc.rc _ _ h
theorem Qt.qu{bf:Nat->Option Nat}{an:HP}{w':World}{p:PV}{v:Value}(h:Qt C ρ hp w p v)
  (hc:ob w w' (aH C ρ hp) (aH C bf an))
  (hr:∀β∈p.refs,bf β=ρ β/\∀hb,hp β=some hb->∃aw,an β=some aw/\aw.e=hb.e/\hb.xs.length<=aw.xs.length/\∀b cap,ρ β=some b->du w b hb.e cap->du w' b hb.e cap)
  (hs:∀β∈p.bW,qy ρ bf hp an w w' β):Qt C bf an w' p v:=
 h.move hc hr (fun β al=>(hs β al).Cm) (fun γ e ty xs e1=>hs γ (by rw[e1];simp[PV.bW]))
theorem mK{w w':World}{b e cap:Nat}(h:w'.heap[b]? =w.heap[b]?)(hc:du w b e cap):du w' b e cap:=by obtain⟨cur,ty,h1,h2⟩:=hc;exact⟨cur,ty,by rw[h];exact h1,h2⟩
theorem mL{w:World}{b e cap:Nat}(hc:du w b e cap):b<w.heap.size:=by obtain⟨cur,ty,h1,_⟩:=hc;exact(KaI.1 h1).1
theorem yd.move{w w':World}{X X':Nat->Prop}{b:Nat}{hb aw:HB}(h:yd w X b hb)(hh:w'.heap[b]? =w.heap[b]?)(e1:aw.e=hb.e)(e2:aw.ty=hb.ty)(e3:aw.xs=hb.xs)
  (hc:∀q u,Qu w X q u->Qu w' X' q u):yd w' X' b aw:=by
 obtain⟨cur,cap,h1,h2,h3,h4,h5⟩:=h;exact⟨cur,cap,by rw[hh,e2];exact h1,by rw[e1];exact h2,by rw[e3];exact h3,h4,fun i x hi j y hy=>by rw[e1];exact hc _ _ (h5 i x (by rw[<-e3];exact hi) j y hy)⟩
theorem aI.af(h:aI C ρ fr hp tmps w){d:Nat}{p:PV}{v:Value}(hv:Qt C ρ hp w p v)(hd:d<C.N):aI C ρ (af fr d p) hp (tmps.setIfInBounds d v) w:=by
 refine⟨by simpa using h.sz,h.ext,h.ij,h.own,h.inj,fun i=>?_⟩;unfold FW.af;split
 ·rename_i he;subst he;simpa[Array.getD,h.sz,hd]using hv
 ·rename_i he;have:(tmps.setIfInBounds d v).getD i undef=tmps.getD i undef:=by simp only[KaZ];rw[Kct (fun e=>he e.symm)]
  rw[this];exact h.fh i
theorem Hb{l:List Nat}{b:Nat}(h:aH C ρ (cf hp l) b):aH C ρ hp b:=by
 rcases h with h|⟨β,hb,h1,h2,h3⟩
 ·exact .inl h
 ·refine .inr ⟨β,hb,?_,h2,h3⟩;unfold cf at h1;split at h1
  ·cases hq:hp β with
   |none=>simp[hq]at h1
   |some nk=>simp[hq]at h1;subst h1;simp at h2
  ·exact h1
theorem CQ{l:List Nat}{β:Nat}{hb:HB}(h:hp β=some hb):∃aw,cf hp l β=some aw/\aw.e=hb.e/\aw.ty=hb.ty/\aw.xs=hb.xs/\(aw.fz=false->aw=hb)/\(aw.fz=false->β ∉ l):=by
 unfold cf;by_cases hl:l.contains β=true
 ·rw[if_pos hl,h];exact⟨_,rfl,rfl,rfl,rfl,by simp,by simp⟩
 ·rw[if_neg hl,h];exact⟨hb,rfl,rfl,rfl,rfl,fun _=>rfl,fun _=>by simpa using hl⟩
theorem zx{l:List Nat}{β:Nat}{aw:HB}(h:cf hp l β=some aw):∃hb,hp β=some hb/\aw.e=hb.e/\aw.ty=hb.ty/\aw.xs=hb.xs/\(aw.fz=false->aw=hb)/\(aw.fz=false->β ∉ l):=by
 cases hq:hp β with
 |none=>unfold cf at h;split at h<;>simp[hq]at h
 |some hb=>obtain⟨fm,g1,g2⟩:=CQ (l:=l) hq;rw[g1]at h;cases h;exact⟨hb,rfl,g2⟩
theorem Qu.freeze{l:List Nat}{q:PV}{u:Value}(h:Qu w (aH C ρ hp) q u):Qu w (aH C ρ (cf hp l)) q u:=
 h.mono (fun _ _ _=>rfl) (fun _ _ hn hx=>hn (Hb hx)) (Kac _)
theorem aI.freeze(h:aI C ρ fr hp tmps w)(l:List Nat):aI C ρ fr (cf hp l) tmps w:=by
 refine⟨h.sz,h.ext,h.ij,fun β aw al=>?_,fun β γ b h1 h2 h3 h4=>?_,fun i=>?_⟩
 ·obtain⟨hb,g1,g2,g3,g4,g5,_⟩:=zx al;obtain⟨p1,p2,p3,p4,p5⟩:=h.own β hb g1;refine⟨by rw[g2];exact p1,fun i x hi=>by rw[g2];exact p2 i x (by rw[<-g4];exact hi),?_,p4,fun hq=>by
   cases hz:aw.fz with
   |true=>rfl
   |false=>rw[<-g5 hz,hz]at p5;cases p5 hq⟩
  cases bE:ρ β with
  |none=>rw[bE]at p3;simp only at p3 ⊢;rw[g4];exact p3
  |some b=>rw[bE]at p3;simp only at p3 ⊢;exact⟨p3.1,p3.2.1,p3.2.2.move rfl g2 g3 g4 (fun q u hq=>hq.freeze)⟩
 ·have f1:∀γ,FW.cf hp l γ≠none->hp γ≠none:=fun γ hn=>by
   cases hq:hp γ with
   |none=>unfold FW.cf at hn;split at hn<;>simp[hq]at hn
   |some _=>simp
  exact h.inj β γ b (f1 β h1) (f1 γ h2) h3 h4
 ·refine(h.fh i).qu ⟨fun _ _ _=>rfl,fun _ _ hn hx=>hn (Hb hx),Kac _⟩ (fun β _=>⟨rfl,fun hb al=>by
  obtain⟨aw,g1,g2,_,g4,_⟩:=CQ (l:=l) al;exact⟨aw,g1,g2,by rw[g4];exact Kac _,fun b cap _ hc=>hc⟩⟩) (fun β _=>⟨rfl,fun hb al=>by
  obtain⟨aw,g1,g2,g3,g4,_⟩:=CQ (l:=l) al;exact⟨aw,g1,g2,by rw[g4];exact Kac _,fun b cap _ hc=>hc,fun he=>⟨by rw[g4];exact he,g3,fun _ _=>rfl⟩⟩⟩)
theorem aI.grow{w':World}(h:aI C ρ fr hp tmps w)(hx:Ext bT w w'):aI C ρ fr hp tmps w':=by
 have gL:ob w w' (aH C ρ hp) (aH C ρ hp):=⟨fun b hb _=>hx.block b hb (fun h=>h),fun _ _ hn=>hn,hx.size⟩
 have hc:=gL.rc;refine⟨h.sz,h.ext.trans' hx (fun _ _ h=>h.elim),fun b0 b hb e cap hc=>mK (hx.block b (mL (h.ij b0 b hb e cap hc)) (fun h=>h)) (h.ij b0 b hb e cap hc),fun β hb al=>?_,h.inj,fun i=>?_⟩
 ·obtain⟨p1,p2,p3,p4,p5⟩:=h.own β hb al;refine⟨p1,p2,?_,p4,p5⟩;cases bE:ρ β with
  |none=>rw[bE]at p3;exact p3
  |some b=>rw[bE]at p3;exact⟨p3.1,KaO p3.2.1 hx.size,p3.2.2.move (hx.block b p3.2.1 (fun h=>h)) rfl rfl rfl hc⟩
 ·exact(h.fh i).qu gL (fun β _=>⟨rfl,fun hb al=>⟨hb,al,rfl,Kac _,fun b cap _ dU=>mK (hx.block b (mL dU) (fun h=>h)) dU⟩⟩)
   (fun β _=>⟨rfl,fun hb al=>⟨hb,al,rfl,Kac _,fun b cap _ dU=>mK (hx.block b (mL dU) (fun h=>h)) dU,fun he=>⟨he,rfl,fun b bE=>hx.block b (by have:=(h.own β hb al).eg;rw[bE]at this;exact this.2.1) (fun h=>h)⟩⟩⟩)
theorem TP{β:Nat}{p:PV}:∀γ∈(bZ β p).refs,γ≠β/\γ∈p.refs:=by
 intro γ ak;unfold bZ at ak;split at ak
 ·simp[PV.refs]at ak
 ·rename_i hn;refine⟨fun he=>hn (by subst he;simpa using ak),ak⟩
theorem Qt.kill{β:Nat}{p:PV}{v:Value}(h:Qt C ρ hp w p v):Qt C ρ hp w (bZ β p) v:=by
 unfold bZ;split
 ·trivial
 ·exact h
theorem cV.ze{p:PV}{v:Value}(h:cV C ρ hp w p v):∀γ∈p.dZ,cd γ=true:=by
 intro γ ak;cases p with
 |ax β o n=>simp[PV.dZ]at ak;subst ak;exact h.1
 |aM β o n=>simp[PV.dZ]at ak;subst ak;exact h.1
 |np β o n=>cases h
 |_=>cases ak
theorem cW.XE{p:PV}{v:Value}(h:cW C ρ hp w p v):∀γ∈p.eI,cd γ=true:=by
 intro γ ak;cases p with
 |aM β o n=>simp[PV.eI]at ak;subst ak;exact h.1
 |np β o n=>simp[PV.eI]at ak;subst ak;exact h.1
 |_=>cases ak
theorem Qt.ze{p:PV}{v:Value}(h:Qt C ρ hp w p v):∀γ∈p.bW,cd γ=true:=by
 intro γ ak;cases p with
 |aM β o n=>simp[PV.bW]at ak;subst ak;exact h.1
 |np β o n=>simp[PV.bW]at ak;subst ak;exact h.1
 |aX cs=>obtain⟨vs,_,_,h2⟩:=h;obtain⟨x,hx,ak⟩:=Kaq.1 ak;obtain⟨i,hi⟩:=KaG hx;exact(h2 i x hi).ze γ ak
 |ff cs=>obtain⟨vs,_,_,h2⟩:=h;obtain⟨x,hx,ak⟩:=Kaq.1 ak;obtain⟨i,hi⟩:=KaG hx;exact(h2 i x hi).ze γ ak
 |fg cs q=>obtain⟨vs,u,_,_,h2,_⟩:=h;obtain⟨x,hx,ak⟩:=Kaq.1 ak;obtain⟨i,hi⟩:=KaG hx;exact(h2 i x hi).ze γ ak
 | aN β e ty xs=>
  obtain⟨h0,_,b,hb,cur,cap,_,_,_,_,_,_,_,_,_,_,cu⟩:=h;rcases KaP.1 ak with rfl|ak
  ·exact h0
  ·obtain⟨x,hx,ak⟩:=Kaq.1 ak;obtain⟨y,hy,ak⟩:=Kaq.1 ak;obtain⟨i,hi⟩:=KaG hx;obtain⟨j,hj⟩:=KaG hy;exact(cu i x hi j y hj).ze γ ak
 | fn f first cap=>
  obtain⟨fv,cv,_,_,_,h3,h4⟩:=h;rcases KaT.1 ak with ak|ak
  ·obtain⟨x,hx,ak⟩:=Kaq.1 ak;obtain⟨i,hi⟩:=KaG hx;exact(h3 i x hi).XE γ ak
  ·obtain⟨x,hx,ak⟩:=Kaq.1 ak;obtain⟨i,hi⟩:=KaG hx;exact(h4 i x hi).XE γ ak
 |_=>cases ak
def rb(ρ:Nat->Option Nat)(β:Nat)(b':Option Nat):Nat->Option Nat:=fun γ=>if γ=β then b' else ρ γ
theorem gW(ρ:Nat->Option Nat)(β:Nat)(b':Option Nat):rb ρ β b' β=b':=by simp[rb]
theorem oL{ρ:Nat->Option Nat}{β γ:Nat}{b':Option Nat}(h:γ≠β):rb ρ β b' γ=ρ γ:=by simp[rb,h]
def yf(C:Ctx)(ρ:Nat->Option Nat)(hp:HP)(w:World)(β:Nat)(fr ay:Fr):Prop:=∀(i:Nat)(v:Value),Qt C ρ hp w (fr i) v->Qt C ρ hp w (ay i) v/\(∀γ∈(ay i).refs,γ≠β)/\∀γ∈(ay i).bW,γ≠β
theorem Dq{β:Nat}(hB:cd β=false):yf C ρ hp w β fr (cK β fr):=fun i v h=>by have hk:=Qt.kill (β:=β) h;exact⟨hk,fun γ ak=>(TP γ ak).1,fun γ ak e=>by have:=hk.ze γ ak;rw[e,hB]at this;cases this⟩
theorem aI.zb{w':World}{ay:Fr}(h:aI C ρ fr hp tmps w)(β:Nat)(b':Option Nat)(aw:HB)(hB:bN β=false)(pZ:yf C ρ hp w β fr ay)
  (hx:Ext (fun b=>ρ β=some b/\∃hb,hp β=some hb/\hb.fz=false) w w')
  (nB:∀c,b'=some c->(C.w0.heap.size<=c∨C.Z0 c)/\c<w'.heap.size/\(w.heap.size<=c∨(ρ β=some c/\∃hb,hp β=some hb/\hb.fz=false)))
  (he:0<aw.e) (hl:∀(i:Nat)(x:PV),aw.xs[i]? =some x->x.cells.length=aw.e/\x.aE=true)
  (Bm:b'=none->aw.xs=[]) (bc:∀c,b'=some c->∃(cur:Array Value) (cap:Nat),w'.heap[c]? =some (.cells cur aw.ty (0,0))/\cur.size=cap*aw.e/\aw.xs.length<=cap/\cap<=maxLen/\
   ∀(i:Nat)(x:PV),aw.xs[i]? =some x->∀(j:Nat)(y:PV),x.cells[j]? =some y->Qu w (aH C ρ hp) y (cur.getD (i*aw.e+j) undef)):
  aI C (rb ρ β b') ay (Qz hp β aw) tmps w':=by
 have hX:∀b,b<w.heap.size->¬aH C ρ hp b->¬aH C (rb ρ β b') (Qz hp β aw) b:=by
  intro b hb hn aW;rcases aW with aW|⟨γ,hg,h1,h2,h3⟩
  ·exact hn (.inl aW)
  ·unfold Qz at h1;by_cases ak:γ=β
   ·subst ak;rw[gW]at h3;obtain⟨_,_,h4|⟨h5,nk,h6,h7⟩⟩:=nB b h3
    ·omega
    ·exact hn (.inr ⟨γ,nk,h6,h7,h5⟩)
   ·rw[if_neg ak]at h1;rw[oL ak]at h3;exact hn (.inr ⟨γ,hg,h1,h2,h3⟩)
 have gL:ob w w' (aH C ρ hp) (aH C (rb ρ β b') (Qz hp β aw)):=
  ⟨fun b hb hn=>hx.block b hb (fun⟨e1,nk,e2,e3⟩=>hn (.inr ⟨β,nk,e2,e3,e1⟩)),hX,hx.size⟩
 have hc:=gL.rc;have hold:∀b,ρ β=some b->(∃hb,hp β=some hb/\hb.fz=false)->C.w0.heap.size<=b∨C.Z0 b:=by intro b e1 ⟨nk,e2,e3⟩;have:=(h.own β nk e2).eg;rw[e1]at this;exact Ctx.EJ this.1 hB
 have qZ:Ext C.Y0 C.w0 w':=by refine h.ext.trans' (Y':=fun b=>ρ β=some b/\∃hb,hp β=some hb/\hb.fz=false) hx ?_;intro b hb ⟨e1,e2⟩;exact(Ctx.Ya (hold b e1 e2)).resolve_left (by omega)
 have Bx:∀β b,C.fx β=some b->∀e cap,du C.w0 b e cap->du w' b e cap:=fun b0 b hb e cap gL=>by have h1:=h.ij b0 b hb e cap gL;refine mK (hx.block b (mL h1) ?_) h1;intro⟨e1,e2⟩;exact Ctx.Yb (hold b e1 e2) hb
 refine⟨h.sz,qZ,Bx,fun γ hg ak=>?_,fun γ δ b h1 h2 h3 h4=>?_,fun i=>?_⟩
 ·unfold Qz at ak;by_cases rA:γ=β
  ·rw[if_pos rA]at ak;cases ak;subst rA;refine⟨he,hl,?_,(fun hq=>by rw[hB]at hq;cases hq),fun hq=>by rw[Ex hB]at hq;cases hq⟩;rw[gW];cases b' with
   |none=>exact Bm rfl
   |some c=>obtain⟨cur,cap,c1,c2,c3,c4,c5⟩:=bc c rfl;exact⟨Ctx.amH (nB c rfl).1 hB,(nB c rfl).2.1,cur,cap,c1,c2,c3,c4,fun i x hi j y hy=>hc _ _ (c5 i x hi j y hy)⟩
  ·rw[if_neg rA]at ak;obtain⟨p1,p2,p3,p4,p5⟩:=h.own γ hg ak;refine⟨p1,p2,?_,(fun hq=>by rw[oL rA];exact p4 hq),p5⟩;rw[oL rA];cases bE:ρ γ with
   |none=>rw[bE]at p3;exact p3
   |some b=>rw[bE]at p3;refine⟨p3.1,KaO p3.2.1 hx.size,p3.2.2.move (hx.block b p3.2.1 ?_) rfl rfl rfl hc⟩;intro⟨e1,nk,e2,_⟩;exact rA (h.inj γ β b (by simp[ak]) (by simp[e2]) bE e1)
 ·
  have key:∀γ b,γ≠β->hp γ≠none->ρ γ=some b->b'=some b->False:=by
   intro γ b aO hs hr hb;obtain⟨_,_,h4|⟨h5,nk,h6,h7⟩⟩:=nB b hb
   ·cases hq:hp γ with
    |none=>exact hs hq
    |some hg=>have:=(h.own γ hg hq).eg;rw[hr]at this;omega
   ·exact aO (h.inj γ β b hs (by simp[h6]) hr h5)
  unfold Qz at h1 h2;by_cases ak:γ=β<;>by_cases lG:δ=β
  ·rw[ak,lG]
  ·subst ak;rw[gW]at h3;rw[oL lG]at h4;rw[if_neg lG]at h2;exact(key δ b lG h2 h4 h3).elim
  ·subst lG;rw[gW]at h4;rw[oL ak]at h3;rw[if_neg ak]at h1;exact(key γ b ak h1 h3 h4).elim
  ·rw[oL ak]at h3;rw[oL lG]at h4;rw[if_neg ak]at h1;rw[if_neg lG]at h2;exact h.inj γ δ b h1 h2 h3 h4
 ·obtain⟨hk,qd,ny⟩:=pZ i _ (h.fh i);refine hk.qu gL (fun γ ak=>?_) (fun γ ak=>?_)
  ·have aO:=qd γ ak;refine⟨oL aO,fun hg gQ=>⟨hg,by simp[Qz,aO,gQ],rfl,Kac _,fun b cap bE dU=>mK (hx.block b (mL dU) ?_) dU⟩⟩;intro⟨e1,nk,e2,_⟩;exact aO (h.inj γ β b (by simp[gQ]) (by simp[e2]) bE e1)
  ·have aO:=ny γ ak;have oB:∀b hg,hp γ=some hg->ρ γ=some b->¬(ρ β=some b/\∃hb,hp β=some hb/\hb.fz=false):=fun b hg gQ bE ⟨e1,nk,e2,_⟩=>aO (h.inj γ β b (by simp[gQ]) (by simp[e2]) bE e1);refine⟨oL aO,fun hg gQ=>⟨hg,by simp[Qz,aO,gQ],rfl,Kac _,fun b cap bE dU=>mK (hx.block b (mL dU) (oB b hg gQ bE)) dU,fun he=>⟨he,rfl,fun b bE=>hx.block b ?_ (oB b hg gQ bE)⟩⟩⟩;have:=(h.own γ hg gQ).eg;rw[bE]at this;exact this.2.1
theorem aI.rebind{w':World}(h:aI C ρ fr hp tmps w)(β:Nat)(b':Option Nat)(aw:HB)(hB:cd β=false)
  (hx:Ext (fun b=>ρ β=some b/\∃hb,hp β=some hb/\hb.fz=false) w w')
  (nB:∀c,b'=some c->(C.w0.heap.size<=c∨C.Z0 c)/\c<w'.heap.size/\(w.heap.size<=c∨(ρ β=some c/\∃hb,hp β=some hb/\hb.fz=false)))
  (he:0<aw.e) (hl:∀(i:Nat)(x:PV),aw.xs[i]? =some x->x.cells.length=aw.e/\x.aE=true)
  (Bm:b'=none->aw.xs=[]) (bc:∀c,b'=some c->∃(cur:Array Value) (cap:Nat),w'.heap[c]? =some (.cells cur aw.ty (0,0))/\cur.size=cap*aw.e/\aw.xs.length<=cap/\cap<=maxLen/\
   ∀(i:Nat)(x:PV),aw.xs[i]? =some x->∀(j:Nat)(y:PV),x.cells[j]? =some y->Qu w (aH C ρ hp) y (cur.getD (i*aw.e+j) undef)):
  aI C (rb ρ β b') (cK β fr) (Qz hp β aw) tmps w':=h.zb β b' aw (vA hB) (Dq hB) hx nB he hl Bm bc
theorem aI.store{w':World}(h:aI C ρ fr hp tmps w)(β b:Nat)(hb aw:HB)(al:hp β=some hb)(ma:hb.fz=false)(aO:hb.xs≠[])(bE:ρ β=some b)
  (hx:Ext (fun c=>c=b) w w') (e1:aw.e=hb.e) (e3:aw.xs.length=hb.xs.length) (e4:aw.fz=false)
  (hl:∀(i:Nat)(x:PV),aw.xs[i]? =some x->x.cells.length=aw.e/\x.aE=true)
  (dU:∀e cap,du w b e cap->du w' b e cap)
  (bc:∃(cur:Array Value) (cap:Nat),w'.heap[b]? =some (.cells cur aw.ty (0,0))/\cur.size=cap*aw.e/\aw.xs.length<=cap/\cap<=maxLen/\
   ∀(i:Nat)(x:PV),aw.xs[i]? =some x->∀(j:Nat)(y:PV),x.cells[j]? =some y->Qu w (aH C ρ hp) y (cur.getD (i*aw.e+j) undef)):aI C ρ fr (Qz hp β aw) tmps w':=by
 have My:∀c,aH C ρ (Qz hp β aw) c↔aH C ρ hp c:=by
  intro c;constructor
  ·rintro(hx|⟨γ,hg,h1,h2,h3⟩)
   ·exact .inl hx
   ·unfold Qz at h1;by_cases ak:γ=β
    ·subst ak;exact .inr ⟨γ,hb,al,ma,h3⟩
    ·rw[if_neg ak]at h1;exact .inr ⟨γ,hg,h1,h2,h3⟩
  ·rintro(hx|⟨γ,hg,h1,h2,h3⟩)
   ·exact .inl hx
   ·by_cases ak:γ=β
    ·subst ak;exact .inr ⟨γ,aw,by simp[Qz],e4,h3⟩
    ·exact .inr ⟨γ,hg,by simp[Qz,ak,h1],h2,h3⟩
 have hXf:aH C ρ (Qz hp β aw)=aH C ρ hp:=funext fun c=>propext (My c);have Fi:aH C ρ hp b:=.inr ⟨β,hb,al,ma,bE⟩;have FF:ji β=false:=by
  cases hq:ji β with
  |false=>rfl
  |true=>have:=(h.own β hb al).ro hq;rw[ma]at this;cases this
 have gL:ob w w' (aH C ρ hp) (aH C ρ (Qz hp β aw)):=by rw[hXf];exact⟨fun c hc hn=>hx.block c hc (fun e=>hn (e▸Fi)),fun _ _ hn=>hn,hx.size⟩
 have hc:=gL.rc;have bn:=(h.own β hb al).eg;rw[bE]at bn;have qZ:Ext C.Y0 C.w0 w':=by refine h.ext.trans' (Y':=fun c=>c=b) hx ?_;intro c hc he;subst he;exact(Ctx.Ma bn.1 FF).resolve_left (by omega)
 have Bx:∀β c,C.fx β=some c->∀e cap,du C.w0 c e cap->du w' c e cap:=fun b0 c gL e cap gA=>by
  have h1:=h.ij b0 c gL e cap gA;by_cases iK:c=b
  ·subst iK;exact dU e cap h1
  ·exact mK (hx.block c (mL h1) iK) h1
 refine⟨h.sz,qZ,Bx,fun γ hg ak=>?_,fun γ δ c h1 h2 h3 h4=>?_,fun i=>?_⟩
 ·unfold Qz at ak;by_cases rA:γ=β
  ·subst rA;rw[if_pos rfl]at ak;cases ak;refine⟨by rw[e1];exact(h.own γ hb al).l6,hl,?_,(h.own γ hb al).fix,fun hq=>by rw[FF]at hq;cases hq⟩;rw[bE];obtain⟨cur,cap,c1,c2,c3,c4,c5⟩:=bc;exact⟨bn.1,KaO bn.2.1 hx.size,cur,cap,c1,c2,c3,c4,fun i x hi j y hy=>hc _ _ (c5 i x hi j y hy)⟩
  ·rw[if_neg rA]at ak;obtain⟨p1,p2,p3,p4,p5⟩:=h.own γ hg ak;refine⟨p1,p2,?_,p4,p5⟩;cases hr:ρ γ with
   |none=>rw[hr]at p3;exact p3
   |some c=>rw[hr]at p3;exact⟨p3.1,KaO p3.2.1 hx.size,p3.2.2.move (hx.block c p3.2.1 (fun e=>rA (h.inj γ β b (by simp[ak]) (by simp[al]) (e▸hr) bE))) rfl rfl rfl hc⟩
 ·have f1:∀γ,Qz hp β aw γ≠none->hp γ≠none:=fun γ hn=>by
   unfold Qz at hn;by_cases ak:γ=β
   ·subst ak;simp[al]
   ·rwa[if_neg ak]at hn
  exact h.inj γ δ c (f1 γ h1) (f1 δ h2) h3 h4
 ·have key:∀γ,qy ρ ρ hp (Qz hp β aw) w w' γ:=fun γ=>⟨rfl,fun hg gQ=>by
   by_cases ak:γ=β
   ·subst ak;rw[al]at gQ;cases gQ;exact⟨aw,by simp[Qz],e1,by rw[e3];exact Kac _,fun c cap hr gA=>by rw[bE]at hr;cases hr;exact dU _ cap gA,fun he=>absurd he aO⟩
   ·have oB:∀c,ρ γ=some c->¬c=b:=fun c hr e=>ak (h.inj γ β b (by simp[gQ]) (by simp[al]) (e▸hr) bE);refine⟨hg,by simp[Qz,ak,gQ],rfl,Kac _,fun c cap hr gA=>mK (hx.block c (mL gA) (oB c hr)) gA,fun he=>⟨he,rfl,fun c hr=>hx.block c ?_ (oB c hr)⟩⟩;have:=(h.own γ hg gQ).eg;rw[hr]at this;exact this.2.1⟩
  exact(h.fh i).qu gL (fun γ _=>(key γ).o) (fun γ _=>key γ)
end Go.FW
namespace Go.FW
open Go
variable {C : Ctx} {ρ : Nat -> Option Nat} {fr : Fr} {hp : HP} {w : World} {a : Act} {K : Qh}
theorem Su{X:Nat->Prop}{v:Value}{p:PV}(h:z' v=some p):Qu w X p v:=by unfold z' at h;split at h<;>simp at h<;>subst h<;>constructor
theorem oG{α β:Type}{f:α->Option β}:∀ {l:List α} {r:List β},l.mapM f=some r->r.length=l.length/\∀(i:Nat)(y:β),r[i]? =some y->∃x,l[i]? =some x/\f x=some y
 | [],r,h=>by simp at h;subst h;simp
 |x::l,r,h=>by
  rw[KcT]at h;simp only[Kcy,KcZ,Kab,KaB]at h;obtain⟨y,hy,r',hr,rfl⟩:=h;obtain⟨h1,h2⟩:=oG hr;refine⟨by simp[h1],fun i z hz=>?_⟩;cases i with
  |zero=>simp at hz;subst hz;exact⟨x,by simp,hy⟩
  |succ i=>simp at hz;simpa using h2 i z hz
theorem CR(cs:Array Value)(i:Nat)(x:Value)(h:cs.toList[i]? =some x):cs.getD i undef=x:=by simp only[Array.getElem?_toList]at h;simp[KaZ,h]
theorem rJ{X:Nat->Prop}{v:Value}{p:PV}(h:rV v=some p):ba w X p v:=by
 unfold rV at h;split at h
 ·rename_i cs;simp only[Kaa]at h;obtain⟨l,h1,rfl⟩:=h;obtain⟨g1,g2⟩:=oG h1;refine⟨cs,rfl,by simpa using g1.symm,fun i x hx=>?_⟩;obtain⟨u,hu,hc⟩:=g2 i x hx;rw[CR cs i u hu];exact Su hc
 ·exact ba.qw (Su h)
theorem CN{v:Value}{p:PV}(h:rV v=some p):p.aE=true/\p.refs=[]/\(∀f first cap,p≠ .fn f first cap):=by
 unfold rV at h;split at h
 ·simp only[Kaa]at h;obtain⟨l,h1,rfl⟩:=h;simp[PV.aE,PV.refs]
 ·unfold z' at h;split at h<;>simp at h<;>subst h<;>simp[PV.aE,PV.refs]
theorem Qt.XI{p:PV}{v:Value}(h:ba w (aH C ρ hp) p v)(hn:∀f first cap,p≠ .fn f first cap):Qt C ρ hp w p v:=by
 cases p with
 |fn f first cap=>exact absurd rfl (hn _ _ _)
 |undef=>trivial
 |mp=>cases h
 |ax=>cases h
 |rb=>cases h
 |aM=>cases h
 |np=>cases h
 |aX=>cases h
 |ff=>cases h
 |fg=>cases h
 |aN=>cases h
 |au=>cases h
 |agg cs=>exact h
 |_=>exact h
theorem Qt.lJ{p:PV}{v:Value}(h:ba w (aH C ρ hp) p v):Qt C ρ hp w p v:=by
 by_cases hf:∃f first cap,p= .fn f first cap
 ·obtain⟨f,first,cap,rfl⟩:=hf;cases h with
  |fn _ _ _ fv cv h1 h2 h3 h4=>
   refine⟨fv,cv,rfl,h1,h2,fun i x hi=>?_,fun i x hi=>?_⟩
   ·have:=h3 i x hi;cases x<;>first|exact this|cases this
   ·have:=h4 i x hi;cases x<;>first|exact this|cases this
 ·exact Qt.XI h (fun f first cap e=>hf ⟨f,first,cap,e⟩)
theorem cF{x:Operand}{y:aP}(h:aI C ρ fr hp a.tmps w)(ho:b7 x=some y):Qt C ρ hp w (ev fr y) (a.eval x):=by
 cases x with
 |tmp t=>simp[b7]at ho;subst ho;exact h.fh t
 |const v=>simp only[b7,Kaa]at ho;obtain⟨p,an,rfl⟩:=ho;exact Qt.XI (rJ an) (CN an).2.2
 |global g=>simp[b7]at ho
 |func f=>simp[b7]at ho;subst ho;exact⟨#[],#[],rfl,rfl,rfl,by simp,by simp⟩
theorem Qt.kv{k:IntKind}{n:Int}{v:Value}(h:Qt C ρ hp w (.int k n) v):v= .int k n:=by cases h;rfl
theorem Qt.yv{b:Bool}{v:Value}(h:Qt C ρ hp w (.bool b) v):v= .bool b:=by cases h;rfl
theorem Qt.wS{v:Value}(h:Qt C ρ hp w .aa v):v= .slice none 0 0:=by cases h;rfl
theorem Qt.mkInt(k:IntKind)(n:Int):Qt C ρ hp w (.int k n) (.int k n):=Qu.int k n
theorem Qt.uL(b:Bool):Qt C ρ hp w (.bool b) (.bool b):=Qu.bool b
theorem Qt.XZ:Qt C ρ hp w (.au []) undef:=⟨#[],rfl,rfl,by simp⟩
def bk(C:Ctx)(ρ:Nat->Option Nat)(o:Oper)(a:Act)(w:World)(K:Qh):Prop:=
 ∃v,(∀w',(execOp a.eval o).run C.P w'= .ok (.value v) w')/\∃ay an,aI C ρ ay an (a.put o.dst v).tmps w/\K ay an
theorem bk.mk{o:Oper}{d:Nat}{p:PV}{v:Value}(hd:o.dst=some d)(ar:d<C.N)(h:aI C ρ fr hp a.tmps w)
  (bp:∀w',(execOp a.eval o).run C.P w'= .ok (.value v) w') (hr:Qt C ρ hp w p v) (hK:K (af fr d p) hp):bk C ρ o a w K:=
 ⟨v,bp,af fr d p,hp,by rw[hd];exact h.af hr ar,hK⟩
theorem iB{P:Program}{t:TypeId}{d:TypeDesc}(h:P.underlying t=some d)(w:World):(underlying t).run P w= .ok d w:=run_underlying h w
theorem kW{P:Program}{t:TypeId}{n:Nat}(h:eB P t=some n)(w:World):(sizeOf t).run P w= .ok n w:=by simp only[eB,Kaa]at h;obtain⟨i,hi,rfl⟩:=h;simp[sizeOf,typeInfo,hi]
theorem zQ{P:Program}{t:TypeId}{ag:Bool}(h:lX P t=some ag)(w:World):(isAgg t).run P w= .ok ag w:=by simp only[lX,Kaa]at h;obtain⟨d,hd,rfl⟩:=h;simp only[isAgg,Kao,iB hd,Kaj];cases d<;>rfl
theorem Sq{P:Program}{T:TypeId}(hu:P.underlying T=some .bool)(n m:Bool)(w:World):(Op.equal T (.bool n) (.bool m)).run P w= .ok (n==m) w:=by show(Op.equalIn (9999+1) T (.bool n) (.bool m)).run P w=_;unfold Op.equalIn;rw[Kao,iB hu,Kaj];rfl
theorem YB{P:Program}{T:TypeId}(hu:P.underlying T=some .bool)(n m:Bool)(w:World):(binOp .eql T (.bool n) (.bool m)).run P w= .ok (.bool (n==m)) w:=by show(do pure (Value.bool (<-Op.equal T (.bool n) (.bool m))):Sem Value).run P w=_;rw[Kao,Sq hu,Kaj];rfl
theorem YC{P:Program}{T:TypeId}(hu:P.underlying T=some .bool)(n m:Bool)(w:World):(binOp .neq T (.bool n) (.bool m)).run P w= .ok (.bool (!(n==m))) w:=by show(do pure (Value.bool (!(<-Op.equal T (.bool n) (.bool m)))):Sem Value).run P w=_;rw[Kao,Sq hu,Kaj];rfl
theorem pz{o:Oper}{op:BinOp}{T T2:TypeId}{x y:Operand}(ho:o.op= .binOp op T x y T2){vx vy v:Value}(ex:a.eval x=vx)(ey:a.eval y=vy)
  (hg:∀w,(eqGuard op T x y vx vy).run C.P w= .ok () w) (hr:∀w,(binOp op T vx vy).run C.P w= .ok v w):∀w,(execOp a.eval o).run C.P w= .ok (.value v) w:=by
 intro w;unfold execOp;simp only[ho,ex,ey,Kao,hg,hr,Kaj];rfl
theorem Q90{o:Oper}{op:BinOp}{T T2:TypeId}{x y:Operand}{px py:PV}{d:Nat}(ho:o.op= .binOp op T x y T2)(hd:o.dst=some d)(ar:d<C.N)(h:aI C ρ fr hp a.tmps w)
    (hx:Qt C ρ hp w px (a.eval x)) (hy:Qt C ρ hp w py (a.eval y)) {bt:Bool} (iY:bt=true->C.P.underlying T=some .bool)
    (hv:cg op bt px py d fr hp K):bk C ρ o a w K:=by
  unfold cg at hv;split at hv
  · rename_i k n k' m
    have ex:=hx.kv;have ey:=hy.kv;have eH:∀w',(eqGuard op T x y (.int k n) (.int k' m)).run C.P w'= .ok () w':=by intro w';unfold eqGuard;cases op<;>rfl
    split at hv
    · obtain⟨h0,hv⟩:=hv
      have EN:¬m<0:=by omega
      exact bk.mk hd ar h (pz ho ex ey eH (fun w'=>by simp[binOp,Op.shift,EN])) (Qt.mkInt _ _) hv
    · obtain⟨h0,hv⟩:=hv
      have EN:¬m<0:=by omega
      exact bk.mk hd ar h (pz ho ex ey eH (fun w'=>by simp[binOp,Op.shift,EN])) (Qt.mkInt _ _) hv
    all_goals first
      |exact hv.elim
      | (obtain⟨rfl,h0,hv⟩:=hv
         exact bk.mk hd ar h (pz ho ex ey eH (fun w'=>by simp[binOp,Op.intDiv,h0])) (Qt.mkInt _ _) hv)
      | (obtain⟨rfl,hv⟩:=hv
         exact bk.mk hd ar h (pz ho ex ey eH (fun w'=>by simp[binOp,Op.intArith,Op.intBits])) (Qt.mkInt _ _) hv)
      | (obtain⟨rfl,hv⟩:=hv
         refine bk.mk hd ar h (pz ho ex ey eH ?_) (Qt.uL _) hv;intro w';simp[binOp,Op.intCmp]<;>rfl)
  · rename_i n m
    have ex:=hx.yv;have ey:=hy.yv;have eH:∀w',(eqGuard op T x y (.bool n) (.bool m)).run C.P w'= .ok () w':=by intro w';unfold eqGuard;cases op<;>rfl
    split at hv
    · obtain⟨hb,hv⟩:=hv
      exact bk.mk hd ar h (pz ho ex ey eH (YB (iY hb) n m)) (Qt.uL _) hv
    · obtain⟨hb,hv⟩:=hv
      exact bk.mk hd ar h (pz ho ex ey eH (YC (iY hb) n m)) (Qt.uL _) hv
    · exact hv.elim
  · exact hv.elim
theorem Qt.XT{e:Nat}{xs:List PV}{v:Value}(h:Qt C ρ hp w (.sl e xs) v):∃ad cap,v= .slice ad xs.length cap/\xs.length<=cap/\cap<=maxLen:=by
 cases h with
 |gT _ ad cap hc=>exact⟨ad,cap,rfl,Kby _,hc⟩
 |sl _ _ b off cap vs hX hb hl hc=>exact⟨_,cap,rfl,hl,hc⟩
theorem Qt.NF{β o n:Nat}{v:Value}(h:Qt C ρ hp w (.ax β o n) v):∃ad cap,v= .slice ad n cap:=by
 obtain⟨hb,_,_,⟨_,rfl,rfl,rfl⟩|⟨b,cap,_,rfl,_⟩⟩:=h
 ·exact⟨_,_,rfl⟩
 ·exact⟨_,_,rfl⟩
theorem Qt.aqb{γ o n:Nat}{v:Value}(h:Qt C ρ hp w (.aM γ o n) v):∃ad cap,v= .slice ad n cap:=by obtain⟨_,hb,b,cap,_,_,rfl,_⟩:=h;exact⟨_,_,rfl⟩
theorem Qt.NJ{γ i o:Nat}{v:Value}(h:Qt C ρ hp w (.np γ i o) v):cd γ=true/\∃b hb,ρ γ=some b/\hp γ=some hb/\v= .pointer (some ⟨b,i*hb.e+o,none⟩):=h
theorem Qt.XH{p:PV}{v:Value}(h:cV C ρ hp w p v):Qt C ρ hp w p v:=by
 cases p with
 |undef=>trivial
 |ax β o n=>exact h.2
 |aM γ o n=>exact h
 |_=>exact Qt.lJ (ba.qw h)
theorem cV.toC{p:PV}{v:Value}(h:cV C ρ hp w p v)(hr:p.oD=false):Qu w (aH C ρ hp) p v:=by
 cases p with
 |undef=>cases hr
 |ax=>cases hr
 |aM=>cases hr
 |_=>exact h
theorem cV.XG{p:PV}{v:Value}(h:Qu w (aH C ρ hp) p v):cV C ρ hp w p v:=by
 cases p with
 |ax=>cases h
 |aM=>cases h
 |undef=>trivial
 |_=>exact h
theorem cV.rC{p:PV}{v:Value}(h:cV C ρ hp w p v)(hu:p≠ .undef):v.oneCell'=true/\v.cells= #[v]:=by
 cases p with
 |undef=>exact absurd rfl hu
 |ax β o n=>obtain⟨_,hb,_,_,⟨_,rfl,_⟩|⟨b,cap,_,rfl,_⟩⟩:=h<;>exact⟨rfl,rfl⟩
 |aM γ o n=>obtain⟨_,hb,b,cap,_,_,rfl,_⟩:=h;exact⟨rfl,rfl⟩
 |_=>exact⟨(Qu.rC h).1,(Qu.rC h).2.1⟩
theorem Zy(cs:List PV):(nU cs).bl=cs:=by unfold nU;split<;>rfl
theorem Q91{cs:List PV}{vs:Array Value}(hs:vs.size=cs.length)(h:∀(i:Nat)(x:PV),cs[i]? =some x->cV C ρ hp w x (vs.getD i undef)):Qt C ρ hp w (nU cs) (.agg vs):=by
 unfold nU;split
 ·exact⟨vs,rfl,hs,h⟩
 ·rename_i hn;refine⟨vs,rfl,hs,fun i x hi=>(h i x hi).toC ?_⟩;have hm:=Kai hi;cases hq:x.oD with
  |false=>rfl
  |true=>exact absurd (Ka2.2 ⟨x,hm,hq⟩) hn
theorem P1{ag:Bool}{n off:Nat}{x:PV}{vs:Array Value}(hs:vs.size=n)(hle:off+n<=x.bl.length)(h1:ag=false->n=1)
  (hr:∀j y,j<n->x.bl[off+j]? =some y->cV C ρ hp w y (vs.getD j undef)):Qt C ρ hp w (rB ag n off x) (if ag then .agg vs else vs.getD 0 undef):=by
 cases ag with
 | true=>
  refine Q91 (by simp[hs];omega) (fun i y hy=>?_);have hi:i<n:=by have:=(Kad.1 hy).1;simp at this;omega
  rw[KaM hi,Kbb]at hy;exact hr i y hi hy
 | false=>
  have hn:=h1 rfl;subst hn;have ar:off<x.bl.length:=by omega
  have e:x.bl[off+0]? =some (x.bl[off]):=by simp[Kam ar]
  have:=hr 0 _ (by omega) e;simp only[rB,KaJ,if_false];have e2:(x.bl.drop off).headD .undef=x.bl[off]:=by rw[KbG,Kcu,Kam ar];rfl
  rw[e2];exact Qt.XH this
theorem CH{o:Oper}{b:Builtin}{args:Array Operand}{ts:Array TypeId}(ho:o.op= .call { callee:=.builtin b,args:=args,argTypes:=ts }){v:Value}
  (hr:∀w,(builtin b ts o.type (args.map fun| .const _=>true|_=>false) (args.map a.eval)).run C.P w= .ok (.value v) w):∀w,(execOp a.eval o).run C.P w= .ok (.value v) w:=by
 intro w;unfold execOp;simp only[ho,resolve,Kao,Ka0,Kaj,invoke];exact hr w
theorem Q92{o:Oper}{x:Operand}{t:TypeId}{px:PV}{d:Nat}(ho:o.op= .call { callee:=.builtin .len,args:= #[x],argTypes:= #[t] })(hd:o.dst=some d)(ar:d<C.N)(h:aI C ρ fr hp a.tmps w)
  (hx:Qt C ρ hp w px (a.eval x)) {e:TypeId} (he:C.P.underlying t=some (.slice e)) (hv:oN px d fr hp K):bk C ρ o a w K:=by
 have key:∀ad n cap,a.eval x= .slice ad n cap->K (af fr d (.int .i64 n)) hp->bk C ρ o a w K:=fun ad n cap ex hK=>
  bk.mk hd ar h (CH ho (fun w'=>by simp[builtin,Builtin.len_,ex,Kao,iB he,goInt])) (Qt.mkInt _ _) hK
 unfold oN at hv;split at hv
 ·exact key _ _ _ hx.wS hv
 ·obtain⟨ad,cap,ex,_⟩:=hx.XT;exact key _ _ _ ex hv
 ·obtain⟨ad,cap,ex⟩:=hx.NF;exact key _ _ _ ex hv
 ·obtain⟨ad,cap,ex⟩:=hx.aqb;exact key _ _ _ ex hv
 ·exact hv.elim
theorem Qt.F9{s:ByteArray}{v:Value}(h:Qt C ρ hp w (.str s) v):v= .string s:=by cases h;rfl
theorem OP{P:Program}{t:TypeId}(h:yj P t=true):P.underlying t=some .string:=by
 unfold yj at h;split at h
 ·assumption
 ·cases h
theorem Q93{o:Oper}{x:Operand}{t:TypeId}{px:PV}{d:Nat}(ho:o.op= .call { callee:=.builtin .len,args:= #[x],argTypes:= #[t] })(hd:o.dst=some d)(ar:d<C.N)(h:aI C ρ fr hp a.tmps w)
  (hx:Qt C ρ hp w px (a.eval x)) (hs:yj C.P t=true) (hv:vR px d fr hp K):bk C ρ o a w K:=by
 have hu:=OP hs;unfold vR at hv;split at hv
 ·rename_i s;have ex:=hx.F9;exact bk.mk hd ar h (CH ho (fun w'=>by simp[builtin,Builtin.len_,ex,Kao,iB hu,goInt])) (Qt.mkInt _ _) hv
 ·exact hv.elim
theorem ZA{P:Program}{T:TypeId}(hu:P.underlying T=some .string)(n m:ByteArray)(w:World):(binOp .eql T (.string n) (.string m)).run P w= .ok (.bool (n==m)) w:=by simp[binOp,Op.stringOp,beq_toListBytes]
theorem ZB{P:Program}{T:TypeId}(hu:P.underlying T=some .string)(n m:ByteArray)(w:World):(binOp .neq T (.string n) (.string m)).run P w= .ok (.bool (!(n==m))) w:=by simp[binOp,Op.stringOp,bne,beq_toListBytes]
theorem UX(x y:ByteArray):(x==y)=decide (x=y):=by
 by_cases h:x=y
 ·subst h;rw[decide_eq_true rfl];show(x.data==x.data)=true;simp
 ·rw[decide_eq_false h];have h':x.data≠y.data:=fun e=>h (by cases x;cases y;simp_all);show(x.data==y.data)=false;simpa using h'
theorem Q94{o:Oper}{op:BinOp}{ng:Bool}{T T2:TypeId}{x y:Operand}{px py:PV}{d:Nat}(ho:o.op= .binOp op T x y T2)(hop:Cv op=some ng)(hs:yj C.P T=true)(hd:o.dst=some d)(ar:d<C.N)(h:aI C ρ fr hp a.tmps w)
  (hx:Qt C ρ hp w px (a.eval x)) (hy:Qt C ρ hp w py (a.eval y)) (hv:qQ ng px py d fr hp K):bk C ρ o a w K:=by
 have hu:=OP hs;unfold qQ at hv;split at hv
 ·rename_i n m;have ex:=hx.F9;have ey:=hy.F9;have eH:∀w',(eqGuard op T x y (.string n) (.string m)).run C.P w'= .ok () w':=by intro w';unfold eqGuard;cases op<;>rfl
  cases op<;>first|(cases hop;done)|skip
  ·cases hop;exact bk.mk hd ar h (pz ho ex ey eH (ZA hu n m)) (Qt.uL _) (by rw[UX];simpa using hv)
  ·cases hop;exact bk.mk hd ar h (pz ho ex ey eH (ZB hu n m)) (Qt.uL _) (by rw[UX];simpa using hv)
 ·exact hv.elim
theorem acT{o:Oper}{x y:Operand}{ts:Array TypeId}{px py:PV}{d:Nat}(ho:o.op= .call { callee:=.builtin .max,args:= #[x,y],argTypes:=ts })(hd:o.dst=some d)(ar:d<C.N)(h:aI C ρ fr hp a.tmps w)
  (hx:Qt C ρ hp w px (a.eval x)) (hy:Qt C ρ hp w py (a.eval y)) (hv:wQ px py d fr hp K):bk C ρ o a w K:=by
 unfold wQ at hv;split at hv
 ·rename_i k n k' m;have ex:=hx.kv;have ey:=hy.kv;refine bk.mk hd ar h (CH ho (fun w'=>?_)) (Qt.mkInt _ _) hv;have e:(if m>n then m else n)=max n m:=by omega
  simp[builtin,Builtin.max_,ex,ey,Builtin.max2,e]
 ·exact hv.elim
theorem acU{o:Oper}{x y:Operand}{ts:Array TypeId}{px py:PV}{d:Nat}(ho:o.op= .call { callee:=.builtin .min,args:= #[x,y],argTypes:=ts })(hd:o.dst=some d)(ar:d<C.N)(h:aI C ρ fr hp a.tmps w)
  (hx:Qt C ρ hp w px (a.eval x)) (hy:Qt C ρ hp w py (a.eval y)) (hv:wP px py d fr hp K):bk C ρ o a w K:=by
 unfold wP at hv;split at hv
 ·rename_i k n k' m;have ex:=hx.kv;have ey:=hy.kv;refine bk.mk hd ar h (CH ho (fun w'=>?_)) (Qt.mkInt _ _) hv;have e:(if m<n then m else n)=min n m:=by omega
  simp[builtin,Builtin.min_,ex,ey,Builtin.min2,e]
 ·exact hv.elim
theorem acV{o:Oper}{op:UnOp}{T:TypeId}{x:Operand}{px:PV}{d:Nat}(ho:o.op= .unOp op T x)(hd:o.dst=some d)(ar:d<C.N)(h:aI C ρ fr hp a.tmps w)
  (hx:Qt C ρ hp w px (a.eval x)) (hv:uP op px d fr hp K):bk C ρ o a w K:=by
 unfold uP at hv;split at hv
 ·have ex:=hx.yv;refine bk.mk hd ar h (fun w'=>?_) (Qt.uL _) hv;unfold execOp;simp only[ho,ex];rfl
 ·have ex:=hx.kv;refine bk.mk hd ar h (fun w'=>?_) (Qt.mkInt _ _) hv;unfold execOp;simp only[ho,ex];rfl
 ·exact hv.elim
theorem Q7e{o:Oper}{S T:TypeId}{x:Operand}{px:PV}{d:Nat}{ds:TypeDesc}{k:IntKind}(ho:o.op= .convert S T x)(hd:o.dst=some d)(ar:d<C.N)(h:aI C ρ fr hp a.tmps w)
  (hS:C.P.underlying S=some ds) (hT:C.P.underlying T=some (.int k)) (hx:Qt C ρ hp w px (a.eval x)) (hv:vI k px d fr hp K):bk C ρ o a w K:=by
 unfold vI at hv;split at hv
 ·have ex:=hx.kv;refine bk.mk hd ar h (fun w'=>?_) (Qt.mkInt _ _) hv;unfold execOp;simp only[ho,ex,Kao,convert,iB hS,iB hT,Kaj];rfl
 ·exact hv.elim
theorem Q95{o:Oper}{i:Nat}{x:Operand}{px:PV}{d:Nat}(ho:o.op= .extract x i)(hd:o.dst=some d)(ar:d<C.N)(h:aI C ρ fr hp a.tmps w)
  (hx:Qt C ρ hp w px (a.eval x)) (hv:kJ px i d fr hp K):bk C ρ o a w K:=by
 unfold kJ at hv;split at hv
 ·rename_i ps;split at hv
  ·rename_i p jf;obtain⟨jb,hv⟩:=hv;obtain⟨vs,ex,h1,h2⟩:=hx;have hi:i<vs.size:=by rw[h1];exact(Kad.1 jf).1
   have hr:=h2 i p jf;have hg:vs.getD i undef=vs[i]:=by simp[Array.getD,hi]
   rw[hg]at hr;refine bk.mk hd ar h (fun w'=>?_) (Qt.lJ hr) hv;unfold execOp;simp only[ho,ex,Kao,Instr.extract,Kbg hi];rfl
  ·exact hv.elim
 ·rename_i ps;split at hv
  ·rename_i p jf;obtain⟨vs,ex,h1,h2⟩:=hx;have hi:i<vs.size:=by rw[h1];exact(Kad.1 jf).1
   have hr:=h2 i p jf;have hg:vs.getD i undef=vs[i]:=by simp[Array.getD,hi]
   rw[hg]at hr;refine bk.mk hd ar h (fun w'=>?_) (Qt.XH hr) hv;unfold execOp;simp only[ho,ex,Kao,Instr.extract,Kbg hi];rfl
  ·exact hv.elim
 ·rename_i cs q;obtain⟨vs,u,ex,h1,h2,h3⟩:=hx;split at hv
  ·refine bk.mk (p:=.aX cs) (v:=.agg vs) hd ar h (fun w'=>?_) ⟨vs,rfl,h1,h2⟩ hv;unfold execOp;simp only[ho,ex,Kao,Instr.extract];rfl
  ·refine bk.mk (v:=u) hd ar h (fun w'=>?_) (Qt.lJ h3) hv;unfold execOp;simp only[ho,ex,Kao,Instr.extract];rfl
  ·exact hv.elim
 ·exact hv.elim
theorem OQ{o:Oper}{x:Operand}{px:PV}{d:Nat}(ho:o.op= .move x∨o.op= .assign x)(hd:o.dst=some d)(ar:d<C.N)(h:aI C ρ fr hp a.tmps w)
  (hx:Qt C ρ hp w px (a.eval x)) (hv:K (af fr d px) hp):bk C ρ o a w K:=by
 refine bk.mk hd ar h (fun w'=>?_) hx hv;rcases ho with ho|ho<;>(unfold execOp;simp only[ho];rfl)
theorem Q7f{o:Oper}{c x y:Operand}{pc px py:PV}{d:Nat}(ho:o.op= .pick c x y)(hd:o.dst=some d)(ar:d<C.N)(h:aI C ρ fr hp a.tmps w)
  (hc:Qt C ρ hp w pc (a.eval c)) (hx:Qt C ρ hp w px (a.eval x)) (hy:Qt C ρ hp w py (a.eval y))
  (hv:sh pc px py d fr hp K):bk C ρ o a w K:=by
 obtain⟨t,rfl,hv⟩:∃t,pc= .bool t/\((t=true->K (af fr d px) hp)/\(t=false->K (af fr d py) hp)):=by
  cases pc with
  |bool t=>exact⟨t,rfl,hv⟩
  |_=>exact hv.elim
 have ec:=hc.yv;cases t with
 |true=>refine bk.mk hd ar h (fun w'=>?_) hx (hv.1 rfl);unfold execOp;simp only[ho,ec];rfl
 |false=>refine bk.mk hd ar h (fun w'=>?_) hy (hv.2 rfl);unfold execOp;simp only[ho,ec];rfl
theorem CF{P:Program}{T:TypeId}{k0:IntKind}(hu:P.underlying T=some (.int k0))(d:Nat)(k:IntKind)(n m:Int)(w:World):(Op.equalIn (d+1) T (.int k n) (.int k m)).run P w= .ok (n==m) w:=by unfold Op.equalIn;rw[Kao,iB hu,Kaj];simp
theorem zR{P:Program}{t:TypeId}{cs:Array Value}{off:Nat}{v:Value}(ha:lX P t=some false)(hv:cs[off]? =some v)(w:World):(part t cs off).run P w= .ok v w:=by unfold part;rw[Kao,zQ ha,Kaj];simp[hv]
theorem Yk {P : Program} {T : TypeId} {f g : Field} (hu : P.underlying T = some (.struct #[f, g])) (h1 : f.name ≠ "_") (h2 : g.name ≠ "_") (o1 : f.offset = 0) (o2 : g.offset = 1) {k1 k2 : IntKind} (t1 : P.underlying f.type = some (.int k1)) (t2 : P.underlying g.type = some (.int k2))
  (hs:P.stoodInHeld T=false) (k l:IntKind) (x y x' y':Int) (w:World):(Op.equal T (.agg #[.int k x,.int l y]) (.agg #[.int k x',.int l y'])).run P w= .ok (x==x'&&y==y') w:=by
 have a1:lX P f.type=some false:=by simp[lX,t1]
 have a2:lX P g.type=some false:=by simp[lX,t2]
 show(Op.equalIn (9998+1+1) T _ _).run P w=_;rw[Op.equalIn];rw[Kao,iB hu,Kaj];have hp:Sem.run P program w= .ok P w:=rfl;rw[Kao,hp,Kaj,hs];simp only[KaJ,if_false];rw[<-Array.forIn_toList];simp only[List.forIn_cons,List.forIn_nil,Kao,o1,o2,h1,h2,ne_eq,not_false_eq_true,if_true,zR a1 (show(#[Value.int k x,Value.int l y])[0]? =some _ from rfl),zR a1 (show(#[Value.int k x',Value.int l y'])[0]? =some _ from rfl),
  zR a2 (show(#[Value.int k x,Value.int l y])[1]? =some _ from rfl),zR a2 (show(#[Value.int k x',Value.int l y'])[1]? =some _ from rfl),CF t1,CF t2,Kaj]
 have q1:∀n m w,(Op.equalIn 9999 f.type (.int k n) (.int k m)).run P w= .ok (n==m) w:=fun n m w=>CF t1 9998 k n m w;have q2:∀n m w,(Op.equalIn 9999 g.type (.int l n) (.int l m)).run P w= .ok (n==m) w:=fun n m w=>CF t2 9998 l n m w;have p2:∀u v w,(part g.type #[u,v] 1).run P w= .ok v w:=fun u v w=>zR a2 (show(#[u,v])[1]? =some _ from rfl) w;by_cases e1:x=x'<;>by_cases e2:y=y'<;>simp[e1,e2,q1,q2,p2]
theorem acW{P:Program}{T:TypeId}{b:Bool}{X Y:Array Value}(h:∀w,(Op.equal T (.agg X) (.agg Y)).run P w= .ok b w)(w:World):(binOp .eql T (.agg X) (.agg Y)).run P w= .ok (.bool b) w:=by show(do pure (Value.bool (<-Op.equal T (.agg X) (.agg Y))):Sem Value).run P w=_;rw[Kao,h,Kaj];rfl
theorem acX{P:Program}{T:TypeId}{b:Bool}{X Y:Array Value}(h:∀w,(Op.equal T (.agg X) (.agg Y)).run P w= .ok b w)(w:World):(binOp .neq T (.agg X) (.agg Y)).run P w= .ok (.bool !b) w:=by show(do pure (Value.bool (!(<-Op.equal T (.agg X) (.agg Y)))):Sem Value).run P w=_;rw[Kao,h,Kaj];rfl
theorem TQ {P : Program} {T:TypeId} {op:BinOp} {x y:Operand} {X Y:Array Value} (h:P.eqGuardType P.depth T=false) (w:World):(eqGuard op T x y (.agg X) (.agg Y)).run P w= .ok () w:=by
  have hp:Sem.run P program w= .ok P w:=rfl
  have hg : (do if !(<-program).eqGuardType (<-program).depth T then return
                if <- Op.eqGuardIn Op.maxDepth T (.agg X) (.agg Y) then unsupported (.noEntry "binop/eql: two nil values of an interface type with methods, in a part of a struct or an array") : Sem Unit).run P w = .ok () w := by
    rw[Kao,hp,Kaj,Kao,hp,Kaj,h];rfl
  cases op<;>first|rfl|exact hg
theorem air {P : Program} {T : TypeId} (h : F8 P T = true) : ∃ f g k1 k2, P.underlying T = some (.struct #[f, g]) /\ f.name ≠ "_" /\ g.name ≠ "_" /\ f.offset = 0 /\ g.offset = 1 /\ P.underlying f.type = some (.int k1) /\ P.underlying g.type = some (.int k2) /\ P.stoodInHeld T = false /\ P.eqGuardType P.depth T = false := by
 unfold F8 at h;split at h
 ·rename_i fs hu;split at h
  ·rename_i f g ov;simp only[Kat,bne_iff_ne,ne_eq,beq_iff_eq,Bool.not_eq_true']at h;obtain⟨⟨⟨⟨⟨⟨⟨h1,h2⟩,h3⟩,h4⟩,h5⟩,h6⟩,h7⟩,h8⟩:=h;have:fs= #[f,g]:=by rw[<-Array.toArray_toList (xs:=fs),ov]
   subst this;cases u1:P.underlying f.type with
   |none=>rw[u1]at h5;cases h5
   | some t1=>cases u2:P.underlying g.type with
    |none=>rw[u2]at h6;cases h6
    |some t2=>
     rw[u1]at h5;rw[u2]at h6;cases t1<;>first|(cases h5;done)|skip
     cases t2<;>first|(cases h6;done)|skip
     exact⟨f,g,_,_,hu,h1,h2,h3,h4,u1,u2,h7,h8⟩
  ·cases h
 ·cases h
theorem OH{cs:List PV}{v:Value}{p q:PV}(jK:cs=[p,q])(h:Qt C ρ hp w (.agg cs) v):∃x y,v= .agg #[x,y]/\Qu w (aH C ρ hp) p x/\Qu w (aH C ρ hp) q y:=by
 subst jK;obtain⟨vs,rfl,h1,h2⟩:=h;have hs:vs.size=2:=h1;refine⟨vs.getD 0 undef,vs.getD 1 undef,?_,h2 0 p rfl,h2 1 q rfl⟩;congr 1;apply Array.ext
 ·simp[hs]
 ·intro i hi aB;have:i=0∨i=1:=by simp at aB;omega
  rcases this with rfl|rfl<;>simp[Array.getD,hs]
theorem Q96{o:Oper}{op:BinOp}{ng:Bool}{T T2:TypeId}{x y:Operand}{px py:PV}{d:Nat}(ho:o.op= .binOp op T x y T2)(hop:Cv op=some ng)(fw:F8 C.P T=true)(hd:o.dst=some d)(ar:d<C.N)(h:aI C ρ fr hp a.tmps w)
  (hx:Qt C ρ hp w px (a.eval x)) (hy:Qt C ρ hp w py (a.eval y)) (hv:qP ng px py d fr hp K):bk C ρ o a w K:=by
 obtain⟨f,g,k1,k2,hu,h1,h2,h3,h4,u1,u2,h7,h8⟩:=air fw;unfold qP at hv;split at hv
 ·rename_i k n l m k' n' l' m';obtain⟨rfl,rfl,hv⟩:=hv;obtain⟨a1,b1,ex,r1,r2⟩:=OH rfl hx;obtain⟨a2,b2,ey,r3,r4⟩:=OH rfl hy;cases r1;cases r2;cases r3;cases r4;have heq:∀w,(Op.equal T (.agg #[.int k n,.int l m]) (.agg #[.int k n',.int l m'])).run C.P w= .ok (n==n'&&m==m') w:=fun w=>Yk hu h1 h2 h3 h4 u1 u2 h7 k l n m n' m' w;have e:(n==n'&&m==m')=(decide (n=n')&&decide (m=m')):=rfl;rw[e]at heq;cases op<;>first|(cases hop;done)|skip
  ·cases hop;exact bk.mk hd ar h (pz ho ex ey (TQ h8) (acW heq)) (Qt.uL _) (by simpa using hv)
  ·cases hop;exact bk.mk hd ar h (pz ho ex ey (TQ h8) (acX heq)) (Qt.uL _) (by simpa using hv)
 ·exact hv.elim
end Go.FW
namespace Go.FW
open Go
variable {C : Ctx} {ρ : Nat -> Option Nat} {fr : Fr} {hp : HP} {w : World} {a : Act} {K : Qh}
theorem ZC{l:List PV}{n:Nat}(h:n<l.length):l[n]? =some (l[n]'h):=Kam h
theorem GH{P:Program}{t e:TypeId}{n:Nat}{ad:Addr}{len cap:Nat}{k:IntKind}{i:Int}(hu:P.underlying t=some (.slice e))(hn:eB P e=some n)(h0:0<=i)(h1:i<len)(w:World):
  (Instr.indexAt t (.slice (some ad) len cap) (.int k i)).run P w= .ok (.pointer (some (ad.add (i.toNat*n)))) w:=by
 have h2:0<=i/\i<len:=⟨h0,h1⟩
 unfold Instr.indexAt;simp only[asIntOf,Kao,Ka0,Kaj,iB hu,if_pos h2,kW hn]
theorem Sn{P:Program}{t e:TypeId}{n len:Nat}{ad:Addr}{k:IntKind}{i:Int}(hu:P.underlying t=some (.array len e))(hn:eB P e=some n)(h0:0<=i)(h1:i<len)(w:World):
  (Instr.indexAt t (.pointer (some ad)) (.int k i)).run P w= .ok (.pointer (some (ad.add (i.toNat*n)))) w:=by
 have h2:0<=i/\i<len:=⟨h0,h1⟩
 unfold Instr.indexAt;simp only[asIntOf,Kao,Ka0,Kaj,iB hu,Instr.sureAddr,if_pos h2,kW hn]
theorem Qt.y6{β i o:Nat}{v:Value}(h:Qt C ρ hp w (.mp β i o) v):∃b hb,ρ β=some b/\hp β=some hb/\v= .pointer (some ⟨b,i*hb.e+o,none⟩):=h
theorem Qt.ND{β i o b:Nat}{hb:HB}(h1:ρ β=some b)(h2:hp β=some hb):Qt C ρ hp w (.mp β i o) (.pointer (some ⟨b,i*hb.e+o,none⟩)):=⟨b,hb,h1,h2,rfl⟩
theorem Q97{o:Oper}{t e:TypeId}{n:Nat}{x i:Operand}{px pi:PV}{d:Nat}(ho:o.op= .indexAddr t x i)(hd:o.dst=some d)(ar:d<C.N)(h:aI C ρ fr hp a.tmps w)
  (hu:C.P.underlying t=some (.slice e)) (hn:eB C.P e=some n) (hx:Qt C ρ hp w px (a.eval x)) (hi:Qt C ρ hp w pi (a.eval i)) (hv:dR n px pi d fr hp K):bk C ρ o a w K:=by
 unfold dR at hv;split at hv
 ·rename_i e' xs k m;obtain⟨rfl,h0,h1,hK⟩:=hv;have ei:=hi.kv;have hlen:m<xs.length:=by omega
  generalize ev:a.eval x=vx at hx;cases hx with
  |gT=>simp at h1
  |sl _ _ b off cap vs hX hb hl hc he oC hr=>
   have fy:=ZC h1;have fo:=he _ _ fy;refine bk.mk hd ar h (v:=.pointer (some ⟨b,off+m.toNat*n,none⟩)) (fun w'=>?_) ?_ hK
   ·unfold execOp;simp only[ho,ei,ev,Kao,GH hu hn h0 hlen,Kaj,KbA];rfl
   ·exact Qu.pt _ b _ (vs m.toNat) hX hb (fun j hj=>oC m.toNat h1 j (by omega)) (fun j y hy=>hr m.toNat _ fy j y hy)
 ·rename_i β o' m k n';obtain⟨h0,h1,h2,hK⟩:=hv;have ei:=hi.kv;obtain⟨hb,g1,g2,⟨g3,_,g5,_⟩|⟨b,cap,g3,g4,g5,g6⟩⟩:=hx
  ·omega
  ·rw[g1]at h2;simp only[Kck,KaB]at h2;subst h2;have hm:n'<m:=by omega
   refine bk.mk hd ar h (fun w'=>?_) (Qt.ND g3 g1) hK;unfold execOp;simp only[ho,ei,g4,Kao,GH hu hn h0 hm,Kaj,KbA,KaS,KaF];rfl
 ·rename_i γ o' m k n';obtain⟨h0,h1,h2,hK⟩:=hv;have ei:=hi.kv;obtain⟨hB,hb,b,cap,g1,g3,g4,g5,g6,g7⟩:=hx;rw[g1]at h2;simp only[Kck,KaB]at h2;subst h2;have hm:n'<m:=by omega
  refine bk.mk hd ar h (p:=.np γ (o'+n'.toNat) 0) (fun w'=>?_) (show cW C ρ hp w (.np γ (o'+n'.toNat) 0) _ from⟨hB,b,hb,g3,g1,rfl⟩) hK;unfold execOp;simp only[ho,ei,g4,Kao,GH hu hn h0 hm,Kaj,KbA,KaS,KaF];rfl
 ·exact hv.elim
theorem Qu.XN{X:Nat->Prop}{cs:List PV}{b off k:Nat}(h:Qu w X (.pt cs) (.pointer (some ⟨b,off,none⟩))):Qu w X (.pt (cs.drop k)) (.pointer (some ⟨b,off+k,none⟩)):=by
 cases h with
 |pt _ _ _ vs hX hb hv hr=>
  refine Qu.pt _ b _ (fun j=>vs (k+j)) hX hb (fun j hj=>?_) (fun j y hy=>?_)
  ·have:=hv (k+j) (by simp at hj;omega);rwa[<-Nat.add_assoc]at this
  ·rw[Kbb]at hy;exact hr _ _ hy
theorem Qt.F7{cs:List PV}{v:Value}(h:Qt C ρ hp w (.pt cs) v):∃b off,v= .pointer (some ⟨b,off,none⟩)/\Qu w (aH C ρ hp) (.pt cs) (.pointer (some ⟨b,off,none⟩)):=by
 have h':Qu w (aH C ρ hp) (.pt cs) v:=h;cases h' with
 |pt _ b off vs hX hb hv hr=>exact⟨b,off,rfl,.pt _ b off vs hX hb hv hr⟩
theorem Q7g{o:Oper}{t e:TypeId}{n len:Nat}{x i:Operand}{px pi:PV}{d:Nat}(ho:o.op= .indexAddr t x i)(hd:o.dst=some d)(ar:d<C.N)(h:aI C ρ fr hp a.tmps w)
  (hu:C.P.underlying t=some (.array len e)) (hn:eB C.P e=some n) (hx:Qt C ρ hp w px (a.eval x)) (hi:Qt C ρ hp w pi (a.eval i)) (hv:qK len n px pi d fr hp K):bk C ρ o a w K:=by
 unfold qK at hv;split at hv
 ·rename_i β j o' k m;obtain⟨h0,h1,hK⟩:=hv;have ei:=hi.kv;obtain⟨b,hb,g1,g2,g3⟩:=hx.y6;refine bk.mk hd ar h (fun w'=>?_) (Qt.ND g1 g2) hK;unfold execOp;simp only[ho,ei,g3,Kao,Sn hu hn h0 h1,Kaj,KbA,Kcg];rfl
 ·rename_i cs k m;obtain⟨h0,h1,h2,hK⟩:=hv;have ei:=hi.kv;obtain⟨b,off,ex,an⟩:=hx.F7;refine bk.mk hd ar h (p:=.pt (cs.drop (m.toNat*n))) (v:=.pointer (some ⟨b,off+m.toNat*n,none⟩)) (fun w'=>?_) an.XN hK;unfold execOp;simp only[ho,ei,ex,Kao,Sn hu hn h0 h1,Kaj,KbA];rfl
 ·exact hv.elim
theorem GQ{P:Program}{t:TypeId}{fs:Array Field}{j:Nat}{f:Field}{n b off:Nat}(hu:P.underlying t=some (.struct fs))(hf:fs[j]? =some f)(hn:eB P f.type=some n)(h0:n≠0)(w:World):
  (Instr.fieldAt t (.pointer (some ⟨b,off,none⟩)) j).run P w= .ok (.pointer (some ⟨b,off+f.offset,none⟩)) w:=by
 unfold Instr.fieldAt;simp only[Kao,iB hu,Kaj,hf,Instr.sureAddr,Ka0,fieldPlace,kW hn,if_neg h0,KbA]
theorem Q98{o:Oper}{t:TypeId}{fs:Array Field}{j n:Nat}{f:Field}{x:Operand}{px:PV}{d:Nat}(ho:o.op= .fieldAddr t x j)(hd:o.dst=some d)(ar:d<C.N)(h:aI C ρ fr hp a.tmps w)
  (hu:C.P.underlying t=some (.struct fs)) (hf:fs[j]? =some f) (hn:eB C.P f.type=some n) (mi:n≠0) (hx:Qt C ρ hp w px (a.eval x)) (hv:qR f.offset px d fr hp K):bk C ρ o a w K:=by
 unfold qR at hv;split at hv
 ·rename_i β i o';obtain⟨b,hb,g1,g2,g3⟩:=hx.y6;refine bk.mk hd ar h (fun w'=>?_) (Qt.ND g1 g2) hv;unfold execOp;simp only[ho,g3,Kao,GQ hu hf hn mi,Kaj,Kcg];rfl
 ·rename_i γ i o';obtain⟨hB,b,hb,g1,g2,g3⟩:=hx.NJ;refine bk.mk hd ar h (p:=.np γ i (o'+f.offset)) (fun w'=>?_) (show cW C ρ hp w (.np γ i (o'+f.offset)) _ from⟨hB,b,hb,g1,g2,rfl⟩) hv;unfold execOp;simp only[ho,g3,Kao,GQ hu hf hn mi,Kaj,Kcg];rfl
 ·rename_i cs;obtain⟨_,hK⟩:=hv;obtain⟨b,off,ex,an⟩:=hx.F7;refine bk.mk hd ar h (p:=.pt (cs.drop f.offset)) (v:=.pointer (some ⟨b,off+f.offset,none⟩)) (fun w'=>?_) an.XN hK;unfold execOp;simp only[ho,ex,Kao,GQ hu hf hn mi,Kaj];rfl
 ·exact hv.elim
theorem xe(vs:Array Value)(off n j:Nat)(hj:j<n)(h:off+n<=vs.size):(vs.extract off (off+n)).getD j undef=vs.getD (off+j) undef:=by
 have h1:j<(vs.extract off (off+n)).size:=by simp;omega
 have h2:off+j<vs.size:=by omega
 simp only[KaZ,Kbg h1,Kbg h2,Array.getElem_extract]
theorem Ao{X:Nat->Prop}{ag:Bool}{n off:Nat}{x:PV}{vs:Array Value}(hs:vs.size=n)(hle:off+n<=x.cells.length)(h1:ag=false->n=1)
  (hr:∀j y,j<n->x.cells[off+j]? =some y->Qu w X y (vs.getD j undef)):ba w X (eR ag n off x) (if ag then .agg vs else vs.getD 0 undef):=by
 cases ag with
 | true=>
  refine⟨vs,rfl,by simp[hs];omega,fun i y hy=>?_⟩;have hi:i<n:=by have:=(Kad.1 hy).1;simp at this;omega
  rw[KaM hi,Kbb]at hy;exact hr i y hi hy
 | false=>
  have hn:=h1 rfl;subst hn;have ar:off<x.cells.length:=by omega
  have e:x.cells[off+0]? =some (x.cells[off]):=by simp[Kam ar]
  have:=hr 0 _ (by omega) e;simp only[eR,KaJ,if_false];have e2:(x.cells.drop off).headD .undef=x.cells[off]:=by rw[KbG,Kcu,Kam ar];rfl
  rw[e2];exact ba.qw this
theorem Q7h{o:Oper}{t:TypeId}{fs:Array Field}{j n:Nat}{ag:Bool}{f:Field}{x:Operand}{px:PV}{d:Nat}(ho:o.op= .field t x j)(hd:o.dst=some d)(ar:d<C.N)(h:aI C ρ fr hp a.tmps w)
  (hu:C.P.underlying t=some (.struct fs)) (hf:fs[j]? =some f) (hn:eB C.P f.type=some n) (kf:lX C.P f.type=some ag) (hx:Qt C ρ hp w px (a.eval x)) (hv:qL f.offset n ag px d fr hp K):bk C ρ o a w K:=by
 unfold qL at hv;split at hv
 ·rename_i cs;obtain⟨h1,h2,hK⟩:=hv;obtain⟨vs,ex,g1,g2⟩:=hx;have hle:f.offset+n<=vs.size:=by omega
  have cN:=Ao (X:=aH C ρ hp) (w:=w) (ag:=ag) (off:=f.offset) (x:=.agg cs) (vs:=vs.extract f.offset (f.offset+n)) (by simp;omega) h1 h2
   (fun j y hj hy=>by rw[xe vs _ _ _ hj hle];exact g2 _ y hy)
  refine bk.mk hd ar h (fun w'=>?_) (Qt.lJ cN) hK;unfold execOp;simp only[ho,ex,Kao,Instr.field,iB hu,Kaj,hf,asAgg,Ka0,part,zQ kf];cases ag with
  |true=>simp only[if_true,Kao,kW hn,Kaj,Ka0]
  |false=>
   have lD:=h2 rfl;subst lD;have lC:f.offset<vs.size:=by omega
   simp only[KaJ,if_false,Kbg lC,Ka0,Kaj];rw[xe vs _ _ 0 (by omega) hle];simp[Array.getD,lC]
 ·rename_i cs;obtain⟨h1,h2,hK⟩:=hv;obtain⟨vs,ex,g1,g2⟩:=hx;have hle:f.offset+n<=vs.size:=by omega
  have cN:=P1 (C:=C) (ρ:=ρ) (hp:=hp) (w:=w) (ag:=ag) (off:=f.offset) (x:=.aX cs) (vs:=vs.extract f.offset (f.offset+n)) (by simp;omega) h1 h2
   (fun j y hj hy=>by rw[xe vs _ _ _ hj hle];exact g2 _ y hy)
  refine bk.mk hd ar h (fun w'=>?_) cN hK;unfold execOp;simp only[ho,ex,Kao,Instr.field,iB hu,Kaj,hf,asAgg,Ka0,part,zQ kf];cases ag with
  |true=>simp only[if_true,Kao,kW hn,Kaj,Ka0]
  |false=>
   have lD:=h2 rfl;subst lD;have lC:f.offset<vs.size:=by omega
   simp only[KaJ,if_false,Kbg lC,Ka0,Kaj];rw[xe vs _ _ 0 (by omega) hle];simp[Array.getD,lC]
 ·exact hv.elim
theorem Q99{o:Oper}{t:TypeId}{x i:Operand}{px pi:PV}{d:Nat}(ho:o.op= .index t x i)(hd:o.dst=some d)(ar:d<C.N)(h:aI C ρ fr hp a.tmps w)
  (hu:C.P.underlying t=some .string) (hx:Qt C ρ hp w px (a.eval x)) (hi:Qt C ρ hp w pi (a.eval i)) (hv:tT px pi d fr hp K):bk C ρ o a w K:=by
 unfold tT at hv;split at hv
 ·rename_i s k m;obtain⟨h0,h1,hK⟩:=hv;have ei:=hi.kv;have ex:=hx.F9;have lC:m.toNat<s.size:=by omega
  have e0:s.get! m.toNat=s[m.toNat]'lC:=by simp[ByteArray.get!,getElem!_pos,lC];rfl
  have e1:(if 0<=m then s[m.toNat]? else none)=some (s.get! m.toNat):=by rw[if_pos h0,getElem?_pos s m.toNat lC,e0]
  refine bk.mk hd ar h (fun w'=>?_) (Qt.mkInt _ _) hK;unfold execOp;simp only[ho,ex,ei,Kao,Instr.index,asIntOf,iB hu,Kaj,Ka0,e1]
 ·exact hv.elim
theorem abD{o:Oper}{t e:TypeId}{len n:Nat}{ag:Bool}{x i:Operand}{px pi:PV}{d:Nat}(ho:o.op= .index t x i)(hd:o.dst=some d)(ar:d<C.N)(h:aI C ρ fr hp a.tmps w)
  (hu:C.P.underlying t=some (.array len e)) (hn:eB C.P e=some n) (kf:lX C.P e=some ag) (hx:Qt C ρ hp w px (a.eval x)) (hi:Qt C ρ hp w pi (a.eval i)) (hv:ym len n ag px pi d fr hp K):bk C ρ o a w K:=by
 unfold ym at hv;split at hv
 ·rename_i cs k m;obtain⟨h0,h00,h1,h2,hK⟩:=hv;have ei:=hi.kv;obtain⟨vs,ex,g1,g2⟩:=hx;have hle:m.toNat*n+n<=vs.size:=by omega
  have Br:0<=m/\m<len:=⟨h0,h00⟩
  have cN:=Ao (X:=aH C ρ hp) (w:=w) (ag:=ag) (off:=m.toNat*n) (x:=.agg cs) (vs:=vs.extract (m.toNat*n) (m.toNat*n+n)) (by simp;omega) h1 h2
   (fun j y hj hy=>by rw[xe vs _ _ _ hj hle];exact g2 _ y hy)
  refine bk.mk hd ar h (fun w'=>?_) (Qt.lJ cN) hK;unfold execOp;simp only[ho,ex,ei,Kao,Instr.index,asIntOf,iB hu,Kaj,Ka0,if_pos Br,kW hn,part,zQ kf];cases ag with
  |true=>simp only[if_true,Kao,kW hn,Kaj,Ka0]
  |false=>
   have lD:=h2 rfl;subst lD;have lC:m.toNat*1<vs.size:=by omega
   simp only[KaJ,if_false,Kbg lC,Ka0,Kaj];rw[xe vs _ _ 0 (by omega) hle];have wz:m.toNat<vs.size:=by omega
   simp[Array.getD,wz]
 ·exact hv.elim
end Go.FW
namespace Go.FW
open Go
variable {C : Ctx} {ρ : Nat -> Option Nat} {fr : Fr} {hp : HP} {w : World} {a : Act} {K : Qh}
def AD(C:Ctx)(ρ:Nat->Option Nat)(o:Oper)(a:Act)(w:World)(K:Qh):Prop:=
 ∃v b,b<w.heap.size/\(∀w',w'.heap[b]? =w.heap[b]? ->(execOp a.eval o).run C.P w'= .ok (.value v) w')/\∃ay an,aI C ρ ay an (a.put o.dst v).tmps w/\K ay an
theorem CO{P:Program}{t:TypeId}{n b off:Nat}{ag:Bool}{vs:Array Value}(hn:eB P t=some n)(kf:lX P t=some ag)(h1:ag=false->n=1)(hs:vs.size=n)
  (w:World) (hc:∀j,j<n->w.cell? ⟨b,off+j,none⟩=some (vs.getD j undef)):
  (loadVar t ⟨b,off,none⟩).run P w= .ok (if ag then .agg vs else vs.getD 0 undef) w:=by
 unfold loadVar;simp only[Kao,zQ kf,Kaj];cases ag with
 | true=>
  have hl:=run_loadCells_list (P:=P) w ⟨b,off,none⟩ vs.toList (fun j v hj=>by
   have fG:j<vs.size:=by simpa using(Kad.1 hj).1
   rw[KbA,hc j (by omega),CR vs j v hj])
  simp only[Array.length_toList,hs]at hl;simp only[if_true,Kao,kW hn,Kaj,hl,Ka0]
 |false=>have lD:=h1 rfl;subst lD;have h0:=hc 0 (by omega);simp only[KaS]at h0;simp only[KaJ,if_false,run_load,h0]
theorem nT{i e o j n cap:Nat}(h1:i<cap)(h2:o+n<=e)(h3:j<n):i*e+o+j<cap*e:=by have:(i+1)*e<=cap*e:=Kaf e h1;rw[KaF,KcW]at this;omega
theorem lM{w:World}{b o:Nat}{cur:Array Value}{ty:TypeId}(h:w.heap[b]? =some (.cells cur ty (0,0)))(ho:o<cur.size):w.cell? ⟨b,o,none⟩=some (cur.getD o undef):=by simp[World.cell?,h,ho,Array.getD]
theorem tl{n:Nat}{f:Nat->Value}{j:Nat}(hj:j<n):(Array.ofFn (n:=n) fun i=>f i.val).getD j undef=f j:=by simp[Array.getD,hj]
theorem acY{o:Oper}{t:TypeId}{n:Nat}{ag:Bool}{x:Operand}{px:PV}{d:Nat}(ho:o.op= .load t x)(hd:o.dst=some d)(ar:d<C.N)(h:aI C ρ fr hp a.tmps w)
  (hn:eB C.P t=some n) (kf:lX C.P t=some ag) (hx:Qt C ρ hp w px (a.eval x)) (hv:kT n ag px d fr hp K):AD C ρ o a w K:=by
 have fin:∀(b off:Nat)(vs:Array Value)(p:PV),a.eval x= .pointer (some ⟨b,off,none⟩)->(ag=false->n=1)->b<w.heap.size->vs.size=n->
   (∀j,j<n->w.cell? ⟨b,off+j,none⟩=some (vs.getD j undef))->ba w (aH C ρ hp) p (if ag then .agg vs else vs.getD 0 undef)->K (af fr d p) hp->AD C ρ o a w K:=by
  intro b off vs p ex h1 hb hs hc hr hK;refine⟨_,b,hb,fun w' rz=>?_,af fr d p,hp,by rw[hd];exact h.af (Qt.lJ hr) ar,hK⟩;have:=CO (P:=C.P) hn kf h1 hs w' (fun j hj=>by rw[vd rz];exact hc j hj);unfold execOp;simp only[ho,ex,Kao,Instr.loadAt,Instr.sureAddr,Ka0,Kaj,this]
 unfold kT at hv;split at hv
 ·rename_i β i o';split at hv
  ·rename_i hb al;obtain⟨h1,h2,h3,hK⟩:=hv;obtain⟨b,fm,g1,g2,g3⟩:=hx.y6;rw[al]at g2;cases g2;have bn:=h.own β hb al;have bc:=bn.eg;rw[g1]at bc;obtain⟨_,lC,cur,cap,c1,c2,c3,c4,c5⟩:=bc;have eA:=Kam h1;have fo:=(bn.len i _ eA).1;have dU:i<cap:=by omega
   have nv:∀j,j<n->i*hb.e+o'+j<cur.size:=fun j hj=>by rw[c2];exact nT dU h2 hj
   refine fin b (i*hb.e+o') (Array.ofFn (n:=n) fun j=>cur.getD (i*hb.e+o'+j.val) undef) _ g3 h3 lC (by simp) (fun j hj=>?_) ?_ hK
   ·rw[tl (f:=fun j=>cur.getD (i*hb.e+o'+j) undef) hj];exact lM c1 (nv j hj)
   ·refine Ao (by simp) (by rw[fo];exact h2) h3 (fun j y hj hy=>?_);rw[tl (f:=fun j=>cur.getD (i*hb.e+o'+j) undef) hj,Kcg];exact c5 i _ eA (o'+j) y hy
  ·exact hv.elim
 ·rename_i cs;obtain⟨h1,h3,hK⟩:=hv;obtain⟨b,off,ex,hpt⟩:=hx.F7;cases hpt with
  | pt _ _ _ vs hX hb Fo hr=>
   refine fin b off (Array.ofFn (n:=n) fun j=>vs j.val) _ ex h3 hb (by simp) (fun j hj=>?_) ?_ hK
   ·rw[tl hj];exact Fo j (by omega)
   ·refine Ao (by simp) (by simpa[PV.cells]using h1) h3 (fun j y hj hy=>?_);rw[tl hj];exact hr j y (by simpa[PV.cells]using hy)
 ·rename_i β o' m;obtain⟨rfl,rfl,hK⟩:=hv;obtain⟨b,u,e1,e2,e3,e4,e5⟩:=hx;refine⟨_,b,e2,fun w' rz=>?_,af fr d (.ax β o' m),hp,by rw[hd];exact h.af (p:=.ax β o' m) (v:=u) e5 ar,hK⟩;have:=CO (P:=C.P) (t:=t) (b:=b) (off:=0) (vs:= #[u]) hn kf (fun _=>rfl) rfl w' (fun j hj=>by
   obtain rfl:j=0:=by omega
   rw[vd rz];simpa using e4)
  unfold execOp;simp only[ho,e1,Kao,Instr.loadAt,Instr.sureAddr,Ka0,Kaj,this];rfl
 ·rename_i γ i o';split at hv
  ·rename_i bF e ty xs ak;obtain⟨rfl,h1,h2,h3,hK⟩:=hv;obtain⟨hB,b,hb,g1,g2,g3⟩:=hx.NJ;have cJ:=h.fh bF;rw[ak]at cJ;obtain⟨_,we,b',aw,cur,cap,q1,q2,q3,q4,q5,q6,q7,q8,q9,Ce,iA⟩:=cJ;rw[g1]at q1;cases q1;rw[g2]at q2;cases q2;rw[q4]at g3;have lC:b<w.heap.size:=(KaI.1 q6).1;have eA:=Kam h1;have fo:=Ce i _ eA;have dU:i<cap:=by omega
   have nv:∀j,j<n->i*e+o'+j<cur.size:=fun j hj=>by rw[q7];exact nT dU h2 hj
   have gu:∀j,j<n->w.cell? ⟨b,i*e+o'+j,none⟩=some ((Array.ofFn (n:=n) fun j=>cur.getD (i*e+o'+j.val) undef).getD j undef):=fun j hj=>by rw[tl (f:=fun j=>cur.getD (i*e+o'+j) undef) hj];exact lM q6 (nv j hj)
   have cN:=P1 (C:=C) (ρ:=ρ) (hp:=hp) (w:=w) (ag:=ag) (n:=n) (off:=o') (x:=xs[i]) (vs:=Array.ofFn (n:=n) fun j=>cur.getD (i*e+o'+j.val) undef) (by simp) (by rw[fo];exact h2) h3 (fun j y hj hy=>by rw[tl (f:=fun j=>cur.getD (i*e+o'+j) undef) hj,Kcg];exact iA i _ eA (o'+j) y hy);refine⟨_,b,lC,fun w' rz=>?_,af fr d _,hp,by rw[hd];exact h.af cN ar,hK⟩;have:=CO (P:=C.P) (b:=b) (off:=i*e+o') (vs:=Array.ofFn (n:=n) fun j=>cur.getD (i*e+o'+j.val) undef) hn kf h3 (by simp) w' (fun j hj=>by rw[vd rz];exact gu j hj);unfold execOp;simp only[ho,g3,Kao,Instr.loadAt,Instr.sureAddr,Ka0,Kaj,this]
  ·exact hv.elim
 ·exact hv.elim
theorem Tc{tmps:Array Value}(h:aI C ρ fr hp tmps w){β b:Nat}{hb:HB}{l:List Nat}(_hB:bN β=false)(al:hp β=some hb)(hl:β∈l)(bE:ρ β=some b):¬aH C ρ (cf hp l) b:=by
 have bc:=(h.own β hb al).eg;rw[bE]at bc;rintro(hx|⟨γ,hg,h1,h2,h3⟩)
 ·exact Ctx.L9 bc.1 (Ex _hB) hx
 ·obtain⟨iw,g1,_,_,_,_,g6⟩:=zx h1;have:=h.inj γ β b (by simp[g1]) (by simp[al]) h3 bE;subst this;exact g6 h2 hl
theorem Di{tmps:Array Value}(h:aI C ρ fr hp tmps w){p:PV}{v:Value}{l:List Nat}(hr:cW C ρ hp w p v)(hl:∀β∈p.bS,β∈l)(hu:cE hp p≠ .undef):Qu w (aH C ρ (cf hp l)) (cE hp p) v:=by
 cases p with
 | mp β i o=>
  obtain⟨b,hb,g1,g2,rfl⟩:=hr;have wL:=hl β (by simp[PV.bS]);have bn:=h.own β hb g2;have bc:=bn.eg;rw[g1]at bc;obtain⟨_,ar,cur,cap,c1,c2,c3,c4,c5⟩:=bc;have hB:bN β=false:=by
   cases hq:bN β with
   |false=>rfl
   |true=>simp[cE,hq]at hu
  simp only[cE,g2,hB]at hu⊢;cases hx:hb.xs[i]? with
  |none=>simp[hx]at hu
  | some x=>
   simp only[KaJ,if_false];have hi:i<hb.xs.length:=(Kad.1 hx).1;have fo:=(bn.len i x hx).1;refine Qu.pt _ b _ (fun j=>cur.getD (i*hb.e+o+j) undef) (Tc h hB g2 wL g1) ar (fun j hj=>?_) (fun j y hy=>?_)
   ·have fG:o+(j+1)<=hb.e:=by simp[fo]at hj;omega
    exact lM c1 (by rw[c2];exact nT (by omega) fG (Kdd j))
   ·rw[Kbb]at hy;rw[Kcg];exact(c5 i x hx (o+j) y hy).freeze
 | ax β o n=>
  obtain⟨hb,g1,g2,g3⟩:=hr;have hB:bN β=false:=by
   cases hq:bN β with
   |false=>rfl
   |true=>simp[cE,hq]at hu
  simp only[cE,g1,hB];rcases g3 with⟨g3,rfl,rfl,rfl⟩|⟨b,cap,g3,rfl,g5,g6⟩
  ·simp only[Kb5];exact .gT _ _ _ (Kby _)
  ·have wL:=hl β (by simp[PV.bS]);have bn:=h.own β hb g1;have bc:=bn.eg;rw[g3]at bc;obtain⟨_,ar,cur,eY,c1,c2,c3,c4,c5⟩:=bc;obtain⟨cur',ty',d1,d2⟩:=g5;rw[c1]at d1;cases d1;have gA:o+cap=eY:=by rw[c2]at d2;exact(KbC bn.l6 d2).symm
   subst gA;have hlen:((hb.xs.drop o).take n).length=n:=by simp;omega
   have e9:∀(i:Nat)(x:PV),((hb.xs.drop o).take n)[i]? =some x->i<n/\hb.xs[o+i]? =some x:=fun i x hx=>by
    have hi:i<n:=by have:=(Kad.1 hx).1;omega
    rw[KaM hi,Kbb]at hx;exact⟨hi,hx⟩
   have:=Qu.sl (w:=w) (X:=aH C ρ (cf hp l)) hb.e ((hb.xs.drop o).take n) b (o*hb.e) cap (fun i j=>cur.getD ((o+i)*hb.e+j) undef) (Tc h hB g1 wL g3) ar (by omega) (by omega)
    (fun i x hx=>(bn.len _ x (e9 i x hx).2).1)
    (fun i hi j hj=>by rw[hlen]at hi;have:=nT (i:=o+i) (e:=hb.e) (o:=0) (j:=j) (n:=hb.e) (cap:=o+cap) (by omega) (by omega) hj;rw[KaS]at this;rw[show o*hb.e+i*hb.e+j=(o+i)*hb.e+j by rw[KaF]];exact lM c1 (by rw[c2];exact this))
    (fun i x hx j y hy=>(c5 _ x (e9 i x hx).2 j y hy).freeze)
   rwa[hlen]at this
 |undef=>simp[cE]at hu
 |rb=>simp[cE]at hu
 |aM=>simp[cE]at hu
 |np=>simp[cE]at hu
 |aX=>simp[cE]at hu
 |ff=>simp[cE]at hu
 |fg=>simp[cE]at hu
 |aN=>simp[cE]at hu
 |_=>exact Qu.freeze hr
theorem P2{p:PV}(h:p.ik=true):p≠ .undef:=by cases p<;>simp[PV.ik]at h⊢
theorem UY{p:PV}(h:p.aE=true):p≠ .undef:=by cases p<;>simp[PV.aE]at h⊢
theorem qG{tmps:Array Value}(h:aI C ρ fr hp tmps w){p:PV}{v:Value}{l:List Nat}(hr:Qt C ρ hp w p v)(hl:∀β∈p.refs,β∈l)(hd:(aK hp p).aE=true):ba w (aH C ρ (cf hp l)) (aK hp p) v:=by
 cases p with
 | fn f first cap=>
  obtain⟨fv,cv,rfl,h1,h2,h3,h4⟩:=hr;simp only[aK,PV.aE,Kat,Kav,KaE,forall_exists_index,and_imp,forall_apply_eq_imp_iff₂]at hd;refine Qu.fn f _ _ fv cv (by simp[h1]) (by simp[h2]) (fun i x hx=>?_) (fun i x hx=>?_)
  ·simp only[Kay,Kaa]at hx;obtain⟨y,hy,rfl⟩:=hx;exact Di h (h3 i y hy) (fun β al=>hl β (GG hy β al)) (P2 (hd.1 y (Kai hy)))
  ·simp only[Kay,Kaa]at hx;obtain⟨y,hy,rfl⟩:=hx;exact Di h (h4 i y hy) (fun β al=>hl β (GP hy β al)) (P2 (hd.2 y (Kai hy)))
 |mp β i o=>exact ba.qw (Di (p:=.mp β i o) h hr hl (UY hd))
 |ax β o n=>exact ba.qw (Di (p:=.ax β o n) h hr hl (UY hd))
 |undef=>simp[aK,cE,PV.aE]at hd
 |rb=>simp[aK,cE,PV.aE]at hd
 |aM=>simp[aK,cE,PV.aE]at hd
 |np=>simp[aK,cE,PV.aE]at hd
 |aX=>simp[aK,cE,PV.aE]at hd
 |ff=>simp[aK,cE,PV.aE]at hd
 |fg=>simp[aK,cE,PV.aE]at hd
 |aN=>simp[aK,cE,PV.aE]at hd
 |au ps=>simp[aK,cE,PV.aE]at hd
 |agg cs=>exact ba.mono (p:=.agg cs) hr (fun _ _ _=>rfl) (fun _ _ hn hx=>hn (Hb hx)) (Kac _)
 |_=>exact Qu.freeze hr
end Go.FW
namespace Go.FW
open Go
variable {C : Ctx} {ρ : Nat -> Option Nat} {fr : Fr} {hp : HP} {w : World} {a : Act} {K : Qh}
theorem tp{x:Option Operand}{y:Option aP}{Vy n:Int}(h:aI C ρ fr hp a.tmps w)(ho:nZ x=some y)(hb:iD Vy (y.map (ev fr))=some n):
  (x=none/\y=none/\n=Vy)∨∃z k,x=some z/\a.eval z= .int k n/\y.isSome=true:=by
 cases x with
 |none=>simp[nZ]at ho;subst ho;simp[iD]at hb;exact .inl ⟨rfl,rfl,hb.symm⟩
 | some z=>
  simp only[nZ,Kaa]at ho;obtain⟨u,hu,rfl⟩:=ho;have hr:=cF h hu;simp only[Kck]at hb;cases an:ev fr u with
  |int k m=>rw[an]at hb hr;simp[iD]at hb;subst hb;exact .inr ⟨z,k,rfl,hr.kv,rfl⟩
  |_=>rw[an]at hb;simp[iD]at hb
theorem uX{P:Program}{k:IntKind}{i:Int}{y:Nat}{code:BoundsCode}(h0:0<=i)(h1:i<=y)(w:World):(Instr.sliceBound (.int k i) y code).run P w= .ok i.toNat w:=by
 unfold Instr.sliceBound;have:0<=i/\i<=y:=⟨h0,h1⟩
 simp only[asIntOf,Kao,Ka0,Kaj,if_pos this]
theorem C5{P:Program}{len cap:Nat}{lo hi mx:Option Operand}{L H M:Int}(eval:Operand->Value)
  (hL:(lo=none/\L=0)∨∃z k,lo=some z/\eval z= .int k L)
  (hH:(hi=none/\H=len)∨∃z k,hi=some z/\eval z= .int k H)
  (hM:(mx=none/\M=len)∨∃z k,mx=some z/\eval z= .int k M) (hm:mx.isSome=true->hi.isSome=true)
  (h0:0<=L) (h1:L<=H) (h2:H<=M) (h3:M<=len) (h4:len<=cap):
  ∃m,L.toNat<=m/\H.toNat<=m/\m<=cap/\(mx=none->m=cap)/\∀w,(Instr.sliceBounds true len cap (lo.map eval) (hi.map eval) (mx.map eval)).run P w= .ok (L.toNat,H.toNat,m) w:=by
 have c1:H<=(cap:Int):=by omega
 rcases hM with⟨rfl,hM⟩|⟨zm,km,rfl,hM⟩
 ·refine⟨cap,by omega,by omega,Kac _,fun _=>rfl,fun w=>?_⟩;rcases hH with⟨rfl,hH⟩|⟨zh,kh,rfl,hH⟩<;>rcases hL with⟨rfl,hL⟩|⟨zl,kl,rfl,hL⟩
  ·subst hH;subst hL;simp[Instr.sliceBounds,Kao]
  ·subst hH;have e:=uX (P:=P) (k:=kl) (code:=.sliceB) (y:=len) h0 h1;simp[Instr.sliceBounds,Kao,hL,e]
  ·subst hL;have e:=uX (P:=P) (k:=kh) (code:=.sliceAcap) (y:=cap) (by omega) c1;simp[Instr.sliceBounds,Kao,hH,e]
  ·have e:=uX (P:=P) (k:=kh) (code:=.sliceAcap) (y:=cap) (by omega) c1;have e2:=uX (P:=P) (k:=kl) (code:=.sliceB) (y:=H.toNat) h0 (by omega);simp[Instr.sliceBounds,Kao,hH,hL,e,e2]
 ·rcases hH with⟨rfl,hH⟩|⟨zh,kh,rfl,hH⟩
  ·simp at hm
  have e:=uX (P:=P) (k:=km) (code:=.slice3Acap) (y:=cap) (i:=M) (by omega) (by omega);have e1:=uX (P:=P) (k:=kh) (code:=.slice3B) (y:=M.toNat) (i:=H) (by omega) (by omega);refine⟨M.toNat,by omega,by omega,by omega,fun h=>by simp at h,fun w=>?_⟩;rcases hL with⟨rfl,hL⟩|⟨zl,kl,rfl,hL⟩
  ·subst hL;simp[Instr.sliceBounds,Kao,hH,hM,e,e1]
  ·have e2:=uX (P:=P) (k:=kl) (code:=.slice3C) (y:=H.toNat) (i:=L) h0 (by omega);simp[Instr.sliceBounds,Kao,hH,hM,hL,e,e1,e2]
theorem CP{P:Program}{t e:TypeId}{n len cap l h m:Nat}{ad:Option Addr}{lo hi mx:Option Value}(hu:P.underlying t=some (.slice e))(hn:eB P e=some n)(w:World)
  (hb:(Instr.sliceBounds true len cap lo hi mx).run P w= .ok (l,h,m) w):
  (Instr.sliceAt t (.slice ad len cap) lo hi mx).run P w= .ok (.slice (if m=l then ad else ad.map (·.add (l*n))) (h-l) (m-l)) w:=by
 unfold Instr.sliceAt Instr.slice;simp only[Kao,iB hu,Kaj,hb,kW hn,Ka0]
theorem Sy{xs:List PV}{H L i:Nat}{x:PV}(hx:((xs.take H).drop L)[i]? =some x):xs[L+i]? =some x/\L+i<H:=by
 rw[Kbb]at hx;have hi:L+i<H:=by have:=(Kad.1 hx).1;simp at this;omega
 rw[KaM hi]at hx;exact⟨hx,hi⟩
theorem Qu.part{X:Nat->Prop}{e:Nat}{xs:List PV}{ad:Option Addr}{cap L H m:Nat}(h:Qu w X (.sl e xs) (.slice ad xs.length cap))(h1:L<=H)(h2:H<=xs.length)(h3:H<=m)(h4:m<=cap):
  Qu w X (.sl e ((xs.take H).drop L)) (.slice (if m=L then ad else ad.map (·.add (L*e))) (H-L) (m-L)):=by
 by_cases he:H=L
 ·subst he;have:(xs.take H).drop H=[]:=List.drop_eq_nil_of_le (by simp;omega);rw[this,KbP];refine .gT _ _ _ ?_;cases h with
  |gT _ _ _ hc=>omega
  |sl _ _ b off _ vs hX hb hl hc=>omega
 ·have hlen:((xs.take H).drop L).length=H-L:=by simp;omega
  cases h with
  |gT=>simp at h2;omega
  | sl _ _ b off _ vs hX hb hl hc he' hv hr=>
   have hm:¬m=L:=by omega
   rw[if_neg hm];simp only[Kck,KbA];have:=Qu.sl (w:=w) (X:=X) e ((xs.take H).drop L) b (off+L*e) (m-L) (fun i j=>vs (L+i) j) hX hb (by omega) (by omega)
    (fun i x hx=>he' _ x (Sy hx).1)
    (fun i hi j hj=>by have:=hv (L+i) (by omega) j hj;rw[show off+L*e+i*e+j=off+(L+i)*e+j by rw[KaF];omega];exact this)
    (fun i x hx j y hy=>hr _ x (Sy hx).1 j y hy)
   rwa[hlen]at this
theorem adq{o:Oper}{t e:TypeId}{n:Nat}{x:Operand}{px:PV}{lo hi mx:Option Operand}{F5 Ca Cb:Option aP}{d:Nat}(ho:o.op= .slice t x lo hi mx)(hd:o.dst=some d)(ar:d<C.N)(h:aI C ρ fr hp a.tmps w)
  (hu:C.P.underlying t=some (.slice e)) (hn:eB C.P e=some n) (hx:Qt C ρ hp w px (a.eval x)) (o4:nZ lo=some F5) (uy:nZ hi=some Ca) (wB:nZ mx=some Cb)
  (hv:iM n px (F5.map (ev fr)) (Ca.map (ev fr)) (Cb.map (ev fr)) d fr hp K):bk C ρ o a w K:=by
 have lI:∀ {x:Option Operand} {y:Option aP},nZ x=some y->(x.isSome=true↔y.isSome=true):=by
  intro x y BV;cases x with
  |none=>simp[nZ]at BV;subst BV;simp
  |some z=>simp only[nZ,Kaa]at BV;obtain⟨u,_,rfl⟩:=BV;simp
 have common:∀(an:HP)(xs:List PV)(len cap:Nat)(ad:Option Addr)(L H M:Int),aI C ρ fr an a.tmps w->len=xs.length->a.eval x= .slice ad len cap->len<=cap->
   Qu w (aH C ρ an) (.sl n xs) (.slice ad xs.length cap)->iD 0 (F5.map (ev fr))=some L->iD len (Ca.map (ev fr))=some H->iD len (Cb.map (ev fr))=some M->
   0<=L->L<=H->H<=M->M<=len->((Cb.map (ev fr)).isSome=true->(Ca.map (ev fr)).isSome=true)->K (af fr d (.sl n ((xs.take H.toNat).drop L.toNat))) an->bk C ρ o a w K:=by
  intro an xs len cap ad L H M hs hl ex dU hr bL bH bM h0 h1 h2 h3 hm hK;have e1:=tp h o4 bL;have e2:=tp h uy bH;have e3:=tp h wB bM;obtain⟨m,q1,q2,q3,_,q4⟩:∃m,L.toNat<=m/\H.toNat<=m/\m<=cap/\(mx=none->m=cap)/\∀w',(Instr.sliceBounds true len cap (lo.map a.eval) (hi.map a.eval) (mx.map a.eval)).run C.P w'= .ok (L.toNat,H.toNat,m) w':=by
   refine C5 (P:=C.P) a.eval ?_ ?_ ?_ (fun hq=>(lI uy).2 (by simpa using hm (by simpa using(lI wB).1 hq))) h0 h1 h2 h3 dU
   ·rcases e1 with⟨q1,_,q3⟩|⟨z,k,q1,q2,_⟩
    ·exact .inl ⟨q1,q3⟩
    ·exact .inr ⟨z,k,q1,q2⟩
   ·rcases e2 with⟨q1,_,q3⟩|⟨z,k,q1,q2,_⟩
    ·exact .inl ⟨q1,q3⟩
    ·exact .inr ⟨z,k,q1,q2⟩
   ·rcases e3 with⟨q1,_,q3⟩|⟨z,k,q1,q2,_⟩
    ·exact .inl ⟨q1,q3⟩
    ·exact .inr ⟨z,k,q1,q2⟩
  have hp:=hr.part (L:=L.toNat) (H:=H.toNat) (m:=m) (by omega) (by omega) q2 q3;refine⟨_,fun w'=>?_,af fr d _,an,by rw[hd];exact hs.af (Qt.lJ (ba.qw hp)) ar,hK⟩;unfold execOp;simp only[ho,ex,Kao,CP hu hn w' (q4 w'),Kaj];rfl
 unfold iM at hv;split at hv
 ·
  split at hv
  ·rename_i L H M bL bH bM;obtain⟨rfl,rfl,rfl,hm,hK⟩:=hv;have ex:=hx.wS;refine bk.mk hd ar h (p:=.aa) (v:=.slice none 0 0) (fun w'=>?_) Qu.aa hK;have e1:=tp h o4 bL;have e2:=tp h uy bH;have e3:=tp h wB bM;obtain⟨m,q1,q2,q3,_,q4⟩:∃m,(0:Int).toNat<=m/\(0:Int).toNat<=m/\m<=0/\(mx=none->m=0)/\∀w',(Instr.sliceBounds true 0 0 (lo.map a.eval) (hi.map a.eval) (mx.map a.eval)).run C.P w'= .ok ((0:Int).toNat,(0:Int).toNat,m) w':=by
    refine C5 (P:=C.P) a.eval ?_ ?_ ?_ (fun hq=>(lI uy).2 (by simpa using hm (by simpa using(lI wB).1 hq))) (KcJ _) (KcJ _) (KcJ _) (by simp) (Kac _)
    ·rcases e1 with⟨q1,_,q3⟩|⟨z,k,q1,q2,_⟩
     ·exact .inl ⟨q1,q3⟩
     ·exact .inr ⟨z,k,q1,q2⟩
    ·rcases e2 with⟨q1,_,q3⟩|⟨z,k,q1,q2,_⟩
     ·exact .inl ⟨q1,by simp⟩
     ·exact .inr ⟨z,k,q1,q2⟩
    ·rcases e3 with⟨q1,_,q3⟩|⟨z,k,q1,q2,_⟩
     ·exact .inl ⟨q1,by simp⟩
     ·exact .inr ⟨z,k,q1,q2⟩
   obtain rfl:m=0:=by omega
   unfold execOp;simp only[ho,ex,Kao,CP hu hn w' (q4 w'),Kaj];rfl
  ·exact hv.elim
 ·rename_i e' xs;split at hv
  ·rename_i L H M bL bH bM;obtain⟨rfl,h0,h1,h2,h3,hm,hK⟩:=hv;obtain⟨ad,cap,ex,oV,iZ⟩:=hx.XT;have aW:Qu w (aH C ρ hp) (.sl e' xs) (a.eval x):=hx;rw[ex]at aW;exact common hp xs _ cap ad L H M h rfl ex oV aW bL bH bM h0 h1 h2 h3 hm hK
  ·exact hv.elim
 ·rename_i β o' m;cases Cb with
  |some zm=>revert hv;split<;>simp_all
  |none=>
  split at hv
  ·rename_i L H bL bH bM;obtain⟨he,h0,h1,h2,h3,hK⟩:=hv;have m0:mx=none:=by cases mx<;>simp[nZ]at wB⊢
   subst m0;have e1:=tp h o4 bL;have e2:=tp h uy bH;obtain⟨hb,g1,g2,g3⟩:=hx;rw[g1]at he;simp only[Kck,KaB]at he;have hL:(lo=none/\L=0)∨∃z k,lo=some z/\a.eval z= .int k L:=by
    rcases e1 with⟨q1,_,q3⟩|⟨z,k,q1,q2,_⟩
    ·exact .inl ⟨q1,q3⟩
    ·exact .inr ⟨z,k,q1,q2⟩
   have hH:(hi=none/\H=(m:Int))∨∃z k,hi=some z/\a.eval z= .int k H:=by
    rcases e2 with⟨q1,_,q3⟩|⟨z,k,q1,q2,_⟩
    ·exact .inl ⟨q1,q3⟩
    ·exact .inr ⟨z,k,q1,q2⟩
   rcases g3 with⟨g3,ex,rfl,rfl⟩|⟨b,cap,g3,ex,g5,g6⟩
   ·obtain⟨m',q1,q2,q3,_,q4⟩:=C5 (P:=C.P) (len:=0) (cap:=0) (mx:=none) (M:=0) a.eval hL hH (.inl ⟨rfl,rfl⟩) (by simp) h0 h1 h2 (by simp) (Kac _);have hH0:H.toNat=0:=by omega
    have hL0:L.toNat=0:=by omega
    have kn:m'=0:=by omega
    refine bk.mk hd ar h (v:=.slice none 0 0) (fun w'=>?_) ?_ hK
    ·unfold execOp;simp only[ho,ex,Kao,CP hu hn w' (q4 w'),Kaj];simp[hH0,kn,hL0]
    ·exact⟨hb,g1,by omega,.inl ⟨g3,rfl,by omega,by omega⟩⟩
   ·have dU:m<=cap:=by have bc:=(h.own β hb g1).eg;rw[g3]at bc;obtain⟨_,_,cur,eY,c1,c2,c3,c4,c5⟩:=bc;obtain⟨cur',ty',d1,d2⟩:=g5;rw[c1]at d1;cases d1;rw[c2]at d2;have:=KbC (h.own β hb g1).l6 d2;omega
    obtain⟨m',q1,q2,q3,q5,q4⟩:=C5 (P:=C.P) (len:=m) (cap:=cap) (mx:=none) (M:=(m:Int)) a.eval hL hH (.inl ⟨rfl,rfl⟩) (by simp) h0 h1 h2 (KcJ _) dU;obtain rfl:=q5 rfl;refine bk.mk hd ar h (v:=.slice (some ⟨b,(o'+L.toNat)*hb.e,none⟩) (H.toNat-L.toNat) (m'-L.toNat)) (fun w'=>?_) ?_ hK
    ·unfold execOp;simp only[ho,ex,Kao,CP hu hn w' (q4 w'),Kaj];congr 1;by_cases hz:L=0
     ·subst hz;simp[Addr.add_zero']
     ·rw[if_neg (by omega)];simp[KbA,he,KaF]
    ·exact⟨hb,g1,by omega,.inr ⟨b,m'-L.toNat,g3,rfl,by rw[show o'+L.toNat+(m'-L.toNat)=o'+m' by omega];exact g5,by omega⟩⟩
  ·exact hv.elim
 ·exact hv.elim
end Go.FW
namespace Go.FW
open Go
variable {C : Ctx} {ρ : Nat -> Option Nat} {fr : Fr} {hp : HP} {w : World} {a : Act} {K : Qh}
def pM(Q:PV->Value->Prop)(ps:List PV)(vs:Array Value):Prop:=vs.size=ps.length/\∀(i:Nat)(x:PV),ps[i]? =some x->Q x (vs.getD i undef)
abbrev Rows(w:World)(X:Nat->Prop)(ps:List PV)(vs:Array Value):Prop:=pM (Qu w X) ps vs
theorem OI(off:Nat):∀(l:List Value)(s:Nat)(cs:Array Value),
  ((l.zipIdx s).foldl (fun cs (p:Value×Nat)=>cs.setIfInBounds (off+p.2) p.1) cs).size=cs.size/\
  ∀k,k<cs.size->((l.zipIdx s).foldl (fun cs (p:Value×Nat)=>cs.setIfInBounds (off+p.2) p.1) cs).getD k undef=if off+s<=k/\k<off+s+l.length then l.getD (k-off-s) undef else cs.getD k undef
 | [],s,cs=>by refine⟨rfl,fun k hk=>?_⟩;simp only[List.zipIdx_nil,List.foldl_nil,Kbj,KaS];rw[if_neg (by omega)]
 | c::l,s,cs=>by
  obtain⟨h1,h2⟩:=OI off l (s+1) (cs.setIfInBounds (off+s) c);simp only[List.zipIdx_cons,KcK];refine⟨by rw[h1];simp,fun k hk=>?_⟩;rw[h2 k (by simpa using hk)];by_cases hks:k=off+s
  ·subst hks;rw[if_neg (by omega),if_pos (by simp)];simp[Array.getD,hk]
  ·by_cases hr:off+(s+1)<=k/\k<off+(s+1)+l.length
   ·rw[if_pos hr,if_pos (by simp;omega)];have:k-off-s=(k-off-(s+1))+1:=by omega
    rw[this];simp
   ·rw[if_neg hr,if_neg (by simp;omega)];simp only[KaZ];rw[Kct (by omega)]
theorem Yl(cs:Array Value)(v:Array Value)(off:Nat):
  v.zipIdx.foldl (fun cs (x:Value×Nat)=>match x with|(c,j)=>cs.setIfInBounds (off+j) c) cs=(v.toList.zipIdx).foldl (fun cs (p:Value×Nat)=>cs.setIfInBounds (off+p.2) p.1) cs:=by
 rw[<-Array.foldl_toList,Array.toList_zipIdx]
theorem pM.am0{Q:PV->Value->Prop}{ps qs:List PV}{vs us:Array Value}{off:Nat}(h:pM Q ps vs)(hq:pM Q qs us)(hle:off+qs.length<=ps.length):
  pM Q (ps.take off++qs++ps.drop (off+qs.length)) (us.zipIdx.foldl (fun cs (x:Value×Nat)=>match x with|(c,j)=>cs.setIfInBounds (off+j) c) vs):=by
 obtain⟨h1,h2⟩:=h;obtain⟨q1,q2⟩:=hq;rw[Yl];obtain⟨f1,f2⟩:=OI off us.toList 0 vs;refine⟨by rw[f1,h1];simp;omega,fun i x hx=>?_⟩;have hi:i<ps.length:=by have:=(Kad.1 hx).1;simp at this;omega
 rw[f2 i (by omega)];simp only[KaS,Array.length_toList,Kcm];rw[KbL,Ka3]at hx;by_cases c1:i<off
 ·rw[if_neg (by omega)];rw[if_pos (by simp;omega),KaM c1]at hx;exact h2 i x hx
 ·rw[if_neg (by simp;omega)]at hx;have ht:(ps.take off).length=off:=by simp;omega
  rw[ht,Ka3]at hx;by_cases c2:i-off<qs.length
  ·rw[if_pos c2]at hx;rw[if_pos (by omega)];have:=q2 _ _ hx
   rwa[show us.toList.getD (i-off) undef=us.getD (i-off) undef by simp[KaZ]]
  ·rw[if_neg c2,Kbb]at hx;rw[if_neg (by omega)];rw[show off+qs.length+(i-off-qs.length)=i by omega]at hx;exact h2 i x hx
theorem C6{Q:PV->Value->Prop}(place:Nat->Option (Nat×Nat)):∀(parts:List (Nat×Value))(qs:List (Nat×List PV))(ps:List PV)(vs:Array Value),pM Q ps vs->parts.length=qs.length->
  (∀(i:Nat)(p:Nat×Value)(q:Nat×List PV),parts[i]? =some p->qs[i]? =some q->place p.1=some (q.1,q.2.length)/\pM Q q.2 p.2.cells/\q.1+q.2.length<=ps.length)->
  ∃eC,Instr.fill place vs parts=some eC/\pM Q (ir ps qs) eC
 | [],[],ps,vs,h,_,_=>⟨vs,rfl,h⟩
 | [],q::qs,_,_,_,hl,_=>by simp at hl
 |p::parts,[],_,_,_,hl,_=>by simp at hl
 | (i,v)::parts,(off,xs)::qs,ps,vs,h,hl,hp=>by
  obtain⟨h1,h2,h3⟩:=hp 0 (i,v) (off,xs) rfl rfl;have fY:v.cells.size=xs.length:=h2.1;have hn:¬((v.cells.size≠xs.length||decide (off+v.cells.size>vs.size))=true):=by have:=h.1;simp only[KbS,decide_eq_true_eq,not_or];exact⟨by simp[fY],by rw[fY,this];simp only at h3;omega⟩
  have hlen:(ps.take off++xs++ps.drop (off+xs.length)).length=ps.length:=by simp;simp only at h3;omega
  obtain⟨eC,g1,g2⟩:=C6 place parts qs _ _ (h.am0 h2 h3) (by simpa using hl) (fun j p q BI hqj=>by obtain⟨k1,k2,k3⟩:=hp (j+1) p q (by simpa using BI) (by simpa using hqj);exact⟨k1,k2,by rw[hlen];exact k3⟩);refine⟨eC,?_,g2⟩;unfold Instr.fill;simp only[h1];rw[if_neg hn];exact g1
theorem ba.rows{X:Nat->Prop}{p:PV}{v:Value}(h:ba w X p v):Rows w X p.cells v.cells:=h.cells
theorem rX{P:Program}{t:TypeId}{n by_:Nat}{z:PV}(h:jX P t=some (n,by_,z)):∃(i:TypeInfo)(zv:Value),P.info? t=some i/\i.zero=some zv/\i.size=n/\i.bytes=by_/\rV zv=some z:=by simp only[jX,Kab,Kaa,KcP]at h;obtain⟨i,h1,zv,h2,p,h3,h4,h5,h6⟩:=h;subst h6;exact⟨i,zv,h1,h2,h4,h5,h3⟩
theorem uY{P:Program}{t:TypeId}{i:TypeInfo}{zv:Value}(h1:P.info? t=some i)(h2:i.zero=some zv)(w:World):(zeroValue t).run P w= .ok zv w:=by simp[zeroValue,typeInfo,h1,h2]
theorem UZ{parts:List (Nat×Operand)}{ps:List (Nat×Nat×aP)}{f:Nat×Operand->Option (Nat×Nat×aP)}(h:parts.mapM f=some ps){eval:Operand->Value}{i:Nat}{p:Nat×Value}{q:Nat×Nat×aP}
  (h1:(parts.map fun x=>(x.1,eval x.2))[i]? =some p) (h2:ps[i]? =some q):∃x,parts[i]? =some x/\f x=some q/\p=(x.1,eval x.2):=by
 obtain⟨x,hx,hf⟩:=(oG h).2 i q h2;refine⟨x,hx,hf,?_⟩;simp only[Kay,hx,Kck,KaB]at h1;exact h1.symm
theorem abE{o:Oper}{t:TypeId}{parts:Array (Nat×Operand)}{z:PV}{n by_:Nat}{ps:List (Nat×Nat×aP)}{d:Nat}(ho:o.op= .build t parts)(hd:o.dst=some d)(ar:d<C.N)(h:aI C ρ fr hp a.tmps w)
  (hz:jX C.P t=some (n,by_,z)) (gr:AF C.P t parts.toList=some ps)
  (hv:AJ z.cells (ps.map fun p=>(p.1,p.2.1,ev fr p.2.2)) d fr hp K):bk C ρ o a w K:=by
 obtain⟨cx,hK⟩:=hv;obtain⟨ti,zv,i1,i2,i3,i4,i5⟩:=rX hz;have Ny:Rows w (aH C ρ (cf hp ((ps.map fun p=>(p.1,p.2.1,ev fr p.2.2)).flatMap fun p=>p.2.2.refs))) z.cells zv.cells:=(rJ i5).rows;have qY:(parts.map fun(x:Nat×Operand)=>(x.1,a.eval x.2)).toList=parts.toList.map fun x=>(x.1,a.eval x.2):=by simp
 have key:∀(f:Nat×Operand->Option (Nat×Nat×aP))(place:Nat->Option (Nat×Nat)),parts.toList.mapM f=some ps->(∀x q,f x=some q->place x.1=some (q.1,q.2.1)/\b7 x.2=some q.2.2)->
   ∃eC,Instr.fill place zv.cells (parts.map fun(x:Nat×Operand)=>(x.1,a.eval x.2)).toList=some eC/\
    Rows w (aH C ρ (cf hp ((ps.map fun p=>(p.1,p.2.1,ev fr p.2.2)).flatMap fun p=>p.2.2.refs))) (ir z.cells ((ps.map fun p=>(p.1,p.2.1,ev fr p.2.2)).map fun p=>(p.1,(aK hp p.2.2).cells))) eC:=by
  intro f place hm hf;rw[qY];refine C6 place _ _ _ _ Ny (by simp[(oG hm).1]) (fun i p q yT uC=>?_);simp only[KcY,Kay,Kaa]at uC;obtain⟨q0,iL,rfl⟩:=uC;obtain⟨x,hx,oZ,rfl⟩:=UZ hm yT iL;obtain⟨f1,f2⟩:=hf x q0 oZ;obtain⟨o1,o2,o3⟩:=cx (q0.1,q0.2.1,ev fr q0.2.2) (KaE.2 ⟨q0,Kai iL,rfl⟩);simp only[Function.comp]at o1 o2 o3⊢;refine⟨by rw[o2];exact f1,?_,by rw[o2];exact o3⟩;exact(qG h (cF h f2) (fun β al=>Kaq.2 ⟨_,KaE.2 ⟨q0,Kai iL,rfl⟩,al⟩) o1).rows
 have fin:∀eC,(∀w',(Instr.build t (parts.map fun(x:Nat×Operand)=>(x.1,a.eval x.2))).run C.P w'= .ok (.agg eC) w')->
   Rows w (aH C ρ (cf hp ((ps.map fun p=>(p.1,p.2.1,ev fr p.2.2)).flatMap fun p=>p.2.2.refs))) (ir z.cells ((ps.map fun p=>(p.1,p.2.1,ev fr p.2.2)).map fun p=>(p.1,(aK hp p.2.2).cells))) eC->bk C ρ o a w K:=by
  intro eC bp hr;refine⟨.agg eC,fun w'=>?_,_,_,by rw[hd];exact(h.freeze _).af (p:=.agg _) ⟨eC,rfl,hr.1,hr.2⟩ ar,hK⟩;unfold execOp;simp only[ho,Kao];have:=bp w';rw[show(parts.map fun(x:Nat×Operand)=>(x.1,a.eval x.2))=(parts.map fun x=>match x with|(i,x)=>(i,a.eval x))from rfl]at this;rw[this];rfl
 unfold AF at gr;split at gr
 ·rename_i fs hu;simp only[Kab]at gr;obtain⟨pl,gS,hm⟩:=gr;obtain⟨eC,g1,g2⟩:=key _ (fun i=>pl[i]?) hm (fun x q hq=>by simp only[Kab,Kaa]at hq;obtain⟨r,hr,y,hy,rfl⟩:=hq;exact⟨by simpa using hr,hy⟩);refine fin eC (fun w'=>?_) g2;unfold Instr.build;have jf:=run_places (P:=C.P) w' fs.toList pl gS;simp[Kao,uY i1 i2,iB hu,Kb6,jf]at g1⊢;simp[g1]
 ·rename_i len e hu;simp only[Kab]at gr;obtain⟨m,kn,hm⟩:=gr;obtain⟨eC,g1,g2⟩:=key _ (fun i=>some (i*m,m)) hm (fun x q hq=>by simp only[Kaa]at hq;obtain⟨y,hy,rfl⟩:=hq;exact⟨rfl,hy⟩);refine fin eC (fun w'=>?_) g2;unfold Instr.build;simp only[Kao,uY i1 i2,iB hu,kW kn,Kaj,g1,Ka0]
 ·simp at gr
theorem H8{xs:List Operand}{ys:List aP}(h:aI C ρ fr hp a.tmps w)(hm:xs.mapM b7=some ys):(ys.map (ev fr)).length=xs.length/\∀(i:Nat)(x:PV),(ys.map (ev fr))[i]? =some x->Qt C ρ hp w x ((xs.map a.eval).toArray.getD i undef):=by
 obtain⟨h1,h2⟩:=oG hm;refine⟨by simp[h1],fun i x hx=>?_⟩;simp only[Kay,Kaa]at hx;obtain⟨y,hy,rfl⟩:=hx;obtain⟨z,hz,ho⟩:=h2 i y hy;have e:((xs.map a.eval).toArray.getD i undef)=a.eval z:=by simp[KaZ,Kay,hz]
 rw[e];exact cF h ho
theorem Qt.XV{p:PV}{v:Value}(h:Qt C ρ hp w p v)(hc:p.kQ=true):cW C ρ hp w p v:=by cases p<;>first|exact h|simp[PV.kQ]at hc
theorem adr{o:Oper}{f:FuncId}{first cap:Array Operand}{pf pc:List aP}{d:Nat}(ho:o.op= .makeFunc (.func f) first cap)(hd:o.dst=some d)(ar:d<C.N)(h:aI C ρ fr hp a.tmps w)
  (h1:first.toList.mapM b7=some pf) (h2:cap.toList.mapM b7=some pc)
  (hv:(pf.map (ev fr)++pc.map (ev fr)).all PV.kQ=true/\K (af fr d (.fn f (pf.map (ev fr)) (pc.map (ev fr)))) hp):bk C ρ o a w K:=by
 obtain⟨hc,hK⟩:=hv;rw[Kav]at hc;obtain⟨f1,f2⟩:=H8 h h1;obtain⟨c1,c2⟩:=H8 h h2;refine bk.mk hd ar h (v:=.func (.func f) (first.map a.eval) (cap.map a.eval)) (fun w'=>?_) ?_ hK
 ·unfold execOp;simp only[ho,Kao,Instr.makeFunc,Ka0,Kaj]
 ·refine⟨_,_,rfl,by simpa using f1.symm,by simpa using c1.symm,fun i x hx=>?_,fun i x hx=>?_⟩
  ·have:=f2 i x hx;rw[show(first.toList.map a.eval).toArray=first.map a.eval from Array.ext' (by simp)]at this;exact this.XV (hc x (KcS _ (Kai hx)))
  ·have:=c2 i x hx;rw[show(cap.toList.map a.eval).toArray=cap.map a.eval from Array.ext' (by simp)]at this;exact this.XV (hc x (KbH _ (Kai hx)))
theorem Q7i{o:Oper}{x:Operand}{px:PV}(ho:o.op= .nilCheck x)(ar:∀d,o.dst=some d->d<C.N)(h:aI C ρ fr hp a.tmps w)
  (hx:Qt C ρ hp w px (a.eval x)) (hv:AK px o.dst fr hp K):bk C ρ o a w K:=by
 have key:(∃b o',a.eval x= .pointer (some ⟨b,o',none⟩))∨(∃f fv cv,a.eval x= .func (.func f) fv cv)->(∀d,o.dst=some d->K (af fr d px) hp)->(o.dst=none->K fr hp)->bk C ρ o a w K:=by
  intro hsh k1 k2;have bp:∀w',(execOp a.eval o).run C.P w'= .ok (.value (a.eval x)) w':=by intro w';unfold execOp;rcases hsh with⟨b,o',e⟩|⟨f,fv,cv,e⟩<;>simp only[ho,e]<;>rfl
  cases hd:o.dst with
  |some d=>exact⟨_,bp,_,_,by rw[hd];exact h.af hx (ar d hd),k1 d hd⟩
  |none=>exact⟨_,bp,fr,hp,by rw[hd];exact h,k2 hd⟩
 cases px with
 |mp β i o'=>obtain⟨b,hb,_,_,e⟩:=hx.y6;refine key (.inl ⟨_,_,e⟩) (fun d hd=>?_) (fun hd=>?_)<;>(rw[hd]at hv;exact hv)
 |pt cs=>obtain⟨b,off,e,_⟩:=hx.F7;refine key (.inl ⟨_,_,e⟩) (fun d hd=>?_) (fun hd=>?_)<;>(rw[hd]at hv;exact hv)
 |fn f first cap=>obtain⟨fv,cv,e,_⟩:=hx;refine key (.inr ⟨_,_,_,e⟩) (fun d hd=>?_) (fun hd=>?_)<;>(rw[hd]at hv;exact hv)
 |_=>exact hv.elim
end Go.FW
namespace Go.FW
open Go
variable {C : Ctx} {ρ : Nat -> Option Nat} {fr : Fr} {hp : HP} {w : World} {a : Act} {K : Qh}
def cP(C:Ctx)(two:Bool)(w:World)(K:Qh)(a':Act)(w':World):Prop:=
 a'.defers=[]/\(∃ay an,fl C ay an a'.tmps w'/\K ay an)/\(two=true->Ext bT w w')
theorem jD{P:Program}{o:Oper}{v:Value}{w w':World}{a:Act}{K':Act->World->Prop}{Q:Exit->Act->World->Prop}(hr:(execOp a.eval o).run P w= .ok (.value v) w')(hK:K' (a.put o.dst v) w'):o.wp P a w K' Q:=by unfold Oper.wp;rw[hr];exact hK
theorem vf{a:Act}{d:Option Nat}{v:Value}:(a.put d v).defers=a.defers:=by cases d<;>rfl
theorem CS(w:World)(o:Obj)(k:Nat)(h:k<w.heap.size):(w.alloc o).heap[k]? =w.heap[k]? :=by show(w.heap.push o)[k]? =_;rw[Array.getElem?_push,if_neg (by omega)]
theorem mE(w:World)(o:Obj):(w.alloc o).heap[w.heap.size]? =some o:=by show(w.heap.push o)[w.heap.size]? =_;simp
theorem CT(w:World)(o:Obj):(w.alloc o).heap.size=w.heap.size+1:=by show(w.heap.push o).size=_;simp
theorem Ext.alloc(w:World)(o:Obj)(Y:Nat->Prop):Ext Y w (w.alloc o):=⟨rfl,rfl,rfl,by rw[CT];omega,fun b hb _=>CS w o b hb⟩
theorem Ext.drew(w:World)(Y:Nat->Prop):Ext Y w w.drew:=⟨rfl,rfl,rfl,Kac _,fun _ _ _=>rfl⟩
theorem yg{d:Nat}(h:d<C.N):cd d=false:=by have:=C.hN;simp[cd];omega
theorem aI.wR{tmps:Array Value}{ay:Fr}(h:aI C ρ fr hp tmps w)(d:Nat)(hB:bN d=false)(pZ:yf C ρ hp w d fr ay)(aw:HB)(cur:Array Value)(cap:Nat)(w':World)(hw:w'=w.alloc (.cells cur aw.ty)∨w'=w.drew.alloc (.cells cur aw.ty))
  (hs:cur.size=cap*aw.e) (hle:aw.xs.length<=cap) (hm:cap<=maxLen) (he:0<aw.e) (hl:∀(i:Nat)(x:PV),aw.xs[i]? =some x->x.cells.length=aw.e/\x.aE=true)
  (hc:∀(i:Nat)(x:PV),aw.xs[i]? =some x->∀(j:Nat)(y:PV),x.cells[j]? =some y->Qu w (aH C ρ hp) y (cur.getD (i*aw.e+j) undef)):
  aI C (rb ρ d (some w.heap.size)) ay (Qz hp d aw) tmps w'/\Ext bT w w':=by
 have qZ:∀Y,Ext Y w w':=fun Y=>by
  rcases hw with rfl|rfl
  ·exact Ext.alloc w _ Y
  ·exact(Ext.drew w Y).trans (Ext.alloc w.drew _ Y)
 have fY:w'.heap.size=w.heap.size+1:=by rcases hw with rfl|rfl<;>rw[CT]<;>rfl
 have apu:w'.heap[w.heap.size]? =some (.cells cur aw.ty (0,0)):=by
  rcases hw with rfl|rfl
  ·exact mE w _
  ·exact mE w.drew _
 refine⟨h.zb d (some w.heap.size) aw hB pZ (qZ _) (fun c gL=>?_) he hl (by simp) (fun c gL=>?_),qZ _⟩
 ·cases gL;exact⟨.inl h.ext.size,by omega,.inl (Kac _)⟩
 ·cases gL;exact⟨cur,cap,apu,hs,hle,hm,hc⟩
theorem aI.F2{tmps:Array Value}(h:aI C ρ fr hp tmps w)(d:Nat)(hB:cd d=false)(aw:HB)(cur:Array Value)(cap:Nat)(w':World)(hw:w'=w.alloc (.cells cur aw.ty)∨w'=w.drew.alloc (.cells cur aw.ty))
  (hs:cur.size=cap*aw.e) (hle:aw.xs.length<=cap) (hm:cap<=maxLen) (he:0<aw.e) (hl:∀(i:Nat)(x:PV),aw.xs[i]? =some x->x.cells.length=aw.e/\x.aE=true)
  (hc:∀(i:Nat)(x:PV),aw.xs[i]? =some x->∀(j:Nat)(y:PV),x.cells[j]? =some y->Qu w (aH C ρ hp) y (cur.getD (i*aw.e+j) undef)):
  aI C (rb ρ d (some w.heap.size)) (cK d fr) (Qz hp d aw) tmps w'/\Ext bT w w':=
 h.wR d (vA hB) (Dq hB) aw cur cap w' hw hs hle hm he hl hc
theorem lO:maxLen=9223372036854775807:=rfl
theorem cP.kU{two:Bool}{o:Oper}{d:Nat}{v:Value}{p:PV}{w':World}{ay:Fr}{an:HP}{bf:Nat->Option Nat}(hd:o.dst=some d)(ar:d<C.N)(aY:a.defers=[])
  (h:aI C bf ay an a.tmps w') (hx:two=true->Ext bT w w') (hv:Qt C bf an w' p v) (hK:K (af ay d p) an):cP C two w K (a.put o.dst v) w':=by
 refine⟨by rw[vf];exact aY,⟨_,an,⟨bf,?_⟩,hK⟩,hx⟩;rw[hd];exact h.af hv ar
theorem ba.XP{X:Nat->Prop}{p:PV}{v:Value}{n:Nat}(h:ba w X p v)(hn:p.cells.length=n):v.cells.size=1*n/\∀(i:Nat)(x:PV),[p][i]? =some x->∀(j:Nat)(y:PV),x.cells[j]? =some y->Qu w X y (v.cells.getD (i*n+j) undef):=by
 obtain⟨h1,h2⟩:=h.cells;refine⟨by omega,fun i x hx j y hy=>?_⟩
 match i,hx with
 |0,hx=>simp at hx;subst hx;simpa using h2 j y hy
 |i+1,hx=>simp at hx
theorem R9{d n ty:Nat}{x:PV}{w':World}:Qt C (rb ρ d (some w.heap.size)) (Qz hp d ⟨n,ty,[x],false⟩) w' (.mp d 0 0) (.pointer (some ⟨w.heap.size,0,none⟩)):=by refine⟨w.heap.size,⟨n,ty,[x],false⟩,gW _ _ _,by simp[Qz],by simp⟩
theorem abF{o:Oper}{t:TypeId}{n:Nat}{x:Operand}{px:PV}{d:Nat}{Q:Exit->Act->World->Prop}(ho:o.op= .box t x)(hd:o.dst=some d)(ar:d<C.N)(aY:a.defers=[])(h:aI C ρ fr hp a.tmps w)
  (hx:Qt C ρ hp w px (a.eval x)) (hN:∀cs,px= .aX cs->tR n t cs d fr hp K->o.wp C.P a w (cP C true w K) Q) (hv:gd n t px d fr hp K):o.wp C.P a w (cP C true w K) Q:=by
 unfold gd at hv;split at hv
 ·exact hN _ rfl hv
 split at hv
 ·rename_i β o' m hm;have wE:px= .ax β o' m:=by
   cases px with
   |ax β2 o2 m2=>
    simp only at hm;split at hm
    ·cases hm;rfl
    ·cases hm
   |_=>cases hm
  subst wE;have hs:=h.grow (w':=w.alloc (.cells (a.eval x).cells t)) (Ext.alloc w _ _);have aW:eU ρ hp (w.alloc (.cells (a.eval x).cells t)) β o' m (a.eval x):=eU.move hx ⟨rfl,fun hb al=>⟨hb,al,rfl,Kac _,fun b cap _ hc=>mK (CS w _ b (mL hc)) hc⟩⟩;have oV:(a.eval x).cells= #[a.eval x]:=by obtain⟨ad,cap,e⟩:=Qt.NF hx;rw[e];rfl
  refine jD (v:=.pointer (some ⟨w.heap.size,0,none⟩)) (w':=w.alloc (.cells (a.eval x).cells t)) ?_ (cP.kU (p:=.rb β o' m) hd ar aY hs (fun _=>Ext.alloc w _ _) ⟨w.heap.size,a.eval x,rfl,by rw[CT];omega,?_,?_,aW⟩ hv)
  ·unfold execOp;simp only[ho,Instr.box,newVar,newRow];simp
  ·rintro(hq|⟨γ,hg,g1,_,g3⟩)
   ·have:=C.Fg _ hq;have:=h.ext.size;omega
   ·have:=(h.own γ hg g1).eg;rw[g3]at this;have:=this.2.1;omega
  ·have:=mE w (.cells (a.eval x).cells t);rw[lM this (by rw[oV];simp),oV];rfl
 obtain⟨h1,h2,h3,hK⟩:=hv;have hr:=qG h hx (fun β al=>al) h1;obtain⟨r1,r2⟩:=hr.XP h2;obtain⟨hs,he⟩:=(h.freeze px.refs).F2 d (yg ar) ⟨n,t,[aK hp px],false⟩ (a.eval x).cells 1 _ (.inl rfl) r1 (by simp) (by rw[lO];omega) h3
  (fun i y hy=>by
   match i,hy with
   |0,hy=>simp at hy;subst hy;exact⟨h2,h1⟩
   |i+1,hy=>simp at hy) r2
 refine jD (v:=.pointer (some ⟨w.heap.size,0,none⟩)) (w':=w.alloc (.cells (a.eval x).cells t)) ?_ (cP.kU hd ar aY hs (fun _=>he) R9 hK);unfold execOp;simp only[ho,Instr.box,newVar,newRow];simp
theorem ZD{o:Oper}{t:TypeId}{n:Nat}{ti:TypeInfo}{zv:Value}{z:PV}{d:Nat}{Q:Exit->Act->World->Prop}(ho:o.op= .alloc t)(hd:o.dst=some d)(ar:d<C.N)(aY:a.defers=[])(h:aI C ρ fr hp a.tmps w)
  (i1:C.P.info? t=some ti) (i2:ti.zero=some zv) (hz:rV zv=some z) (hv:gd n t z d fr hp K):o.wp C.P a w (cP C true w K) Q:=by
 unfold gd at hv;split at hv
 ·exact absurd (CN hz).1 (by simp[PV.aE])
 split at hv
 ·rename_i β o' m hm;have hd:=(CN hz).1;cases z with
  |ax=>simp[PV.aE]at hd
  |_=>cases hm
 obtain⟨h1,h2,h3,hK⟩:=hv;have hr:=qG (C:=C) (ρ:=ρ) (hp:=hp) h (Qt.lJ (rJ (w:=w) hz)) (fun β al=>al) h1;obtain⟨r1,r2⟩:=hr.XP h2;obtain⟨hs,he⟩:=(h.freeze z.refs).F2 d (yg ar) ⟨n,t,[aK hp z],false⟩ zv.cells 1 _ (.inl rfl) r1 (by simp) (by rw[lO];omega) h3
  (fun i y hy=>by
   match i,hy with
   |0,hy=>simp at hy;subst hy;exact⟨h2,h1⟩
   |i+1,hy=>simp at hy) r2
 refine jD (v:=.pointer (some ⟨w.heap.size,0,none⟩)) (w':=w.alloc (.cells zv.cells t)) ?_ (cP.kU hd ar aY hs (fun _=>he) R9 hK);unfold execOp;simp only[ho,Instr.alloc,Kao,uY i1 i2,Kaj,newVar,newRow];simp
theorem OJ{i e j:Nat}(hj:j<e):(i*e+j)%e=j:=by rw[KbQ,Nat.add_mul_mod_self_right,KaR hj]
theorem ads{i e j:Nat}(hj:j<e):(i*e+j)/e=i:=by rw[KbQ,Nat.add_mul_div_right _ _ (by omega),Kcc hj,Kbe]
theorem Qx4{z:Array Value}{n k:Nat}(hk:k<n)(hz:0<z.size):(madeCells z n).getD k undef=z.getD (k%z.size) undef:=by have h1:k%z.size<z.size:=Kbw _ hz;simp[madeCells,Array.getD,hk,h1]
theorem Sa{d:Nat}{hb:HB}{n cap:Nat}{w':World}{cur:Array Value}(hle:n<=hb.xs.length)(an6:w'.heap[w.heap.size]? =some (.cells cur hb.ty (0,0)))(hs:cur.size=cap*hb.e)(hm:cap<=maxLen):
  Qt C (rb ρ d (some w.heap.size)) (Qz hp d hb) w' (.ms d n) (.slice (some ⟨w.heap.size,0,none⟩) n cap):=
 ⟨hb,by simp[Qz],by omega,.inr ⟨w.heap.size,cap,gW _ _ _,by simp,⟨cur,hb.ty,an6,by rw[Kbe];exact hs⟩,by omega⟩⟩
theorem adt{o:Oper}{t e:TypeId}{n by_:Nat}{z:PV}{l c:Operand}{pl pc:PV}{d:Nat}{Q:Exit->Act->World->Prop}(ho:o.op= .makeSlice t l c)(hd:o.dst=some d)(ar:d<C.N)(aY:a.defers=[])(h:aI C ρ fr hp a.tmps w)
  (hu:C.P.underlying t=some (.slice e)) (hz:jX C.P e=some (n,by_,z)) (hl:Qt C ρ hp w pl (a.eval l)) (hc:Qt C ρ hp w pc (a.eval c)) (hv:nE n by_ e z pl pc d fr hp K):o.wp C.P a w (cP C true w K) Q:=by
 unfold nE at hv;split at hv
 ·rename_i kl L kc Cc;obtain⟨h0,h1,h2,h3,h4,h5,hK⟩:=hv;obtain⟨ti,zv,i1,i2,i3,i4,i5⟩:=rX hz;have el:=hl.kv;have ec:=hc.kv;have fX:=(rJ (w:=w) (X:=aH C ρ hp) i5).cells;have sY:zv.cells.size=n:=by rw[fX.1];exact h1
  have bp:=run_make (P:=C.P) w t e ti zv hu i1 i2 kl kc L Cc h2 h3 (by rw[i4];exact h4) h5;rw[i3]at bp;obtain⟨hs,he⟩:=h.F2 d (yg ar) ⟨n,e,List.replicate L.toNat z,false⟩ (madeCells zv.cells (Cc.toNat*n)) Cc.toNat _ (.inl rfl) (size_madeCells _ _) (by simp;omega) (by rw[lO];omega) h0
   (fun i x hx=>by have aW:=Kai hx;obtain rfl:=(Kc0.1 aW).2;exact⟨h1,(CN i5).1⟩)
   (fun i x hx j y hy=>by
    have hi:i<L.toNat:=by have:=(Kad.1 hx).1;simpa using this
    obtain rfl:=(Kc0.1 (Kai hx)).2;have hj:j<n:=by have:=(Kad.1 hy).1;omega
    have wz:i*n+0+j<Cc.toNat*n:=nT (by omega) (by omega:0+n<=n) hj;rw[Qx4 (by omega) (by omega),sY,OJ hj];exact fX.2 j y hy)
  refine jD (v:=.slice (some ⟨w.heap.size,0,none⟩) L.toNat Cc.toNat) ?_ (cP.kU hd ar aY hs (fun _=>he) (Sa (by simp) (mE w _) (size_madeCells _ _) (by rw[lO];omega)) hK);unfold execOp;simp only[ho,el,ec,Kao,bp,Kaj];rfl
 ·exact hv.elim
end Go.FW
namespace Go.FW
open Go
variable {C : Ctx} {ρ : Nat -> Option Nat} {fr : Fr} {hp : HP} {w : World} {a : Act} {K : Qh}
theorem TR(n:Nat):∀(xs:List (List PV))(s:Nat)(pre rest:List PV),(∀x∈xs,x.length=n)->pre.length=s*n->rest.length=xs.length*n->
  ir (pre++rest) ((xs.zipIdx s).map fun p=>(p.2*n,p.1))=pre++xs.flatten
 | [],s,pre,rest,_,_,hr=>by simp at hr;subst hr;simp[ir]
 | x::xs,s,pre,rest,hx,hp,hr=>by
  have FO:=hx x (by simp);simp only[List.zipIdx_cons,Kbd,ir];have e1:(pre++rest).take (s*n)=pre:=by rw[<-hp];exact List.take_left
  have e2:(pre++rest).drop (s*n+x.length)=rest.drop n:=by rw[FO,<-hp,<-List.drop_drop,List.drop_left]
  rw[e1,e2];have hlen:(pre++x).length=(s+1)*n:=by simp[hp,FO,KaF]
  have wF:(rest.drop n).length=xs.length*n:=by simp[hr,KaF]
  rw[TR n xs (s+1) (pre++x) (rest.drop n) (fun y hy=>hx y (by simp[hy])) hlen wF];simp
theorem OK{n:Nat}(hn:0<n):∀(xs:List (List PV))(i j:Nat)(x:List PV)(y:PV),(∀x∈xs,x.length=n)->xs[i]? =some x->x[j]? =some y->xs.flatten[i*n+j]? =some y
 | [],i,j,x,y,_,h,_=>by simp at h
 |z::xs,0,j,x,y,hl,h,hy=>by simp at h;subst h;have hj:j<z.length:=(Kad.1 hy).1;simp only[List.flatten_cons,KbI,Kbe];rw[Kb7 hj];exact hy
 |z::xs,i+1,j,x,y,hl,h,hy=>by simp at h;have hz:=hl z (by simp);simp only[List.flatten_cons];rw[Kcl (by rw[hz,KaF];omega)];rw[show(i+1)*n+j-z.length=i*n+j by rw[hz,KaF];omega];exact OK hn xs i j x y (fun q hq=>hl q (by simp[hq])) h hy
theorem Ye{parts:List (Nat×Operand)}{len i:Nat}{p:Nat×Operand}(h:parts.map (·.1)=List.range len)(hp:parts[i]? =some p):p.1=i:=by
 have h1:(parts.map (·.1))[i]? =some p.1:=by simp[hp]
 rw[h]at h1;have hi:i<len:=by have:=(Kad.1 h1).1;simpa using this
 rw[KcX hi]at h1;simp at h1;exact h1.symm
theorem abG{X:Nat->Prop}{e:TypeId}{n N by_:Nat}{z:PV}{zv:Value}(i5:rV zv=some z)(hz:z.cells.length=n)(hn:0<n):
  Rows w X ((List.range N).map fun k=>z.cells.getD (k%n) .undef) ((Array.range N).map (zv.cells[· %zv.cells.size]!)):=by
 have fX:=(rJ (w:=w) (X:=X) i5).cells;refine⟨by simp,fun i x hx=>?_⟩;have hi:i<N:=by have:=(Kad.1 hx).1;simpa using this
 simp only[Kay,KcX hi,Kck,KaB]at hx;have hm:i%n<z.cells.length:=by rw[hz];exact Kbw _ hn
 have aW:z.cells[i%n]? =some x:=by rw[<-hx];simp[hm]
 have:=fX.2 _ x aW;have hs:zv.cells.size=n:=by rw[fX.1];exact hz
 have ko:i%n<zv.cells.size:=by omega
 have e2:((Array.range N).map (zv.cells[· %zv.cells.size]!)).getD i undef=zv.cells.getD (i%n) undef:=by have hmn:i%n<n:=Kbw _ hn;simp[Array.getD,hi,hs,hmn,getElem!_def,Kbg ko]
 rw[e2];exact this
theorem adu{o:Oper}{t e:TypeId}{len n by_:Nat}{z:PV}{parts:Array (Nat×Operand)}{ps:List aP}{d:Nat}{Q:Exit->Act->World->Prop}(ho:o.op= .buildSlice t len parts)(hd:o.dst=some d)(ar:d<C.N)(aY:a.defers=[])(h:aI C ρ fr hp a.tmps w)
  (hu:C.P.underlying t=some (.slice e)) (hz:jX C.P e=some (n,by_,z)) (qi:parts.toList.map (·.1)=List.range len) (Xf:len*n<=16777216) (ku:z.cells.length=n) (gr:(parts.toList.mapM fun p=>b7 p.2)=some ps)
  (hv:EH n e (ps.map (ev fr)) d fr hp K):o.wp C.P a w (cP C true w K) Q:=by
 obtain⟨h0,cx,hK⟩:=hv;obtain⟨ti,zv,i1,i2,i3,i4,i5⟩:=rX hz;obtain⟨m1,m2⟩:=oG gr;have hlen:parts.toList.length=len:=by have:=congrArg List.length qi;simpa using this
 have gS:ps.length=len:=by omega
 let xs:List (List PV):=(ps.map (ev fr)).map fun p=>(aK hp p).cells
 have dX:∀x∈xs,x.length=n:=by intro x hx;simp only[xs,KaE]at hx;obtain⟨p,⟨q,hq,rfl⟩,rfl⟩:=hx;exact(cx _ (KaE.2 ⟨q,hq,rfl⟩)).2
 have Nw:xs.length=len:=by simp[xs,gS]
 have qY:(parts.map fun(x:Nat×Operand)=>(x.1,a.eval x.2)).toList=parts.toList.map fun x=>(x.1,a.eval x.2):=by simp
 have MG:Rows w (aH C ρ (cf hp ((ps.map (ev fr)).flatMap PV.refs))) ((List.range (len*n)).map fun k=>z.cells.getD (k%n) .undef) ((Array.range (len*n)).map ((if len*n=0 then(#[]:Array Value)else zv.cells)[· %(if len*n=0 then(#[]:Array Value)else zv.cells).size]!)):=by
  by_cases ix:len*n=0
  ·rw[if_pos ix,ix];exact⟨by simp,by simp⟩
  ·rw[if_neg ix];exact abG (e:=e) (by_:=by_) i5 ku h0
 obtain⟨eC,g1,g2⟩:=C6 (fun i=>some (i*n,n)) (parts.toList.map fun x=>(x.1,a.eval x.2)) ((xs.zipIdx 0).map fun p=>(p.2*n,p.1)) _ _ MG (by simp[Nw,hlen]) (fun i p q yT uC=>by
  simp only[Kay,Kaa]at yT uC;obtain⟨x,hx,rfl⟩:=yT;obtain⟨q0,iL,rfl⟩:=uC;rw[List.getElem?_zipIdx]at iL;simp only[Kaa]at iL;obtain⟨y,hy,rfl⟩:=iL;simp only[Kbe];have Xw:=dX y (Kai hy);simp only[xs,Kay,Kaa]at hy;obtain⟨pv,⟨u,jh,rfl⟩,rfl⟩:=hy;obtain⟨x',aW,wD⟩:=m2 i u jh;rw[hx]at aW;cases aW;have hi:i<len:=by have:=(Kad.1 hx).1;omega
  obtain⟨o1,o2⟩:=cx (ev fr u) (KaE.2 ⟨u,Kai jh,rfl⟩);refine⟨by rw[Ye qi hx,Xw],(qG h (cF h wD) (fun β al=>Kaq.2 ⟨_,KaE.2 ⟨u,Kai jh,rfl⟩,al⟩) o1).rows,?_⟩;rw[Xw];simp;have:(i+1)*n<=len*n:=Kaf n hi;rw[KaF]at this;omega)
 have MU:=TR n xs 0 [] ((List.range (len*n)).map fun k=>z.cells.getD (k%n) .undef) dX (by simp) (by simp[Nw]);simp only[KaN]at MU;rw[MU]at g2;have pX:xs.flatten.length=len*n:=by
  have:=g2.1;have hb:=MG.1;have h2:ir ((List.range (len*n)).map fun k=>z.cells.getD (k%n) .undef) ((xs.zipIdx 0).map fun p=>(p.2*n,p.1))=xs.flatten:=MU;rw[List.length_flatten];have:xs.map List.length=List.replicate xs.length n:=by apply KcV (by simp);intro i h1 h2;simp only[KcC,List.getElem_replicate];exact dX _ (Kag _)
  rw[this,List.sum_replicate_nat,Nw]
 have gu:eC.size=len*n:=by rw[g2.1,pX]
 obtain⟨hs,he⟩:=(h.freeze ((ps.map (ev fr)).flatMap PV.refs)).F2 d (yg ar) ⟨n,e,(ps.map (ev fr)).map (aK hp),false⟩ eC len _ (.inl rfl) gu (by simp[gS]) (by rw[lO];have:len*1<=len*n:=Ka7 len h0;omega) h0
  (fun i x hx=>by simp only[Kay,Kaa]at hx;obtain⟨p,⟨u,jh,rfl⟩,rfl⟩:=hx;obtain⟨o1,o2⟩:=cx (ev fr u) (KaE.2 ⟨u,Kai jh,rfl⟩);exact⟨o2,o1⟩)
  (fun i x hx j y hy=>by refine g2.2 _ y (OK h0 xs i j x.cells y dX ?_ hy);simp only[Kay,Kaa,xs]at hx⊢;obtain⟨p,jf,rfl⟩:=hx;exact⟨p,jf,rfl⟩)
 refine jD (v:=.slice (some ⟨w.heap.size,0,none⟩) len len) ?_ (cP.kU hd ar aY hs (fun _=>he) ?_ hK)
 ·unfold execOp;have sT:¬(len*n>2^24):=by omega
  have BH:(parts.map fun x=>match x with|(i,x)=>(i,a.eval x)).toList=parts.toList.map fun x=>(x.1,a.eval x.2):=qY;simp only[ho,Instr.buildSlice,Kao,iB hu,Kaj,kW (show eB C.P e=some n by simp[eB,i1,i3]),if_neg sT,BH];by_cases ix:len*n=0
  ·simp only[if_pos ix]at g1⊢;simp only[Ka0,Kaj,Kao,g1,newRow];simp
  ·simp only[if_neg ix]at g1⊢;simp only[Ka0,Kaj,Kao,uY i1 i2,g1,newRow];simp
 ·rw[show(ps.map (ev fr)).length=len by simp[gS]];exact Sa (by simp[gS]) (mE w _) gu (by rw[lO];have:len*1<=len*n:=Ka7 len h0;omega)
theorem zG(w:World)(b:Nat)(cur:Array Value):Ext (fun c=>c=b) w (w.setRow b cur):=
 ⟨rfl,rfl,rfl,by simp,fun k hk hn=>setRow_other w b k _ hn⟩
theorem zy{cur:Array Value}{p:Nat}{cs:List Value}{k:Nat}(hle:p+cs.length<=cur.size)(hk:k<cur.size):
  ((cur.toList.take p++cs++cur.toList.drop (p+cs.length)).toArray).getD k undef=if p<=k/\k<p+cs.length then cs.getD (k-p) undef else cur.getD k undef:=by
 have en:k<cur.toList.length:=by simpa using hk
 have ht:(cur.toList.take p).length=p:=by simp;omega
 simp only[KaZ,List.getElem?_toArray,KbL,Kal];rw[Ka3,ht];by_cases c1:k<p
 ·rw[if_pos c1,if_neg (by omega),KaM c1];simp
 ·rw[if_neg c1,Ka3];by_cases c2:k-p<cs.length
  ·rw[if_pos c2,if_pos (by omega)]
  ·rw[if_neg c2,if_neg (by omega),Kbb];rw[show p+cs.length+(k-p-cs.length)=k by omega];simp
theorem zA{cur:Array Value}{p:Nat}{cs:List Value}(hle:p+cs.length<=cur.size):((cur.toList.take p++cs++cur.toList.drop (p+cs.length)).toArray).size=cur.size:=by simp;omega
theorem SA{P:Program}{t:TypeId}{n b off:Nat}{ty:TypeId}{v:Value}{cur:Array Value}(hn:eB P t=some n)(hs:v.cells.size=n)(hg:w.heap[b]? =some (.cells cur ty (0,0)))(hle:off+n<=cur.size)(h1:∀u∈v.cells.toList,u.oneCell'=true):
  (storeVar t ⟨b,off,none⟩ v).run P w= .ok () (w.setRow b (cur.toList.take off++v.cells.toList++cur.toList.drop (off+n)).toArray):=by
 unfold storeVar;have aG:=run_storeCells_at P b off ty v.cells.toList 0 cur w hg (by simp[hs];omega) h1;simp only[KaS,Array.length_toList,hs]at aG;have aO:¬(v.cells.size≠n):=by simp[hs]
 simp only[Kao,kW hn,Kaj,if_neg aO];exact aG
theorem adv{x:PV}{o:Nat}{v:PV}{j:Nat}(hl:o+v.cells.length<=x.cells.length)(hj:j<x.cells.length):
  (rE x o v).cells[j]? =if o<=j/\j<o+v.cells.length then v.cells[j-o]? else x.cells[j]? :=by
 show(x.cells.take o++v.cells++x.cells.drop (o+v.cells.length))[j]? =_;rw[KbL];have ht:(x.cells.take o).length=o:=by simp;omega
 rw[Ka3,ht];by_cases c1:j<o
 ·rw[if_pos c1,if_neg (by omega),KaM c1]
 ·rw[if_neg c1,Ka3];by_cases c2:j-o<v.cells.length
  ·rw[if_pos c2,if_pos (by omega)]
  ·rw[if_neg c2,if_neg (by omega),Kbb];rw[show o+v.cells.length+(j-o-v.cells.length)=j by omega]
theorem ais{x:PV}{o:Nat}{v:PV}(hl:o+v.cells.length<=x.cells.length):(rE x o v).cells.length=x.cells.length:=by show(List.take o x.cells++v.cells++List.drop (o+v.cells.length) x.cells).length=_;simp;omega
theorem OL{e i j m k n:Nat}(hj:j<e)(hk:k+n<=e)(aO:i≠m):¬(m*e+k<=i*e+j/\i*e+j<m*e+k+n):=by
 intro⟨h1,h2⟩;rcases Nat.lt_or_gt_of_ne aO with h|h
 ·have:(i+1)*e<=m*e:=Kaf e h;rw[KaF]at this;omega
 ·have:(m+1)*e<=i*e:=Kaf e h;rw[KaF]at this;omega
theorem Ap{l:List PV}{i k:Nat}{nx x:PV}(h:(l.set i nx)[k]? =some x):(i=k/\x=nx)∨(i≠k/\l[k]? =some x):=by
 by_cases rf:i=k
 ·subst rf;have hi:i<l.length:=by have:=(Kad.1 h).1;simpa using this
  rw[List.getElem?_set_self hi]at h;cases h;exact .inl ⟨rfl,rfl⟩
 ·rw[List.getElem?_set_ne rf]at h;exact .inr ⟨rf,h⟩
theorem cV.bl{p:PV}{v:Value}(h:cV C ρ hp w p v):p.bl=[p]:=by
 cases p with
 |agg=>cases h
 |aX=>cases h
 |_=>rfl
theorem TS{l:List PV}(h:∀c∈l,c.bl=[c]):(g8 l).bl=l:=by
 unfold g8;split
 ·exact h _ (by simp)
 ·exact Zy _
theorem P3{py:PV}{v:Value}{cs:List PV}(h:Qt C ρ hp w py v)(hs:fI py=some cs):v.cells.size=cs.length/\(∀(j:Nat)(y:PV),cs[j]? =some y->cV C ρ hp w y (v.cells.getD j undef))/\∀u∈v.cells.toList,u.oneCell'=true:=by
 have one:∀ {p:PV},cV C ρ hp w p v->p≠ .undef->cs=[p]->v.cells.size=cs.length/\(∀(j:Nat)(y:PV),cs[j]? =some y->cV C ρ hp w y (v.cells.getD j undef))/\∀u∈v.cells.toList,u.oneCell'=true:=by
  rintro p hr hu rfl;obtain⟨h1,h2⟩:=hr.rC hu;rw[h2];refine⟨rfl,fun j y hy=>?_,fun u jh=>?_⟩
  ·match j,hy with
   |0,hy=>simp at hy;subst hy;exact hr
   |j+1,hy=>simp at hy
  ·simp at jh;subst jh;exact h1
 cases py with
 | aX cs'=>
  simp only[fI]at hs;split at hs
  ·rename_i bz;simp only[KaB]at hs;subst hs;obtain⟨vs,rfl,h1,h2⟩:=h;refine⟨h1,h2,fun u hu=>?_⟩;obtain⟨j,hj,rfl⟩:=Ka8 hu;have fG:j<vs.size:=by simpa[Value.cells]using hj
   have hp:j<cs'.length:=by omega
   have h3:=h2 j cs'[j] (Kam hp);have h4:=Kav.1 bz cs'[j] (Kag hp);have:=(h3.rC (fun e=>by rw[e]at h4;cases h4)).1;simpa[Array.getD,fG,Value.cells]using this
  ·cases hs
 |aM γ o n=>simp only[fI,KaB]at hs;exact one (p:=.aM γ o n) h (by simp) hs.symm
 |ax β o n=>
  simp only[fI]at hs;split at hs
  ·rename_i hB;simp only[KaB]at hs;exact one (p:=.ax β o n) ⟨hB,h⟩ (by simp) hs.symm
  ·cases hs
 |int k n=>simp only[fI,KaB]at hs;exact one (p:=.int k n) h (by simp) hs.symm
 |bool b=>simp only[fI,KaB]at hs;exact one (p:=.bool b) h (by simp) hs.symm
 |aa=>simp only[fI,KaB]at hs;exact one (p:=.aa) h (by simp) hs.symm
 |sl e xs=>simp only[fI,KaB]at hs;exact one (p:=.sl e xs) h (by simp) hs.symm
 |pt cs'=>simp only[fI,KaB]at hs;exact one (p:=.pt cs') h (by simp) hs.symm
 |agg cs'=>simp only[fI,KaB]at hs;subst hs;have hr:ba w (aH C ρ hp) (.agg cs') v:=h;obtain⟨h1,h2⟩:=hr.cells;exact⟨h1,fun j y hy=>cV.XG (h2 j y hy),hr.XL⟩
 |_=>cases hs
theorem aI.NI{tmps:Array Value}{w':World}(h:aI C ρ fr hp tmps w){γ b e ty:Nat}{hb:HB}{xs':List PV}{cur':Array Value}{cap:Nat}(hB:cd γ=true)(he:0<e)(ak:hp γ=some hb)(ma:hb.fz=false)(bw:hb.xs=[])(MT:hb.e=e)(ht:hb.ty=ty)(bE:ρ γ=some b)
  (hx:Ext (fun c=>c=b) w w') (dU:∀e cap,du w b e cap->du w' b e cap) (h1:w'.heap[b]? =some (.cells cur' ty (0,0))) (h2:cur'.size=cap*e) (h3:xs'.length<=cap) (h4:cap<=maxLen)
  (h5:∀(i:Nat)(x:PV),xs'[i]? =some x->x.bl.length=e) (h6:∀(i:Nat)(x:PV),xs'[i]? =some x->∀(j:Nat)(y:PV),x.bl[j]? =some y->cV C ρ hp w y (cur'.getD (i*e+j) undef)):
  aI C ρ (FW.af (iR γ fr) γ (.aN γ e ty xs')) hp tmps w':=by
 have Fi:aH C ρ hp b:=.inr ⟨γ,hb,ak,ma,bE⟩;have FF:ji γ=false:=by
  cases hq:ji γ with
  |false=>rfl
  |true=>have:=(h.own γ hb ak).ro hq;rw[ma]at this;cases this
 have gL:ob w w' (aH C ρ hp) (aH C ρ hp):=⟨fun c hc hn=>hx.block c hc (fun e=>hn (e▸Fi)),fun _ _ hn=>hn,hx.size⟩
 have bn:=(h.own γ hb ak).eg;rw[bE]at bn;have qZ:Ext C.Y0 C.w0 w':=by refine h.ext.trans' (Y':=fun c=>c=b) hx ?_;intro c hc he;subst he;exact(Ctx.Ma bn.1 FF).resolve_left (by omega)
 have Bx:∀β c,C.fx β=some c->∀e cap,du C.w0 c e cap->du w' c e cap:=fun b0 c gL e cap gA=>by
  have jI:=h.ij b0 c gL e cap gA;by_cases iK:c=b
  ·rw[iK]at jI ⊢;exact dU e cap jI
  ·exact mK (hx.block c (mL jI) iK) jI
 have oB:∀β hg c,β≠γ->hp β=some hg->ρ β=some c->¬c=b:=fun β hg c aO gQ hr e=>aO (h.inj β γ b (by simp[gQ]) (by simp[ak]) (e▸hr) bE);have c0:∀β,ye ρ ρ hp hp w w' β:=fun β=>⟨rfl,fun hg gQ=>⟨hg,gQ,rfl,Kac _,fun c cap hr gA=>by
  by_cases aO:β=γ
  ·subst aO;rw[bE]at hr;cases hr;exact dU _ _ gA
  ·exact mK (hx.block c (mL gA) (oB β hg c aO gQ hr)) gA⟩⟩
 refine⟨h.sz,qZ,Bx,fun β hg al=>?_,h.inj,fun i=>?_⟩
 ·obtain⟨p1,p2,p3,p4,p5⟩:=h.own β hg al;refine⟨p1,p2,?_,p4,p5⟩;by_cases aO:β=γ
  ·subst aO;rw[ak]at al;cases al;rw[bE]at p3⊢;exact⟨p3.1,KaO p3.2.1 hx.size,cur',cap,by rw[h1,ht],by rw[MT];exact h2,by rw[bw];simp,h4,by rw[bw];simp⟩
  ·cases hr:ρ β with
   |none=>rw[hr]at p3;exact p3
   |some c=>rw[hr]at p3;exact⟨p3.1,KaO p3.2.1 hx.size,p3.2.2.move (hx.block c p3.2.1 (oB β hg c aO al hr)) rfl rfl rfl gL.rc⟩
 ·unfold FW.af;split
  ·exact⟨hB,he,b,hb,cur',cap,bE,ak,bw,MT,ht,h1,h2,h3,h4,h5,fun i x hi j y hy=>(h6 i x hi j y hy).move gL (fun β _=>c0 β)⟩
  ·have cJ:=h.fh i;unfold iR;generalize fr i=p at cJ;have mv:(∀bF e ty xs,p= .aN bF e ty xs->bF≠γ)->Qt C ρ hp w' p (tmps.getD i undef):=fun hq=>
    cJ.move gL (fun β _=>⟨(c0 β).r,(c0 β).h⟩) (fun β _=>c0 β) (fun bF e ty xs e1=>⟨rfl,fun hg gQ=>by have aO:=hq bF e ty xs e1;refine⟨hg,gQ,rfl,Kac _,fun c cap hr gA=>mK (hx.block c (mL gA) (oB bF hg c aO gQ hr)) gA,fun he=>⟨he,rfl,fun c hr=>hx.block c ?_ (oB bF hg c aO gQ hr)⟩⟩;have:=(h.own bF hg gQ).eg;rw[hr]at this;exact this.2.1⟩)
   cases p with
   |aN bF e' ty' xs=>
    simp only[jo];split
    ·trivial
    ·rename_i aO;exact mv (fun _ _ _ _ e1=>by cases e1;exact aO)
   |_=>exact mv (fun _ _ _ _ e1=>by cases e1)
theorem OM{l cs:List PV}{o j:Nat}(hl:o+cs.length<=l.length)(hj:j<l.length):(pQ l o cs)[j]? =if o<=j/\j<o+cs.length then cs[j-o]? else l[j]? :=by
 unfold pQ;rw[KbL];have ht:(l.take o).length=o:=by simp;omega
 rw[Ka3,ht];by_cases c1:j<o
 ·rw[if_pos c1,if_neg (by omega),KaM c1]
 ·rw[if_neg c1,Ka3];by_cases c2:j-o<cs.length
  ·rw[if_pos c2,if_pos (by omega)]
  ·rw[if_neg c2,if_neg (by omega),Kbb];rw[show o+cs.length+(j-o-cs.length)=j by omega]
theorem H9{l cs:List PV}{o:Nat}(hl:o+cs.length<=l.length):(pQ l o cs).length=l.length:=by unfold pQ;simp;omega
theorem adw {o:Oper} {t:TypeId} {n:Nat} {x y:Operand} {px py:PV} {Q:Exit->Act->World->Prop} (ho:o.op= .store t x y) (hd:o.dst=none) (aY:a.defers=[]) (h:aI C ρ fr hp a.tmps w)
  (hn:eB C.P t=some n) (hx:Qt C ρ hp w px (a.eval x)) (hy:Qt C ρ hp w py (a.eval y)) (hv:ph n px py fr hp K):o.wp C.P a w (cP C false w K) Q:=by
 unfold ph at hv;split at hv
 ·rename_i β i o';split at hv
  ·rename_i hb al;obtain⟨h1,h2,h3,h4,h5,hK⟩:=hv;obtain⟨b,nk,g1,g2,ex⟩:=hx.y6;obtain⟨oU,g3,e1,e2,e3,e4,_⟩:=CQ (l:=py.refs) g2;rw[al]at g3;cases g3;have We:=e4 h1;subst We;have hf:=h.freeze py.refs;have hr:=qG h hy (fun β al=>al) h2;have yX:=hr.cells;have bn:=hf.own β hb al;have bc:=bn.eg;rw[g1]at bc;obtain⟨b1,b2,cur,cap,c1,c2,c3,c4,c5⟩:=bc;have eA:=Kam h4;have fo:=(bn.len i _ eA).1;have gu:(a.eval y).cells.size=n:=by rw[yX.1,h3]
   have nv:i*hb.e+o'+n<=cur.size:=by rw[c2];have:(i+1)*hb.e<=cap*hb.e:=Kaf _ (by omega);rw[KaF]at this;omega
   have bp:=SA (P:=C.P) (w:=w) (off:=i*hb.e+o') hn gu c1 nv hr.XL;have kt:(a.eval y).cells.toList.length=n:=by simp[gu]
   have gD:∀k,k<cur.size->((cur.toList.take (i*hb.e+o')++(a.eval y).cells.toList++cur.toList.drop (i*hb.e+o'+n)).toArray).getD k undef=if i*hb.e+o'<=k/\k<i*hb.e+o'+n then(a.eval y).cells.getD (k-(i*hb.e+o')) undef else cur.getD k undef:=by intro k hk;have:=zy (cur:=cur) (p:=i*hb.e+o') (cs:=(a.eval y).cells.toList) (k:=k) (by omega) hk;rw[kt]at this;rw[this];simp[KaZ,Kal]
   have kN:((cur.toList.take (i*hb.e+o')++(a.eval y).cells.toList++cur.toList.drop (i*hb.e+o'+n)).toArray).size=cur.size:=by
    have:=zA (cur:=cur) (p:=i*hb.e+o') (cs:=(a.eval y).cells.toList) (by omega)
    rwa[kt]at this
   have nB:(if n=hb.e then aK hp py else rE (hb.xs[i]'h4) o' (aK hp py)).cells.length=hb.e/\(if n=hb.e then aK hp py else rE (hb.xs[i]'h4) o' (aK hp py)).aE=true:=by
    by_cases hc:n=hb.e
    ·rw[if_pos hc];exact⟨by omega,h2⟩
    ·rw[if_neg hc];exact⟨by rw[ais (by omega)];exact fo,rfl⟩
   obtain⟨nx,FG⟩:∃nx,nx=(if n=hb.e then aK hp py else rE (hb.xs[i]'h4) o' (aK hp py)):=⟨_,rfl⟩
   rw[<-FG]at hK nB;have aG:=hf.store β b hb { hb with xs:=hb.xs.set i nx } al h1 (by intro e;rw[e]at h4;simp at h4) g1 (zG w b _) rfl (by simp) h1
    (fun k x hk=>by
     rcases Ap hk with⟨_,rfl⟩|⟨_,hk⟩
     ·exact nB
     ·exact bn.len k x hk)
    (fun e' eY dU=>by obtain⟨cur',ty',d1,d2⟩:=dU;rw[c1]at d1;cases d1;exact⟨_,_,setRow_heap w b cur _ hb.ty _ c1,by rw[kN];exact d2⟩)
    ⟨_, cap,setRow_heap w b cur _ hb.ty _ c1,by rw[kN];exact c2,by simpa using c3,c4,fun k x hk j z hz=>by
     have wq:k<hb.xs.length:=by have:=(Kad.1 hk).1;simpa using this
     have dX:x.cells.length=hb.e:=by
      rcases Ap hk with⟨_,rfl⟩|⟨_,hk⟩
      ·exact nB.1
      ·exact(bn.len k x hk).1
     have hj:j<hb.e:=by have:=(Kad.1 hz).1;omega
     have ar:k*hb.e+0+j<cap*hb.e:=nT (by omega) (by omega:0+hb.e<=hb.e) hj;show Qu w _ z (Array.getD _ (k*hb.e+j) undef);rw[gD _ (by omega)];rcases Ap hk with⟨wm,FO⟩|⟨wm,hk⟩
     ·subst wm;subst FO;by_cases hc:n=hb.e
      ·rw[FG,if_pos hc]at hz;have ho0:o'=0:=by omega
       subst ho0;rw[if_pos (by omega)];rw[show i*hb.e+j-(i*hb.e+0)=j by omega];exact yX.2 j z hz
      ·rw[FG,if_neg hc]at hz;rw[adv (by omega) (by omega),h3]at hz;by_cases Wy:o'<=j/\j<o'+n
       ·rw[if_pos Wy]at hz;rw[if_pos (by omega)];rw[show i*hb.e+j-(i*hb.e+o')=j-o' by omega];exact yX.2 _ z hz
       ·rw[if_neg Wy]at hz;rw[if_neg (by omega)];exact c5 i _ eA j z hz
     ·rw[if_neg (OL hj (by omega) (fun e=>wm e.symm))];exact c5 k x hk j z hz⟩
   unfold Oper.wp;have hex:(execOp a.eval o).run C.P w= .ok .skip (w.setRow b (cur.toList.take (i*hb.e+o')++(a.eval y).cells.toList++cur.toList.drop (i*hb.e+o'+n)).toArray):=by unfold execOp;simp only[ho,ex,Kao,Instr.storeAt,Instr.sureAddr,Ka0,Kaj,bp]
   rw[hex];refine⟨by rw[vf];exact aY,⟨fr,_,⟨ρ,?_⟩,hK⟩,by simp⟩;rw[hd];exact aG
  ·exact hv.elim
 ·rename_i γ i o';split at hv
  ·rename_i bF e ty xs ak;obtain⟨rfl,⟨hb,k1,k2⟩,h1,h2,hv⟩:=hv;split at hv
   ·rename_i cs jK;obtain⟨h3,hK⟩:=hv;obtain⟨r1,r2,r3⟩:=P3 hy jK;obtain⟨hB,b,aw,g1,g2,ex⟩:=hx.NJ;rw[k1]at g2;cases g2;have cJ:=h.fh bF;rw[ak]at cJ;obtain⟨_,we,b',aw,cur,cap,q1,q2,q3,q4,q5,q6,q7,q8,q9,Ce,iA⟩:=cJ;rw[g1]at q1;cases q1;rw[k1]at q2;cases q2;rw[q4]at ex;have eA:=Kam h1;have fo:=Ce i _ eA;have gu:(a.eval y).cells.size=n:=by rw[r1,h3]
    have nv:i*e+o'+n<=cur.size:=by rw[q7];have:(i+1)*e<=cap*e:=Kaf _ (by omega);rw[KaF]at this;omega
    have bp:=SA (P:=C.P) (w:=w) (off:=i*e+o') hn gu q6 nv r3;have kt:(a.eval y).cells.toList.length=n:=by simp[gu]
    have gD:∀k,k<cur.size->((cur.toList.take (i*e+o')++(a.eval y).cells.toList++cur.toList.drop (i*e+o'+n)).toArray).getD k undef=if i*e+o'<=k/\k<i*e+o'+n then(a.eval y).cells.getD (k-(i*e+o')) undef else cur.getD k undef:=by intro k hk;have:=zy (cur:=cur) (p:=i*e+o') (cs:=(a.eval y).cells.toList) (k:=k) (by omega) hk;rw[kt]at this;rw[this];simp[KaZ,Kal]
    have kN:((cur.toList.take (i*e+o')++(a.eval y).cells.toList++cur.toList.drop (i*e+o'+n)).toArray).size=cur.size:=by
     have:=zA (cur:=cur) (p:=i*e+o') (cs:=(a.eval y).cells.toList) (by omega)
     rwa[kt]at this
    generalize(cur.toList.take (i*e+o')++(a.eval y).cells.toList++cur.toList.drop (i*e+o'+n)).toArray=W at bp gD kN;have BM:o'+cs.length<=(xs[i]).bl.length:=by rw[fo,h3];exact h2
    have pW:∀c∈pQ (xs[i]).bl o' cs,c.bl=[c]:=by
     intro c hc;obtain⟨j,hj⟩:=KaG hc;have qc:j<(xs[i]).bl.length:=by have:=(Kad.1 hj).1;rwa[H9 BM]at this
     rw[OM BM qc]at hj;split at hj
     ·exact(r2 _ c hj).bl
     ·exact(iA i _ eA j c hj).bl
    have gN:=TS pW;have aG:=h.NI (w':=w.setRow b W) (xs':=xs.set i (g8 (pQ (xs[i]).bl o' cs))) (cur':=W) (cap:=cap) hB we k1 k2 q3 q4 q5 g1 (zG w b W)
     (fun e2 AW hcp=>by obtain⟨aqO,oE,d1,d2⟩:=hcp;rw[q6]at d1;cases d1;exact⟨_,_,setRow_heap w b cur _ ty _ q6,by rw[kN];exact d2⟩)
     (setRow_heap w b cur W ty _ q6) (by rw[kN];exact q7) (by simpa using q8) q9
     (fun k x hk=>by
      rcases Ap hk with⟨_,rfl⟩|⟨_,hk⟩
      ·rw[gN,H9 BM];exact fo
      ·exact Ce k x hk)
     (fun k x hk j y' jO=>by
      rcases Ap hk with⟨rfl,rfl⟩|⟨aO,hk⟩
      ·rw[gN]at jO;have qc:j<(xs[i]).bl.length:=by have:=(Kad.1 jO).1;rwa[H9 BM]at this
       have wj:j<e:=by omega
       have wz:i*e+0+j<cap*e:=nT (n:=e) (by omega) (by omega) wj;rw[OM BM qc]at jO;rw[gD _ (by omega)];split at jO
       ·rename_i hr;rw[if_pos (by omega),show i*e+j-(i*e+o')=j-o' by omega];exact r2 _ y' jO
       ·rename_i hr;rw[if_neg (by omega)];exact iA i _ eA j y' jO
      ·have wq:k<xs.length:=(Kad.1 hk).1;have wj:j<e:=by have:=(Kad.1 jO).1;have:=Ce k x hk;omega
       have wz:k*e+0+j<cap*e:=nT (n:=e) (by omega) (by omega) wj;rw[gD _ (by omega),if_neg (OL wj h2 (fun e=>aO e.symm))];exact iA k x hk j y' jO)
    unfold Oper.wp;have hex:(execOp a.eval o).run C.P w= .ok .skip (w.setRow b W):=by unfold execOp;simp only[ho,ex,Kao,Instr.storeAt,Instr.sureAddr,Ka0,Kaj,bp]
    rw[hex];refine⟨by rw[vf];exact aY,⟨_,hp,⟨ρ,?_⟩,hK⟩,by simp⟩;rw[hd];exact aG
   ·exact hv.elim
  ·exact hv.elim
 ·exact hv.elim
end Go.FW
namespace Go.FW
open Go
variable {C : Ctx} {ρ : Nat -> Option Nat} {fr : Fr} {hp : HP} {w : World} {a : Act} {K : Qh}
theorem Ym{X:Nat->Prop}{x:PV}{e:Nat}{f:Nat->Value}(he:x.cells.length=e)(h0:0<e)(hr:∀(j:Nat)(y:PV),x.cells[j]? =some y->Qu w X y (f j)):x.aE=true:=by
 by_cases ha:∃cs,x= .agg cs
 ·obtain⟨cs,rfl⟩:=ha;rfl
 ·have hc:x.cells=[x]:=by
   cases x with
   |agg cs=>exact absurd ⟨cs,rfl⟩ ha
   |_=>rfl
  have:=hr 0 x (by rw[hc];rfl);exact ba.data (ba.qw this)
theorem Hu{e:Nat}{px:PV}{v:Value}{ys:List PV}{e':Nat}(h:aI C ρ fr hp a.tmps w)(hx:Qt C ρ hp w px v)(hs:jE hp px=some (e',ys))(h0:0<e)(ns:e'=e∨ys=[]):
  ∃ad cap,v= .slice ad ys.length cap/\(ys≠[]->∃(b off:Nat)(f:Nat->Value),ad=some ⟨b,off,none⟩/\(∀k,k<ys.length*e->w.cell? ⟨b,off+k,none⟩=some (f k))/\
   ∀(i:Nat)(y:PV),ys[i]? =some y->y.cells.length=e/\y.aE=true/\∀(j:Nat)(z:PV),y.cells[j]? =some z->Qu w (aH C ρ hp) z (f (i*e+j))):=by
 cases px with
 |aa=>simp[jE]at hs;obtain⟨rfl,rfl⟩:=hs;exact⟨none,0,hx.wS,fun hn=>absurd rfl hn⟩
 | sl e2 xs=>
  simp[jE]at hs;obtain⟨rfl,rfl⟩:=hs;have aW:Qu w (aH C ρ hp) (.sl e2 xs) v:=hx;cases aW with
  |gT _ ad cap hc=>exact⟨ad,cap,rfl,fun hn=>absurd rfl hn⟩
  | sl _ _ b off cap vs hX hb hl hc he hv hr=>
   refine⟨_,cap,rfl,fun hn=>?_⟩;obtain rfl:e2=e:=ns.resolve_right hn;refine⟨b,off,fun k=>vs (k/e2) (k%e2),rfl,fun k hk=>?_,fun i y hy=>?_⟩
   ·have h1:k/e2<xs.length:=(Kbn h0).2 hk;have h2:=Kbw k h0;have:=hv _ h1 _ h2;rw[Kcg,KaU,Kbr]at this;exact this
   ·have fo:=he i y hy;refine⟨fo,Ym fo h0 (hr i y hy),fun j z hz=>?_⟩;have hj:j<e2:=by have:=(Kad.1 hz).1;omega
    show Qu w _ z (vs ((i*e2+j)/e2) ((i*e2+j)%e2));rw[ads hj,OJ hj];exact hr i y hy j z hz
 | ax β o n=>
  simp only[jE,Kaa,KcP]at hs;obtain⟨hb,al,MT,rfl⟩:=hs;obtain⟨fm,g1,g2,g3⟩:=hx;rw[al]at g1;cases g1;have hlen:((hb.xs.drop o).take n).length=n:=by simp;omega
  rcases g3 with⟨g3,rfl,rfl,rfl⟩|⟨b,cap,g3,rfl,g5,g6⟩
  ·exact⟨none,0,by simp,fun hn=>absurd (by simp) hn⟩
  ·refine⟨_,cap,by rw[hlen],fun hn=>?_⟩;have bn:=h.own β hb al;have bc:=bn.eg;rw[g3]at bc;obtain⟨_,ar,cur,eY,c1,c2,c3,c4,c5⟩:=bc;have Wq:hb.e=e:=by
    rcases ns with ns|ns
    ·omega
    ·exact absurd ns hn
   refine⟨b,o*hb.e,fun k=>cur.getD (o*hb.e+k) undef,rfl,fun k hk=>?_,fun i y hy=>?_⟩
   ·rw[hlen]at hk;have:(o+n)*e<=eY*e:=Kaf e (by omega);rw[KaF]at this;exact lM c1 (by rw[c2,Wq];omega)
   ·have hi:i<n:=by have:=(Kad.1 hy).1;omega
    rw[KaM hi,Kbb]at hy;obtain⟨l1,l2⟩:=bn.len _ y hy;refine⟨by omega,l2,fun j z hz=>?_⟩;have:=c5 _ y hy j z hz;rw[KaF,Kcg]at this
    rwa[Wq]at this⊢
 |_=>simp[jE]at hs
theorem So{P:Program}{t ty e:TypeId}{i:TypeInfo}(ht:P.underlying t=some (.slice e))(hi:P.info? e=some i){base ad:Option Addr}{n cap c:Nat}(hle:n<=cap)(w:World):
  (Builtin.append_ #[t,t] ty #[.slice base n cap,.slice ad 0 c]).run P w= .ok (.slice base n cap) w:=by
 cases ad<;>cases base<;>simp[Builtin.append_,run_underlying ht,sizeOf,typeInfo,hi,Builtin.lenOf,Builtin.firstCells,hle,storeCells,loadCells,loadCellsFrom]
theorem te{P:Program}{o:Oper}{s x:Operand}{t:TypeId}(ho:o.op= .call { callee:=.builtin .append,args:= #[s,x],argTypes:= #[t,t] }){vs vx v:Value}{w w':World}(es:a.eval s=vs)(ex:a.eval x=vx)
  (hr:(Builtin.append_ #[t,t] o.type #[vs,vx]).run P w= .ok v w'):(execOp a.eval o).run P w= .ok (.value v) w':=by
 unfold execOp;simp only[ho,resolve,Kao,Ka0,Kaj,invoke,builtin];simp[es,ex,hr]
def ga(f:Nat->Value)(n:Nat):List Value:=(List.range n).map f
theorem xc(f:Nat->Value)(n:Nat):(ga f n).length=n:=by simp[ga]
theorem zH{f:Nat->Value}{n j:Nat}{u:Value}(h:(ga f n)[j]? =some u):j<n/\u=f j:=by
 have hj:j<n:=by have:=(Kad.1 h).1;simpa[ga]using this
 simp only[ga,Kay,KcX hj,Kck,KaB]at h;exact⟨hj,h.symm⟩
theorem CU{f:Nat->Value}{n j:Nat}(h:j<n):(ga f n).getD j undef=f j:=by simp[ga,Kal,h]
theorem uZ(l:List Value)(k:Nat):l.toArray.getD k undef=l.getD k undef:=by simp[KaZ,Kal]
theorem kX(xs ys:Array Value)(k:Nat):(xs++ys).getD k undef=if k<xs.size then xs.getD k undef else ys.getD (k-xs.size) undef:=by simp only[KaZ,Array.getElem?_append];split<;>rfl
theorem vj{n m e i j:Nat}(h0:i<m)(hj:j<e):i*e+j<m*e/\(n+i)*e+j=n*e+(i*e+j):=by
 constructor
 ·have:(i+1)*e<=m*e:=Kaf e h0;rw[KaF]at this;omega
 ·rw[KaF];omega
theorem rM{β:Nat}{p:PV}{v:Value}(h:cV C ρ hp w p v):cV C ρ hp w (iE β p) v/\∀γ∈(iE β p).dZ,γ≠β:=by
 cases p with
 | ax dB o n=>
  simp only[iE];split
  ·exact⟨trivial,fun γ ak=>by cases ak⟩
  ·rename_i aO;exact⟨h,fun γ ak=>by simp[PV.dZ]at ak;subst ak;exact aO⟩
 | aM bF o n=>
  simp only[iE];split
  ·exact⟨trivial,fun γ ak=>by cases ak⟩
  ·rename_i aO;exact⟨h,fun γ ak=>by simp[PV.dZ]at ak;subst ak;exact aO⟩
 |np=>cases h
 |_=>exact⟨h,fun γ ak=>by cases ak⟩
theorem pE{l:List PV}{f:PV->PV}{i:Nat}{y:PV}(h:(l.map f)[i]? =some y):∃x,l[i]? =some x/\y=f x:=by simp only[Kay,Kaa]at h;obtain⟨x,h1,h2⟩:=h;exact⟨x,h1,h2.symm⟩
theorem xu{β:Nat}:yf C ρ hp w β fr (fT β fr):=by
 intro i v h;unfold fT;generalize fr i=p at h;have kill:dh β p=bZ β p->(∀γ∈p.bW,γ≠β)->Qt C ρ hp w (dh β p) v/\(∀γ∈(dh β p).refs,γ≠β)/\∀γ∈(dh β p).bW,γ≠β:=fun e hs=>by
  rw[e];refine⟨Qt.kill h,fun γ ak=>(TP γ ak).1,fun γ ak=>?_⟩;unfold bZ at ak;split at ak
  ·cases ak
  ·exact hs γ ak
 cases p with
 | aN γ e ty xs=>
  simp only[dh];split
  ·exact⟨trivial,fun γ ak=>(by cases ak),fun γ ak=>by cases ak⟩
  ·rename_i aO;obtain⟨h0,he,b,hb,cur,cap,h1,h2,h3,h4,h5,h6,h7,h8,h9,bK,cu⟩:=h;have pW:∀(i:Nat)(x:PV),xs[i]? =some x->(g8 (x.bl.map (iE β))).bl=x.bl.map (iE β):=fun i x hi=>TS fun c hc=>by obtain⟨d,hd,rfl⟩:=KaE.1 hc;obtain⟨j,hj⟩:=KaG hd;exact(rM (cu i x hi j d hj)).1.bl
   refine⟨⟨h0,he,b,hb,cur,cap,h1,h2,h3,h4,h5,h6,h7,by simpa using h8,h9,fun i x hi=>?_,fun i x hi j y hy=>?_⟩,fun γ ak=>(by cases ak),fun bF ak=>?_⟩
   ·obtain⟨x0,bw,rfl⟩:=pE hi;rw[pW i x0 bw,KaV];exact bK i x0 bw
   ·obtain⟨x0,bw,rfl⟩:=pE hi;rw[pW i x0 bw]at hy;obtain⟨y0,cX,rfl⟩:=pE hy;exact(rM (cu i x0 bw j y0 cX)).1
   ·rcases KaP.1 ak with rfl|ak
    ·exact aO
    ·obtain⟨x,hx,ak⟩:=Kaq.1 ak;obtain⟨y,hy,ak⟩:=Kaq.1 ak;obtain⟨i,hi⟩:=KaG hx;obtain⟨x0,bw,rfl⟩:=pE hi;rw[pW i x0 bw]at hy;obtain⟨j,hj⟩:=KaG hy;obtain⟨y0,cX,rfl⟩:=pE hj;exact(rM (cu i x0 bw j y0 cX)).2 bF ak
 | aX cs=>
  obtain⟨vs,rfl,h1,h2⟩:=h;refine⟨⟨vs,rfl,by simpa using h1,fun i x hi=>?_⟩,fun γ ak=>(by cases ak),fun γ ak=>?_⟩
  ·obtain⟨x0,bw,rfl⟩:=pE hi;exact(rM (h2 i x0 bw)).1
  ·obtain⟨x,hx,ak⟩:=Kaq.1 ak;obtain⟨i,hi⟩:=KaG hx;obtain⟨x0,bw,rfl⟩:=pE hi;exact(rM (h2 i x0 bw)).2 γ ak
 | ff cs=>
  obtain⟨vs,rfl,h1,h2⟩:=h;refine⟨⟨vs,rfl,by simpa using h1,fun i x hi=>?_⟩,fun γ ak=>(by cases ak),fun γ ak=>?_⟩
  ·obtain⟨x0,bw,rfl⟩:=pE hi;exact(rM (h2 i x0 bw)).1
  ·obtain⟨x,hx,ak⟩:=Kaq.1 ak;obtain⟨i,hi⟩:=KaG hx;obtain⟨x0,bw,rfl⟩:=pE hi;exact(rM (h2 i x0 bw)).2 γ ak
 | fg cs q=>
  obtain⟨vs,u,rfl,h1,h2,h3⟩:=h;refine⟨⟨vs,u,rfl,by simpa using h1,fun i x hi=>?_,h3⟩,fun γ ak=>(by cases ak),fun γ ak=>?_⟩
  ·obtain⟨x0,bw,rfl⟩:=pE hi;exact(rM (h2 i x0 bw)).1
  ·obtain⟨x,hx,ak⟩:=Kaq.1 ak;obtain⟨i,hi⟩:=KaG hx;obtain⟨x0,bw,rfl⟩:=pE hi;exact(rM (h2 i x0 bw)).2 γ ak
 |aM γ o n=>
  simp only[dh];split
  ·exact⟨trivial,fun γ ak=>(by cases ak),fun γ ak=>by cases ak⟩
  ·rename_i aO;exact⟨h,fun γ ak=>(by cases ak),fun bF ak=>by simp[PV.bW]at ak;subst ak;exact aO⟩
 |np γ o n=>
  simp only[dh];split
  ·exact⟨trivial,fun γ ak=>(by cases ak),fun γ ak=>by cases ak⟩
  ·rename_i aO;exact⟨h,fun γ ak=>(by cases ak),fun bF ak=>by simp[PV.bW]at ak;subst ak;exact aO⟩
 | fn f first cap=>
  by_cases hc:(first.flatMap PV.eI++cap.flatMap PV.eI).contains β=true
  ·simp only[dh,hc,if_true];exact⟨trivial,fun γ ak=>(by cases ak),fun γ ak=>by cases ak⟩
  ·exact kill (by simp only[dh,hc];rfl) (fun γ ak e=>hc (by subst e;exact List.contains_iff_mem.2 ak))
 |_=>exact kill rfl (fun γ ak=>by cases ak)
end Go.FW
namespace Go.FW
open Go
variable {C : Ctx} {ρ : Nat -> Option Nat} {fr : Fr} {hp : HP} {w : World} {a : Act} {K : Qh}
theorem P4{o:Oper}{s x:Operand}{t e:TypeId}{n by_:Nat}{z:PV}{px:PV}{ys:List PV}{e' d:Nat}{β:Nat}{ay:Fr}{Q:Exit->Act->World->Prop}
  (ho:o.op= .call { callee:=.builtin .append,args:= #[s,x],argTypes:= #[t,t] }) (hd:o.dst=some d) (ar:d<C.N) (aY:a.defers=[]) (h:aI C ρ fr hp a.tmps w)
  (hu:C.P.underlying t=some (.slice e)) (hz:jX C.P e=some (n,by_,z)) (hx:Qt C ρ hp w px (a.eval x)) (o7:jE hp px=some (e',ys)) (h0:0<n) (ku:z.cells.length=n) (ns:e'=n∨ys=[])
  (es:a.eval s= .slice none 0 0) (hb:ys.length*by_<=140737488355328) (hm:ys.length<=9223372036854775807)
  (pZ:yf C ρ hp w β fr ay) (hB:bN β=false)
  (hK:K (af ay d (.ms β ys.length)) (Qz hp β ⟨n,e,ys,false⟩)):o.wp C.P a w (cP C false w K) Q:=by
 obtain⟨ti,zv,i1,i2,i3,i4,i5⟩:=rX hz;obtain⟨ad,cap,ex,Bp⟩:=Hu h hx o7 h0 ns;by_cases qn:ys=[]
 ·subst qn;have bp:=So (P:=C.P) (ty:=o.type) (ad:=ad) (c:=cap) hu i1 (base:=none) (n:=0) (cap:=0) (Kac 0) w;have hs:=h.zb (w':=w) β none ⟨n,e,[],false⟩ hB pZ (Ext.refl _ _) (by simp) h0 (by simp) (by simp) (by simp);refine jD (te ho es ex bp) (cP.kU hd ar aY hs (by simp) ?_ hK);exact⟨⟨n,e,[],false⟩,by simp[Qz],by simp,.inl ⟨gW _ _ _,rfl,rfl,rfl⟩⟩
 ·obtain⟨b,off,f,rfl,hf,gN⟩:=Bp qn;have ix:0<ys.length:=Kbf.2 qn;have bp:=run_append_nil (P:=C.P) w t o.type e ti zv hu i1 i2 ⟨b,off,none⟩ ys.length cap (ga f (ys.length*n)) (by rw[xc,i3])
   (fun j v hj=>by obtain⟨fG,rfl⟩:=zH hj;rw[KbA];exact hf j fG) ix (by omega) (by rw[i4];omega)
  have gm:=grownCap_ge w ys.length 0 e;have ja:=grownCap_le_maxLen w ys.length 0 e (by rw[lO];exact hm);generalize grownCap w ys.length 0 e=G at bp gm ja;have sY:zv.cells.size=n:=by have:=(rJ (w:=w) (X:=aH C ρ hp) i5).cells.1;omega
  obtain⟨hs,qZ⟩:=h.wR β hB pZ ⟨n,e,ys,false⟩ ((ga f (ys.length*n)).toArray++Builtin.zeroCells zv.cells (G-ys.length)) G _ (.inr rfl)
   (by simp[xc,size_zeroCells,sY,<-Nat.add_mul];congr 1;omega) gm ja h0 (fun i y hy=>⟨(gN i y hy).1,(gN i y hy).2.1⟩)
   (fun i y hy j z hz=>by
    have hi:i<ys.length:=(Kad.1 hy).1;have hj:j<n:=by have:=(Kad.1 hz).1;have:=(gN i y hy).1;omega
    obtain⟨q1,_⟩:=vj (n:=0) hi hj;show Qu w _ z (Array.getD _ (i*n+j) undef);rw[kX,if_pos (by simpa[xc]using q1)];have:=(gN i y hy).2.2 j z hz;rw[uZ,CU q1];exact this)
  refine jD (te ho es ex bp) (cP.kU hd ar aY hs (by simp) ?_ hK);exact⟨⟨n,e,ys,false⟩,by simp[Qz],by simp,.inr ⟨w.heap.size,G,gW _ _ _,by simp,⟨_,e,mE w.drew _,by simp[xc,size_zeroCells,sY,<-Nat.add_mul];congr 1;omega⟩,by omega⟩⟩
theorem P5{o:Oper}{s x:Operand}{t e:TypeId}{n by_:Nat}{z:PV}{px:PV}{ys:List PV}{e' d:Nat}{β m:Nat}{hb:HB}{ay:Fr}{Q:Exit->Act->World->Prop}
  (ho:o.op= .call { callee:=.builtin .append,args:= #[s,x],argTypes:= #[t,t] }) (hd:o.dst=some d) (ar:d<C.N) (aY:a.defers=[]) (h:aI C ρ fr hp a.tmps w)
  (hu:C.P.underlying t=some (.slice e)) (hz:jX C.P e=some (n,by_,z)) (hx:Qt C ρ hp w px (a.eval x)) (o7:jE hp px=some (e',ys)) (h0:0<n) (ku:z.cells.length=n) (ns:e'=n∨ys=[])
  (hs:Qt C ρ hp w (.ms β m) (a.eval s)) (pZ:yf C ρ hp w β fr ay) (hB:bN β=false) (al:hp β=some hb) (ma:hb.fz=false) (Bk:hb.e=n) (iY:hb.ty=e) (mh:m<=hb.xs.length)
  (MK:(m+ys.length)*by_<=140737488355328) (BD:m+ys.length<=9223372036854775807)
  (hK:K (af ay d (.ms β (m+ys.length))) (Qz hp β ⟨n,e,hb.xs.take m++ys,false⟩)):o.wp C.P a w (cP C false w K) Q:=by
 obtain⟨fm,g1,g2,g3⟩:=hs;rw[al]at g1;cases g1;have ry:(hb.xs.take m).length=m:=by simp;omega
 rw[Kbe]at g2;rcases g3 with⟨g3,es,rfl,_⟩|⟨b,cap,g3,es,g5,g6⟩
 ·simp only[Kbe,Kb5,KaN]at hK MK BD;exact P4 ho hd ar aY h hu hz hx o7 h0 ku ns es MK BD pZ hB hK
 rw[KbI]at es;rw[Kbe]at g5 g6;obtain⟨ti,zv,i1,i2,i3,i4,i5⟩:=rX hz;obtain⟨ad,Ch,ex,Bp⟩:=Hu h hx o7 h0 ns;have bn:=h.own β hb al;have bc:=bn.eg;rw[g3]at bc;obtain⟨b1,b2,cur,eY,c1,c2,c3,c4,c5⟩:=bc;replace b1:=Ctx.EJ b1 hB;obtain⟨cur',ty',d1,d2⟩:=g5;rw[c1]at d1;cases d1;obtain rfl:eY=cap:=KbC bn.l6 (by omega);subst iY;subst Bk;have Bu:aH C ρ hp b:=.inr ⟨β,hb,al,ma,g3⟩;have yP:∀(i:Nat)(x:PV),(hb.xs.take m++ys)[i]? =some x->(i<m/\hb.xs[i]? =some x)∨(m<=i/\ys[i-m]? =some x):=by
  intro i x aW;rw[Ka3,ry]at aW;by_cases hi:i<m
  ·rw[if_pos hi,KaM hi]at aW;exact .inl ⟨hi,aW⟩
  ·rw[if_neg hi]at aW;exact .inr ⟨by omega,aW⟩
 by_cases qn:ys=[]
 ·subst qn;have bp:=So (P:=C.P) (ty:=o.type) (ad:=ad) (c:=Ch) hu i1 (base:=some ⟨b,0,none⟩) (n:=m) (cap:=eY) (by omega) w;have hr:=h.zb (w':=w) β (some b) ⟨hb.e,hb.ty,hb.xs.take m++[],false⟩ hB pZ (Ext.refl _ _) (fun c hc=>by cases hc;exact⟨b1,b2,.inr ⟨g3,hb,al,ma⟩⟩) bn.l6
   (fun i x aW=>by
    rcases yP i x aW with⟨_,hq⟩|⟨_,hq⟩
    ·exact bn.len i x hq
    ·simp at hq) (by simp)
   (fun c hc=>by
    cases hc;refine⟨cur,eY,c1,c2,by simp;omega,c4,fun i x aW j y hy=>?_⟩;rcases yP i x aW with⟨_,hq⟩|⟨_,hq⟩
    ·exact c5 i x hq j y hy
    ·simp at hq)
  refine jD (te ho es ex bp) (cP.kU hd ar aY hr (by simp) ?_ hK);exact⟨⟨hb.e,hb.ty,hb.xs.take m++[],false⟩,by simp[Qz],by simp;omega,.inr ⟨b,eY,gW _ _ _,by simp,⟨cur,hb.ty,c1,by rw[Kbe];exact c2⟩,by omega⟩⟩
 obtain⟨sb,off,f,rfl,hf,gN⟩:=Bp qn;have ix:0<ys.length:=Kbf.2 qn;have yR:∀(j:Nat)(v:Value),(ga f (ys.length*hb.e))[j]? =some v->w.cell? ((⟨sb,off,none⟩:Addr).add j)=some v:=fun j v hj=>by obtain⟨fG,rfl⟩:=zH hj;rw[KbA];exact hf j fG
 have jM:∀u∈ga f (ys.length*hb.e),u.oneCell'=true:=by
  intro u jh;obtain⟨k,hk⟩:=KaG jh;obtain⟨en,rfl⟩:=zH hk;have hi:k/hb.e<ys.length:=(Kbn h0).2 en;have hj:=Kbw k h0;obtain⟨l1,l2,l3⟩:=gN _ _ (Kam hi);have qc:k%hb.e<(ys[k/hb.e]'hi).cells.length:=by omega
  have:=l3 _ _ (Kam qc);rw[KaU,Kbr]at this;exact this.rC.1
 have mj:=xc f (ys.length*hb.e);have hmc:m*hb.e+(ga f (ys.length*hb.e)).length=(m+ys.length)*hb.e:=by rw[mj,KaF]
 by_cases yV:m+ys.length<=eY
 ·have oY:m*hb.e+(ga f (ys.length*hb.e)).length<=cur.size:=by rw[hmc,c2];exact Kaf _ yV
  have bp:=run_append_room (P:=C.P) w t o.type hb.ty ti hu i1 b m eY cur c1 ⟨sb,off,none⟩ ys.length Ch (ga f (ys.length*hb.e)) (by rw[mj,i3]) yR jM yV (by rw[i3];exact oY);rw[i3]at bp;have kN:=zA (cur:=cur) (p:=m*hb.e) (cs:=ga f (ys.length*hb.e)) oY;have gD:=fun k hk=>zy (cur:=cur) (p:=m*hb.e) (cs:=ga f (ys.length*hb.e)) (k:=k) oY hk;generalize hW:(cur.toList.take (m*hb.e)++ga f (ys.length*hb.e)++cur.toList.drop (m*hb.e+(ga f (ys.length*hb.e)).length)).toArray=W at bp kN gD;have hr:=h.zb (w':=w.setRow b W) β (some b) ⟨hb.e,hb.ty,hb.xs.take m++ys,false⟩ hB pZ ((zG w b W).mono (fun i _ hi=>⟨hi▸g3,hb,al,ma⟩))
   (fun c hc=>by cases hc;exact⟨b1,by simpa using b2,.inr ⟨g3,hb,al,ma⟩⟩) bn.l6
   (fun i x aW=>by
    rcases yP i x aW with⟨_,hq⟩|⟨_,hq⟩
    ·exact bn.len i x hq
    ·exact⟨(gN _ x hq).1,(gN _ x hq).2.1⟩) (by simp)
   (fun c hc=>by
    cases hc;refine⟨W,eY,setRow_heap w b cur W hb.ty _ c1,by rw[kN];exact c2,by simp;omega,c4,fun i x aW j y hy=>?_⟩;show Qu w _ y (Array.getD W (i*hb.e+j) undef);rcases yP i x aW with⟨hi,hq⟩|⟨hi,hq⟩
    ·have hj:j<hb.e:=by have:=(Kad.1 hy).1;have:=(bn.len i x hq).1;omega
     have q1:=(vj (n:=0) hi hj).1;have q2:m*hb.e<=eY*hb.e:=Kaf _ (by omega);rw[gD _ (by omega),if_neg (by omega)];exact c5 i x hq j y hy
    ·have mc:i-m<ys.length:=(Kad.1 hq).1;have hj:j<hb.e:=by have:=(Kad.1 hy).1;have:=(gN _ x hq).1;omega
     obtain⟨q1,q2⟩:=vj (n:=m) mc hj;rw[show m+(i-m)=i by omega]at q2;rw[gD _ (by omega),if_pos (by omega),q2,show m*hb.e+((i-m)*hb.e+j)-m*hb.e=(i-m)*hb.e+j by omega,CU q1];exact(gN _ x hq).2.2 j y hy)
  refine jD (te ho es ex bp) (cP.kU hd ar aY hr (by simp) ?_ hK);exact⟨⟨hb.e,hb.ty,hb.xs.take m++ys,false⟩,by simp[Qz],by simp;omega,.inr ⟨b,eY,gW _ _ _,by simp,⟨W,hb.ty,setRow_heap w b cur W hb.ty _ c1,by rw[kN,Kbe];exact c2⟩,by omega⟩⟩
 ·have arp:m*hb.e<=cur.size:=by rw[c2];exact Kaf _ (by omega)
  have fN:(cur.toList.take (m*hb.e)).length=m*hb.e:=by simp;omega
  have holds:∀(j:Nat)(v:Value),(cur.toList.take (m*hb.e))[j]? =some v->w.cell? ((⟨b,0,none⟩:Addr).add j)=some v:=fun j v hj=>by
   have fG:j<m*hb.e:=by have:=(Kad.1 hj).1;omega
   rw[KaM fG]at hj;rw[KbA,Kbe,lM c1 (by omega),CR cur j v hj]
  have bp:=run_append_grow (P:=C.P) w t o.type hb.ty ti zv hu i1 i2 ⟨b,0,none⟩ m eY (cur.toList.take (m*hb.e)) (by rw[fN,i3]) holds ⟨sb,off,none⟩ ys.length Ch (ga f (ys.length*hb.e)) (by rw[mj,i3]) yR
   (by omega) (by omega) (growslice_fits (by omega) (by rw[i4];exact MK))
  have gm:=grownCap_ge w (m+ys.length) eY hb.ty;have ja:=grownCap_le_maxLen w (m+ys.length) eY hb.ty (by rw[lO];exact BD);generalize grownCap w (m+ys.length) eY hb.ty=G at bp gm ja;have sY:zv.cells.size=hb.e:=by have:=(rJ (w:=w) (X:=aH C ρ hp) i5).cells.1;omega
  have jK:((cur.toList.take (m*hb.e)).toArray++(ga f (ys.length*hb.e)).toArray++Builtin.zeroCells zv.cells (G-(m+ys.length))).size=G*hb.e:=by simp only[Kcj,KbM,fN,mj,size_zeroCells,sY,<-Nat.add_mul];congr 1;omega
  obtain⟨hr,qZ⟩:=h.wR β hB pZ ⟨hb.e,hb.ty,hb.xs.take m++ys,false⟩ _ G _ (.inr rfl) jK (by simp;omega) ja bn.l6
   (fun i x aW=>by
    rcases yP i x aW with⟨_,hq⟩|⟨_,hq⟩
    ·exact bn.len i x hq
    ·exact⟨(gN _ x hq).1,(gN _ x hq).2.1⟩)
   (fun i x aW j y hy=>by
    show Qu w _ y (Array.getD _ (i*hb.e+j) undef);rcases yP i x aW with⟨hi,hq⟩|⟨hi,hq⟩
    ·have hj:j<hb.e:=by have:=(Kad.1 hy).1;have:=(bn.len i x hq).1;omega
     have q1:=(vj (n:=0) hi hj).1;rw[kX,if_pos (by simp only[Kcj,KbM,fN];omega),kX,if_pos (by simp only[KbM,fN];omega),uZ,
      Kal,KaM q1]
     have:=c5 i x hq j y hy;simpa[KaZ]using this
    ·have mc:i-m<ys.length:=(Kad.1 hq).1;have hj:j<hb.e:=by have:=(Kad.1 hy).1;have:=(gN _ x hq).1;omega
     obtain⟨q1,q2⟩:=vj (n:=m) mc hj;rw[show m+(i-m)=i by omega]at q2;rw[q2,kX,if_pos (by simp only[Kcj,KbM,fN,mj];omega),kX,if_neg (by simp only[KbM,fN];omega),uZ];simp only[KbM,fN];rw[show m*hb.e+((i-m)*hb.e+j)-m*hb.e=(i-m)*hb.e+j by omega,CU q1];exact(gN _ x hq).2.2 j y hy)
  refine jD (te ho es ex bp) (cP.kU hd ar aY hr (by simp) ?_ hK);exact⟨⟨hb.e,hb.ty,hb.xs.take m++ys,false⟩,by simp[Qz],by simp;omega,.inr ⟨w.heap.size,G,gW _ _ _,by simp,⟨_,hb.ty,mE w.drew _,by rw[Kbe];exact jK⟩,by omega⟩⟩
theorem abH{o:Oper}{s x:Operand}{t e:TypeId}{n by_:Nat}{z:PV}{ps px:PV}{d:Nat}{Q:Exit->Act->World->Prop}
  (ho:o.op= .call { callee:=.builtin .append,args:= #[s,x],argTypes:= #[t,t] }) (hd:o.dst=some d) (ar:d<C.N) (aY:a.defers=[]) (h:aI C ρ fr hp a.tmps w)
  (hu:C.P.underlying t=some (.slice e)) (hz:jX C.P e=some (n,by_,z)) (ku:z.cells.length=n) (hs:Qt C ρ hp w ps (a.eval s)) (hx:Qt C ρ hp w px (a.eval x))
  (ao5:jE hp px=none->yn n by_ e ps px d fr hp K->o.wp C.P a w (cP C false w K) Q) (hv:iU n by_ e ps px d fr hp K):o.wp C.P a w (cP C false w K) Q:=by
 unfold iU at hv;split at hv
 ·exact ao5 (by assumption) hv
 ·rename_i e' ys o7;obtain⟨h0,ns,hv⟩:=hv;cases ps with
  |aa=>obtain⟨k1,k2,hK⟩:=hv;exact P4 (β:=d) ho hd ar aY h hu hz hx o7 h0 ku ns hs.wS k1 k2 (Dq (yg ar)) (vA (yg ar)) hK
  | ax β o' m=>
   cases o' with
   |succ o'=>exact hv.elim
   |zero=>
   simp only at hv;split at hv
   ·rename_i hb al;rcases hv with⟨k0,k1,k2,k3,k4,k5,k6,hK⟩|⟨k0,kY,⟨_,k1,k2,k3,k4,k5,k6⟩,hK⟩
    ·exact P5 ho hd ar aY h hu hz hx o7 h0 ku ns hs (Dq k0) (vA k0) al k1 k2 k3 k4 k5 k6 hK
    ·exact P5 ho hd ar aY h hu hz hx o7 h0 ku ns hs xu kY al k1 k2 k3 k4 k5 k6 hK
   ·exact hv.elim
  |_=>exact hv.elim
theorem Yf{P:Program}{t ty e:TypeId}{n:Nat}(ht:P.underlying t=some (.slice e))(hn:eB P e=some n){base ad:Option Addr}{dl dc sl sc:Nat}(hz:Nat.min sl dl=0)(w:World):
  (Builtin.copy_ #[t,t] ty #[.slice base dl dc,.slice ad sl sc]).run P w= .ok (goInt 0) w:=by
 have hs:=kW hn;cases ad<;>cases base<;>simp[Builtin.copy_,run_underlying ht,hs,Builtin.lenOf,Builtin.firstCells,hz,storeCells,loadCells,loadCellsFrom]
theorem Td{P:Program}{o:Oper}{s x:Operand}{t:TypeId}(ho:o.op= .call { callee:=.builtin .copy,args:= #[s,x],argTypes:= #[t,t] }){vs vx v:Value}{w w':World}(es:a.eval s=vs)(ex:a.eval x=vx)
  (hr:(Builtin.copy_ #[t,t] o.type #[vs,vx]).run P w= .ok v w'):(execOp a.eval o).run P w= .ok (.value v) w':=by
 unfold execOp;simp only[ho,resolve,Kao,Ka0,Kaj,invoke,builtin];simp[es,ex,hr]
theorem Yg{P:Program}(w:World)(t ty elem:TypeId)(g o Me amK n:Nat)(a:Addr)(N1 aqr:Nat)(cur:Array Value)(ty':TypeId)(cs:List Value)
  (hu:P.underlying t=some (.slice elem)) (hs:eB P elem=some n)
  (hg:w.heap[g]? =some (.cells cur ty' (0,0))) (hn:cs.length=Nat.min N1 Me*n)
  (o7:∀j v,cs[j]? =some v->w.cell? (a.add j)=some v) (oY:o+cs.length<=cur.size) (h1:∀v∈cs,v.oneCell'=true):
  (Builtin.copy_ #[t,t] ty #[.slice (some ⟨g,o,none⟩) Me amK,.slice (some a) N1 aqr]).run P w=
   .ok (goInt (Nat.min N1 Me)) (w.setRow g (cur.toList.take o++cs++cur.toList.drop (o+cs.length)).toArray):=by
 have hl:=run_loadCells_list (P:=P) w a cs o7;have aG:=run_storeCells_at P g o ty' cs 0 cur w hg (by simpa using oY) h1;have hz:=kW hs;simp[Builtin.copy_,run_underlying hu,hz,Builtin.lenOf,Builtin.firstCells,<-hn,hl,aG]
theorem abI{o:Oper}{s x:Operand}{t e:TypeId}{n:Nat}{ps px:PV}{d:Nat}{Q:Exit->Act->World->Prop}
  (ho:o.op= .call { callee:=.builtin .copy,args:= #[s,x],argTypes:= #[t,t] }) (hd:o.dst=some d) (ar:d<C.N) (aY:a.defers=[]) (h:aI C ρ fr hp a.tmps w)
  (hu:C.P.underlying t=some (.slice e)) (hn:eB C.P e=some n) (hs:Qt C ρ hp w ps (a.eval s)) (hx:Qt C ρ hp w px (a.eval x))
  (hv:tS n ps px d fr hp K):o.wp C.P a w (cP C false w K) Q:=by
 unfold tS at hv;split at hv
 ·rename_i e' ys β m o7;split at hv
  ·rename_i hb al;obtain⟨k0,k1,k2,k3,k4,hK⟩:=hv;obtain⟨fm,g1,g2,g3⟩:=hs;rw[al]at g1;cases g1;obtain⟨ad,Ch,ex,Bp⟩:=Hu (e:=n) h hx o7 k0 k3;have bn:=h.own β hb al;have zero:Nat.min ys.length m=0->o.wp C.P a w (cP C false w K) Q:=by
    intro h0;have bp:∀base cap,a.eval s= .slice base m cap->(execOp a.eval o).run C.P w= .ok (.value (goInt 0)) w:=fun base cap es=>
     Td ho es ex (Yf (P:=C.P) (ty:=o.type) hu hn h0 w)
    have e2:({ hb with xs:=ys.take m++hb.xs.drop ys.length }:HB)=hb:=by
     have:ys.take m++hb.xs.drop ys.length=hb.xs:=by
      rcases Nat.min_eq_zero_iff.1 h0 with hq|hq
      ·have:ys=[]:=Kcd hq;subst this;simp
      ·have:hb.xs=[]:=Kcd (by omega);subst hq;simp[this]
     rw[this]
    have e3:Qz hp β hb=hp:=by
     funext γ;unfold Qz;split
     ·rename_i he;rw[he,al]
     ·rfl
    rw[e2,e3,show(min (ys.length:Int) (m:Int))=0 by have:min ys.length m=0:=h0;omega]at hK;obtain⟨ad',eY,es⟩:=Qt.NF (C:=C) (ρ:=ρ) (hp:=hp) (w:=w) ⟨hb,al,g2,g3⟩;exact jD (bp _ _ es) (cP.kU hd ar aY h (by simp) (Qt.mkInt _ _) hK)
   by_cases FC:Nat.min ys.length m=0
   ·exact zero FC
   rcases g3 with⟨g3,es,kn,_⟩|⟨b,cap,g3,es,g5,g6⟩
   ·exact(FC (by rw[kn];simp)).elim
   rw[KbI]at es;have qn:ys≠[]:=by rintro rfl;exact FC (by simp)
   obtain⟨sb,off,f,rfl,hf,gN⟩:=Bp qn;have bc:=bn.eg;rw[g3]at bc;obtain⟨b1,b2,cur,eY,c1,c2,c3,c4,c5⟩:=bc;obtain⟨k,hk⟩:∃k,k=min ys.length m:=⟨_,rfl⟩
   have mj:=xc f (k*n);have M6:k*n<=ys.length*n:=Kaf _ (by omega);have jM:∀u∈ga f (k*n),u.oneCell'=true:=by
    intro u jh;obtain⟨q,hq⟩:=KaG jh;obtain⟨jN,rfl⟩:=zH hq;have hi:q/n<ys.length:=(Kbn k0).2 (by omega);have hj:=Kbw q k0;obtain⟨l1,l2,l3⟩:=gN _ _ (Kam hi);have qc:q%n<(ys[q/n]'hi).cells.length:=by omega
    have:=l3 _ _ (Kam qc);rw[KaU,Kbr]at this;exact this.rC.1
   have hkc:k*n<=eY*n:=Kaf _ (by omega);have oY:0+(ga f (k*n)).length<=cur.size:=by rw[mj,c2,k2];omega
   have bp:=Yg (P:=C.P) w t o.type e b 0 m cap n ⟨sb,off,none⟩ ys.length Ch cur hb.ty (ga f (k*n)) hu hn c1 (by rw[mj,hk])
    (fun j v hj=>by obtain⟨fG,rfl⟩:=zH hj;rw[KbA];exact hf j (by omega)) oY jM
   have kN:=zA (cur:=cur) (p:=0) (cs:=ga f (k*n)) oY;have gD:=fun q hq=>zy (cur:=cur) (p:=0) (cs:=ga f (k*n)) (k:=q) oY hq;generalize hW:(cur.toList.take 0++ga f (k*n)++cur.toList.drop (0+(ga f (k*n)).length)).toArray=W at bp kN gD;have dX:(ys.take m++hb.xs.drop ys.length).length=hb.xs.length:=by simp;omega
   have e9:∀(i:Nat)(x:PV),(ys.take m++hb.xs.drop ys.length)[i]? =some x->(i<k/\ys[i]? =some x)∨(k<=i/\hb.xs[i]? =some x):=by
    intro i x aW;rw[Ka3]at aW;have ht:(ys.take m).length=k:=by simp;omega
    rw[ht]at aW;by_cases hi:i<k
    ·rw[if_pos hi,KaM (by omega)]at aW;exact .inl ⟨hi,aW⟩
    ·rw[if_neg hi,Kbb]at aW;refine .inr ⟨by omega,?_⟩;have dq:ys.length+(i-k)<hb.xs.length:=(Kad.1 aW).1
     rwa[show ys.length+(i-k)=i by omega]at aW
   have aG:=h.store β b hb { hb with xs:=ys.take m++hb.xs.drop ys.length } al k1 (by intro e;rw[e]at k4;simp at k4;exact FC (by simp[k4])) g3 (zG w b W) rfl dX k1
    (fun i x aW=>by
     rcases e9 i x aW with⟨_,hq⟩|⟨_,hq⟩
     ·exact⟨by rw[(gN _ x hq).1];exact k2.symm,(gN _ x hq).2.1⟩
     ·exact bn.len i x hq)
    (fun e' AW dU=>by obtain⟨cur',ty',d1,d2⟩:=dU;rw[c1]at d1;cases d1;exact⟨_,_,setRow_heap w b cur _ hb.ty _ c1,by rw[kN];exact d2⟩)
    ⟨W,eY,setRow_heap w b cur W hb.ty _ c1,by rw[kN];exact c2,by rw[dX];exact c3,c4,fun i x aW j y hy=>by
     show Qu w _ y (Array.getD W (i*hb.e+j) undef);rcases e9 i x aW with⟨hi,hq⟩|⟨hi,hq⟩
     ·have hj:j<n:=by have:=(Kad.1 hy).1;have:=(gN _ x hq).1;omega
      have q1:=(vj (n:=0) hi hj).1;rw[k2,gD _ (by rw[c2,k2];omega),if_pos (by omega),Kcm,CU q1];exact(gN _ x hq).2.2 j y hy
     ·have dq:i<hb.xs.length:=(Kad.1 hq).1;have hj:j<hb.e:=by have:=(Kad.1 hy).1;have:=(bn.len i x hq).1;omega
      have:=c5 i x hq j y hy;have q2:k*n<=i*n:=Kaf _ hi;have q3:=(vj (n:=0) (show i<eY by omega) (show j<n by omega)).1;rw[gD _ (by rw[c2,k2];omega),if_neg (by rw[k2];omega)];exact this⟩
   rw[show(min (ys.length:Int) (m:Int))=((Nat.min ys.length m:Nat):Int)by have:Nat.min ys.length m=min ys.length m:=rfl;omega]at hK;exact jD (Td ho es ex bp) (cP.kU hd ar aY aG (by simp) (Qt.mkInt _ _) hK)
  ·exact hv.elim
 ·exact hv.elim
theorem Q7j{o:Oper}{t:TypeId}{parts:Array (Nat×Operand)}{z:PV}{n by_:Nat}{ps:List (Nat×Nat×aP)}{d:Nat}(ho:o.op= .build t parts)(hd:o.dst=some d)(ar:d<C.N)(h:aI C ρ fr hp a.tmps w)
  (hz:jX C.P t=some (n,by_,z)) (gr:AF C.P t parts.toList=some ps)
  (hv:tG z.cells.length (ps.map fun p=>(p.1,p.2.1,ev fr p.2.2))/\K (af fr d (.aX (ir z.cells ((ps.map fun p=>(p.1,p.2.1,ev fr p.2.2)).map fun p=>(p.1,(fI p.2.2).getD []))))) hp):bk C ρ o a w K:=by
 obtain⟨cx,hK⟩:=hv;obtain⟨ti,zv,i1,i2,i3,i4,i5⟩:=rX hz;have Ny:pM (cV C ρ hp w) z.cells zv.cells:=by have h0:Rows w (aH C ρ hp) z.cells zv.cells:=(rJ i5).rows;exact⟨h0.1,fun i x hx=>cV.XG (h0.2 i x hx)⟩
 have qY:(parts.map fun(x:Nat×Operand)=>(x.1,a.eval x.2)).toList=parts.toList.map fun x=>(x.1,a.eval x.2):=by simp
 have key:∀(f:Nat×Operand->Option (Nat×Nat×aP))(place:Nat->Option (Nat×Nat)),parts.toList.mapM f=some ps->(∀x q,f x=some q->place x.1=some (q.1,q.2.1)/\b7 x.2=some q.2.2)->
   ∃eC,Instr.fill place zv.cells (parts.map fun(x:Nat×Operand)=>(x.1,a.eval x.2)).toList=some eC/\
    pM (cV C ρ hp w) (ir z.cells ((ps.map fun p=>(p.1,p.2.1,ev fr p.2.2)).map fun p=>(p.1,(fI p.2.2).getD []))) eC:=by
  intro f place hm hf;rw[qY];refine C6 place _ _ _ _ Ny (by simp[(oG hm).1]) (fun i p q yT uC=>?_);simp only[KcY,Kay,Kaa]at uC;obtain⟨q0,iL,rfl⟩:=uC;obtain⟨x,hx,oZ,rfl⟩:=UZ hm yT iL;obtain⟨f1,f2⟩:=hf x q0 oZ;obtain⟨cs,o1,o2,o3⟩:=cx (q0.1,q0.2.1,ev fr q0.2.2) (KaE.2 ⟨q0,Kai iL,rfl⟩);simp only[Function.comp]at o1 o2 o3⊢;simp only[o1,KbT];obtain⟨r1,r2,_⟩:=P3 (cF h f2) o1;exact⟨by rw[o2];exact f1,⟨r1,r2⟩,by rw[o2];exact o3⟩
 have fin:∀eC,(∀w',(Instr.build t (parts.map fun(x:Nat×Operand)=>(x.1,a.eval x.2))).run C.P w'= .ok (.agg eC) w')->
   pM (cV C ρ hp w) (ir z.cells ((ps.map fun p=>(p.1,p.2.1,ev fr p.2.2)).map fun p=>(p.1,(fI p.2.2).getD []))) eC->bk C ρ o a w K:=by
  intro eC bp hr;refine⟨.agg eC,fun w'=>?_,_,_,by rw[hd];exact h.af (p:=.aX _) ⟨eC,rfl,hr.1,hr.2⟩ ar,hK⟩;unfold execOp;simp only[ho,Kao];have:=bp w';rw[show(parts.map fun(x:Nat×Operand)=>(x.1,a.eval x.2))=(parts.map fun x=>match x with|(i,x)=>(i,a.eval x))from rfl]at this;rw[this];rfl
 unfold AF at gr;split at gr
 ·rename_i fs hu;simp only[Kab]at gr;obtain⟨pl,gS,hm⟩:=gr;obtain⟨eC,g1,g2⟩:=key _ (fun i=>pl[i]?) hm (fun x q hq=>by simp only[Kab,Kaa]at hq;obtain⟨r,hr,y,hy,rfl⟩:=hq;exact⟨by simpa using hr,hy⟩);refine fin eC (fun w'=>?_) g2;unfold Instr.build;have jf:=run_places (P:=C.P) w' fs.toList pl gS;simp[Kao,uY i1 i2,iB hu,Kb6,jf]at g1⊢;simp[g1]
 ·rename_i len e hu;simp only[Kab]at gr;obtain⟨m,kn,hm⟩:=gr;obtain⟨eC,g1,g2⟩:=key _ (fun i=>some (i*m,m)) hm (fun x q hq=>by simp only[Kaa]at hq;obtain⟨y,hy,rfl⟩:=hq;exact⟨rfl,hy⟩);refine fin eC (fun w'=>?_) g2;unfold Instr.build;simp only[Kao,uY i1 i2,iB hu,kW kn,Kaj,g1,Ka0]
 ·simp at gr
end Go.FW
namespace Go.FW
open Go
variable {C : Ctx} {ρ : Nat -> Option Nat} {fr : Fr} {hp : HP} {tmps : Array Value} {w : World} {a : Act} {K : Qh}
theorem Hc{x:PV}(h:lT x=true):∃β n,x= .ax β 0 n/\5000000<=β:=by
 unfold lT at h;split at h
 ·exact⟨_,_,rfl,by simpa using h⟩
 ·cases h
theorem U'{γ:Nat}:iR γ (fT γ fr)=fT γ fr:=by
 funext i;unfold iR fT;generalize fr i=p;cases p with
 |aN bF e ty xs=>
  simp only[dh];split
  ·rfl
  ·rename_i aO;simp[jo,aO]
 |aM bF o n=>simp only[dh];split<;>rfl
 |np bF o n=>simp only[dh];split<;>rfl
 |fn f first cap=>
  simp only[dh];split
  ·rfl
  ·unfold bZ;split<;>rfl
 |aX cs=>rfl
 |ff cs=>rfl
 |fg cs q=>rfl
 |_=>simp only[dh,bZ];split<;>rfl
theorem xE{γ β o n:Nat}{b':Option Nat}{aw:HB}{w':World}{v:Value}(h:aI C ρ fr hp tmps w)(hx:Ext (fun b=>ρ γ=some b/\∃hb,hp γ=some hb/\hb.fz=false) w w')(aO:β≠γ)
  (hr:eU ρ hp w β o n v):eU (rb ρ γ b') (Qz hp γ aw) w' β o n v:=
 eU.move hr ⟨oL aO,fun hb al=>⟨hb,by simp[Qz,aO,al],rfl,Kac _,fun b cap h1 h2=>
  mK (hx.block b (mL h2) (fun⟨e1,nk,e2,_⟩=>aO (h.inj β γ b (by simp[al]) (by simp[e2]) h1 e1))) h2⟩⟩
theorem eU.slice{β o n:Nat}{v:Value}(h:eU ρ hp w β o n v):∃ad m c,v= .slice ad m c:=by
 obtain⟨_,_,_,⟨_,e,_⟩|⟨_,_,_,e,_⟩⟩:=h
 ·exact⟨_,_,_,e⟩
 ·exact⟨_,_,_,e⟩
theorem Ey{β:Nat}(h:1000000<=β):cd β=true:=by simp[cd];omega
theorem Iw{β:Nat}(h:2000000<=β):bN β=false:=by simp[bN];omega
theorem aI.FZ{γ b ty cap:Nat}{cur:Array Value}{xs:List PV}(h:aI C ρ (fT γ fr) hp tmps w)(hB:cd γ=true)(ak:hp γ=some ⟨1,ty,[],false⟩)(bE:ρ γ=some b)
  (h1:w.heap[b]? =some (.cells cur ty (0,0))) (h2:cur.size=cap) (h3:xs.length<=cap) (h4:cap<=maxLen) (hr:xs.all lT=true)
  (h6:∀(i β n:Nat),xs[i]? =some (.ax β 0 n)->eU ρ hp w β 0 n (cur.getD i undef)):aI C ρ (FW.af (fT γ fr) γ (.aN γ 1 ty xs)) hp tmps w:=by
 have fX:∀(i:Nat)(x:PV),xs[i]? =some x->∃β n,x= .ax β 0 n/\5000000<=β:=fun i x hx=>Hc (Kav.1 hr _ (Kai hx));have:=h.NI (w':=w) (γ:=γ) (b:=b) (e:=1) (ty:=ty) (xs':=xs) (cur':=cur) (cap:=cap) hB (by omega) ak rfl rfl rfl rfl bE (Ext.refl _ _) (fun _ _ h=>h) h1 (by omega) h3 h4
  (fun i x hx=>by obtain⟨β,n,rfl,_⟩:=fX i x hx;rfl)
  (fun i x hx j y hy=>by
   obtain⟨β,n,rfl,al⟩:=fX i x hx;rw[show(PV.ax β 0 n).bl=[.ax β 0 n]from rfl]at hy;have hj:j<1:=by have:=(Kad.1 hy).1;simpa using this
   obtain rfl:j=0:=by omega
   simp at hy;subst hy;rw[KbF,KaS];exact⟨Ey (by omega),h6 i β n hx⟩)
 rwa[U']at this
theorem Et{γ k cap:Nat}{bf:Nat->Option Nat}{an:HP}{b ty:Nat}{cur:Array Value}(hB:cd γ=true)(h1:an γ=some ⟨1,ty,[],false⟩)(h2:bf γ=some b)(h3:w.heap[b]? =some (.cells cur ty (0,0)))(h4:cur.size=cap)(h5:cap<=maxLen)(h6:k<=cap):
  Qt C bf an w (.aM γ 0 k) (.slice (some ⟨b,0,none⟩) k cap):=
 ⟨hB,⟨1,ty,[],false⟩,b,cap,h1,h2,by simp,⟨cur,ty,h3,by simp[h4]⟩,by omega,h6⟩
theorem abJ{o:Oper}{t e:TypeId}{len n by_:Nat}{z:PV}{parts:Array (Nat×Operand)}{ps:List aP}{d:Nat}{Q:Exit->Act->World->Prop}(ho:o.op= .buildSlice t len parts)(hd:o.dst=some d)(ar:d<C.N)(aY:a.defers=[])(h:aI C ρ fr hp a.tmps w)
  (hu:C.P.underlying t=some (.slice e)) (hz:jX C.P e=some (n,by_,z)) (qi:parts.toList.map (·.1)=List.range len) (ku:z.cells.length=n) (gr:(parts.toList.mapM fun p=>b7 p.2)=some ps)
  (Wf:oO (ps.map (ev fr))=true) (hv:Vu n e (ps.map (ev fr)) d fr hp K):o.wp C.P a w (cP C true w K) Q:=by
 obtain⟨rfl,hK⟩:=hv;obtain⟨ti,zv,i1,i2,i3,i4,i5⟩:=rX hz;obtain⟨m1,m2⟩:=oG gr;obtain⟨u,rfl⟩:∃u,ps=[u]:=by
  match ps,Wf with
  | [],hb=>simp[oO]at hb
  | [u],_=>exact⟨u,rfl⟩
  |u::v::ps,hb=>simp[oO]at hb
 have fX:lT (ev fr u)=true:=by simpa[oO]using Wf
 obtain⟨β,m,qY,al⟩:=Hc fX;obtain⟨⟨i,x⟩,wE⟩:∃p,parts.toList=[p]:=by
  match hq:parts.toList with
  | []=>rw[hq]at m1;simp at m1
  | [p]=>exact⟨p,rfl⟩
  |p::q::r=>rw[hq]at m1;simp at m1
 rw[wE]at qi m2;obtain rfl:len=1:=by have:=congrArg List.length qi;simpa using this.symm
 obtain rfl:i=0:=by simpa using qi
 have hxu:b7 x=some u:=by obtain⟨x',aW,wD⟩:=m2 0 u rfl;simp at aW;subst aW;exact wD
 have hx:=cF h hxu;rw[qY]at hx;have uD:eU ρ hp w β 0 m (a.eval x):=hx;obtain⟨ad,m',c',hvx⟩:=uD.slice;have hN:=C.hN;have sG:de d<5000000:=by unfold de;omega
 have hB:cd (de d)=true:=Ey (by unfold de;omega);have hY:bN (de d)=false:=Iw (by unfold de;omega);obtain⟨hs,he⟩:=h.wR (de d) hY xu ⟨1,e,[],false⟩ #[a.eval x] 1 _ (.inl rfl) (by simp) (by simp) (by rw[lO];omega) (by simp) (by simp) (by simp);have fw:=hs.FZ (cur:= #[a.eval x]) (cap:=1) (xs:=[.ax β 0 m]) hB (by simp[Qz]) (gW _ _ _) (mE w _) (by simp) (by simp) (by rw[lO];omega) (by simp[lT,al]) (fun i dB n' hi=>by
  match i,hi with
  |0,hi=>simp at hi;obtain⟨rfl,rfl⟩:=hi;exact xE h (Ext.alloc w _ _) (by omega) uD
  |i+1,hi=>simp at hi)
 rw[Kbd,Kbu,qY]at hK;refine jD (v:=.slice (some ⟨w.heap.size,0,none⟩) 1 1) ?_ (cP.kU hd ar aY fw (fun _=>he) (Et hB (by simp[Qz]) (gW _ _ _) (mE w _) (by simp) (by rw[lO];omega) (by omega)) hK);unfold execOp;have BH:(parts.map fun x=>match x with|(i,x)=>(i,a.eval x)).toList=[(0,a.eval x)]:=by simp[wE]
 simp only[ho,Instr.buildSlice,Kao,iB hu,Kaj,kW (show eB C.P e=some 1 by simp[eB,i1,i3]),BH];simp[Ka0,Kao,uY i1 i2,Instr.fill,hvx,Value.cells,newRow,show Array.range 1= #[0]from rfl]
theorem Q7k{o:Oper}{t:TypeId}{n:Nat}{x:Operand}{cs:List PV}{d:Nat}{Q:Exit->Act->World->Prop}(ho:o.op= .box t x)(hd:o.dst=some d)(ar:d<C.N)(aY:a.defers=[])(h:aI C ρ fr hp a.tmps w)
  (hx:Qt C ρ hp w (.aX cs) (a.eval x)) (hv:tR n t cs d fr hp K):o.wp C.P a w (cP C true w K) Q:=by
 obtain⟨⟨hlen,hn,hU,rk⟩,hK⟩:=hv;obtain⟨vs,ex,fY,jK⟩:=hx;have hN:=C.hN;have hB:cd (de d)=true:=Ey (by unfold de;omega);have hY:bN (de d)=false:=Iw (by unfold de;omega);obtain⟨hs,he⟩:=h.wR (de d) hY xu ⟨n,t,[],false⟩ vs 1 _ (.inl rfl) (by simp;omega) (by simp) (by rw[lO];omega) hn (by simp) (by simp);have cJ:∀(i:Nat)(y:PV),cs[i]? =some y->cV C (rb ρ (de d) (some w.heap.size)) (Qz hp (de d) ⟨n,t,[],false⟩) (w.alloc (.cells vs t)) y (vs.getD i undef):=fun i y hi=>by
  have hm:=Kai hi;have WX:∀β∈y.dZ,β≠de d:=fun β al e=>by have:=Kav.1 rk y hm;subst e;simp[al]at this
  refine(jK i y hi).move ⟨fun b hb _=>CS w _ b hb,fun b hb hX=>?_,by rw[CT];omega⟩ (fun β al=>⟨oL (WX β al),fun hb hh=>⟨hb,by simp[Qz,WX β al,hh],rfl,Kac _,fun b cap _ hc=>mK (CS w _ b (mL hc)) hc⟩⟩);rintro(bw|⟨γ,hg,h1,h2,h3⟩)
  ·exact hX (.inl bw)
  ·by_cases ak:γ=de d
   ·subst ak;rw[gW]at h3;cases h3;omega
   ·refine hX (.inr ⟨γ,hg,?_,h2,by rwa[oL ak]at h3⟩);simpa[Qz,ak]using h1
 have:=hs.NI (w':=w.alloc (.cells vs t)) (γ:=de d) (b:=w.heap.size) (e:=n) (ty:=t) (xs':=[.aX cs]) (cur':=vs) (cap:=1) hB hn (show Qz hp (de d) ⟨n,t,[],false⟩ (de d)=some ⟨n,t,[],false⟩by simp[Qz]) rfl rfl rfl rfl (gW _ _ _) (Ext.refl _ _) (fun _ _ h=>h) (mE w _) (by omega) (by simp) (by rw[lO];omega)
  (fun i x hx=>by
   match i,hx with
   |0,hx=>simp at hx;subst hx;exact hlen
   |i+1,hx=>simp at hx)
  (fun i x hx j y hy=>by
   match i,hx with
   |0,hx=>simp at hx;subst hx;rw[KbI,Kbe];exact cJ j y hy
   |i+1,hx=>simp at hx)
 rw[U']at this;refine jD (v:=.pointer (some ⟨w.heap.size,0,none⟩)) (w':=w.alloc (.cells vs t)) ?_ (cP.kU (p:=.np (de d) 0 0) hd ar aY this (fun _=>he) ⟨hB,w.heap.size,⟨n,t,[],false⟩,gW _ _ _,by simp[Qz],by simp⟩ hK);unfold execOp;simp only[ho,Instr.box,newVar,newRow,ex,Value.cells];simp
theorem Q7l{o:Oper}{t:TypeId}{n:Nat}{x:Operand}{px:PV}{d:Nat}{Q:Exit->Act->World->Prop}(ho:o.op= .box t x)(hd:o.dst=some d)(ar:d<C.N)(aY:a.defers=[])(h:aI C ρ fr hp a.tmps w)
  (hx:Qt C ρ hp w px (a.eval x)) (hv:gd n t px d fr hp K):o.wp C.P a w (cP C true w K) Q:=
 abF ho hd ar aY h hx (fun _ e hb=>Q7k ho hd ar aY h (e▸hx) hb) hv
theorem Q7m {o:Oper} {s x:Operand} {t e:TypeId} {n by_:Nat} {z:PV} {ps px:PV} {d:Nat} {Q:Exit->Act->World->Prop}
  (ho:o.op= .call { callee:=.builtin .append,args:= #[s,x],argTypes:= #[t,t] }) (hd:o.dst=some d) (ar:d<C.N) (aY:a.defers=[]) (h:aI C ρ fr hp a.tmps w)
  (hu:C.P.underlying t=some (.slice e)) (hz:jX C.P e=some (n,by_,z)) (ku:z.cells.length=n) (hs:Qt C ρ hp w ps (a.eval s)) (hx:Qt C ρ hp w px (a.eval x))
  (hv:yn n by_ e ps px d fr hp K):o.wp C.P a w (cP C false w K) Q:=by
 obtain⟨ti,zv,i1,i2,i3,i4,i5⟩:=rX hz;have hN:=C.hN;have sG:de d<5000000:=by unfold de;omega
 have VE:cd (de d)=true:=Ey (by unfold de;omega);have hYd:bN (de d)=false:=Iw (by unfold de;omega);unfold yn at hv;split at hv
 ·rename_i δ;split at hv
  ·rename_i N5 ty' y aov;obtain⟨rfl,hyr,rfl,hv⟩:=hv;obtain⟨β,m,rfl,al⟩:=Hc hyr;obtain⟨_,aq2,b,cap,gδ,rδ,ex,_,_,_⟩:=hx;have Bs:=h.fh N5;rw[aov]at Bs;obtain⟨_,_,b2,fm,cur,AW,q1,q2,q3,q4,q5,q6,q7,q8,q9,_,iA⟩:=Bs;rw[gδ]at q2;cases q2;rw[rδ]at q1;cases q1;rw[KbI]at ex;have fu:=iA 0 _ rfl 0 (.ax β 0 m) rfl;simp only[KbI,Kbe]at fu;have uD:eU ρ hp w β 0 m (cur.getD 0 undef):=fu.2;obtain⟨ad,m',c',Fo⟩:=uD.slice;have h0s:0<cur.size:=by simp at q8;omega
   have pW:w.cell? ⟨b,0,none⟩=some (cur.getD 0 undef):=lM q6 h0s;obtain⟨u,BP⟩:∃u,cur.getD 0 undef=u:=⟨_,rfl⟩
   rw[BP]at uD Fo pW;have yR:∀(j:Nat)(v:Value),[u][j]? =some v->w.cell? ((⟨b,0,none⟩:Addr).add j)=some v:=fun j v hj=>by
    have hj0:j<1:=by have:=(Kad.1 hj).1;simpa using this
    obtain rfl:j=0:=by omega
    simp at hj;subst hj;rw[KbA,KaS];exact pW
   have sY:zv.cells.size=1:=by have:=(rJ (w:=w) (X:=aH C ρ hp) i5).cells.1;omega
   split at hv
   ·obtain⟨hb,hK⟩:=hv;have es:=hs.wS;have bp:=run_append_nil (P:=C.P) w t o.type e ti zv hu i1 i2 ⟨b,0,none⟩ 1 cap [u] (by simp[i3]) yR (by omega) (by omega) (by rw[i4];omega);have gm:=grownCap_ge w 1 0 e;have ja:=grownCap_le_maxLen w 1 0 e (by rw[lO];omega);generalize grownCap w 1 0 e=G at bp gm ja;have jK:([u].toArray++Builtin.zeroCells zv.cells (G-1)).size=G:=by simp[size_zeroCells,sY];omega
    have an5:([u].toArray++Builtin.zeroCells zv.cells (G-1)).size=G*1:=by omega
    have iw:([u].toArray++Builtin.zeroCells zv.cells (G-1)).getD 0 undef=u:=by rw[kX,if_pos (by simp),uZ];rfl
    obtain⟨gC,_⟩:=h.wR (de d) hYd xu ⟨1,e,[],false⟩ ([u].toArray++Builtin.zeroCells zv.cells (G-1)) G _ (.inr rfl) an5 (by simp) ja (by simp) (by simp) (by simp);have fw:=gC.FZ (cap:=G) (xs:=[.ax β 0 m]) VE (by simp[Qz]) (gW _ _ _) (mE w.drew _) jK (by simpa using gm) ja (by simp[lT,al]) (fun i dB n' hi=>by
     match i,hi with
     |0,hi=>simp at hi;obtain⟨rfl,rfl⟩:=hi;rw[iw];exact xE h ((Ext.drew w _).trans (Ext.alloc w.drew _ _)) (by omega) uD
     |i+1,hi=>simp at hi)
    exact jD (te ho es ex bp) (cP.kU hd ar aY fw (by simp) (Et VE (by simp[Qz]) (gW _ _ _) (mE w.drew _) jK ja gm) hK)
   ·rename_i γ k;split at hv
    ·rename_i bF oE xs aou;obtain⟨⟨rfl,arR,hY,rfl,rfl,FQ,MJ,BD⟩,⟨hb,ak,ma⟩,hK⟩:=hv;obtain⟨hB,MI,b1,EI,g1,g2,es,g4,g5,g6⟩:=hs;rw[ak]at g1;cases g1;have Bs:=h.fh bF;rw[aou]at Bs;obtain⟨_,_,Jf,aw,lu,sw,p1,p2,p3,p4,p5,p6,p7,p8,p9,_,p11⟩:=Bs;rw[ak]at p2;cases p2;rw[g2]at p1;cases p1;rw[KbI]at es;obtain⟨aqN,arU,d1,d2⟩:=g4;rw[p6]at d1;cases d1;rw[p4,KbF,Kbe]at d2;rw[KbF]at p7;obtain rfl:sw=EI:=by omega
     have W5:∀(i dB n':Nat),xs[i]? =some (.ax dB 0 n')->eU ρ hp w dB 0 n' (lu.getD i undef):=fun i dB n' hi=>by have:=p11 i _ hi 0 (.ax dB 0 n') rfl;simp only[KbF,KaS]at this;exact this.2
     have W7:∀(i dB n':Nat),xs[i]? =some (.ax dB 0 n')->dB≠bF:=fun i dB n' hi=>by have:=Kav.1 FQ _ (Kai hi);simp[lT]at this;omega
     have bz:(xs++[PV.ax β 0 m]).all lT=true:=by rw[List.all_append,FQ];simp[lT,al]
     have bn:=(h.own bF hb ak).eg;rw[g2]at bn;obtain⟨o1,o2,_⟩:=bn;replace o1:=Ctx.EJ o1 hY;have jM:∀u'∈[u],u'.oneCell'=true:=by intro u' jh;simp at jh;subst jh;rw[Fo];rfl
     by_cases yV:xs.length+1<=sw
     ·have bp:=run_append_room (P:=C.P) w t o.type oE ti hu i1 b1 xs.length sw lu p6 ⟨b,0,none⟩ 1 cap [u] (by simp[i3]) yR jM yV (by simp[i3];omega);rw[i3,KbF]at bp;have oY:xs.length+[u].length<=lu.size:=by simp;omega
      have kN:=zA (cur:=lu) (p:=xs.length) (cs:=[u]) oY;have gD:=fun k hk=>zy (cur:=lu) (p:=xs.length) (cs:=[u]) (k:=k) oY hk;generalize hW:(lu.toList.take xs.length++[u]++lu.toList.drop (xs.length+[u].length)).toArray=W at bp kN gD;have hE:Ext (fun c=>ρ bF=some c/\∃hb,hp bF=some hb/\hb.fz=false) w (w.setRow b1 W):=(zG w b1 W).mono (fun i _ hi=>⟨hi▸g2,hb,ak,ma⟩);have MZ:(w.setRow b1 W).heap[b1]? =some (.cells W oE (0,0)):=setRow_heap w b1 lu W oE _ p6;have gC:=h.zb (w':=w.setRow b1 W) bF (some b1) ⟨1,oE,[],false⟩ hY xu hE
       (fun c hc=>by cases hc;exact⟨o1,by simpa using o2,.inr ⟨g2,hb,ak,ma⟩⟩) (by simp) (by simp) (by simp)
       (fun c hc=>by cases hc;exact⟨W,sw,MZ,by simp[kN];omega,by simp,p9,by simp⟩)
      have fw:=gC.FZ (cap:=sw) (xs:=xs++[.ax β 0 m]) hB (by simp[Qz]) (gW _ _ _) MZ (by omega) (by simpa using yV) p9 bz (fun i dB n' hi=>by
       rw[Ka3]at hi;by_cases dq:i<xs.length
       ·rw[if_pos dq]at hi;rw[gD i (by omega),if_neg (by omega)];exact xE h hE (W7 i dB n' hi) (W5 i dB n' hi)
       ·rw[if_neg dq]at hi;have qb:i-xs.length<1:=by have:=(Kad.1 hi).1;simpa using this
        obtain rfl:i=xs.length:=by omega
        rw[KbP]at hi;simp at hi;obtain⟨rfl,rfl⟩:=hi;rw[gD _ (by omega),if_pos (by simp),KbP];exact xE h hE (by omega) uD)
      exact jD (te ho es ex bp) (cP.kU hd ar aY fw (by simp) (Et hB (by simp[Qz]) (gW _ _ _) MZ (by omega) p9 yV) hK)
     ·have fN:(lu.toList.take xs.length).length=xs.length:=by simp;omega
      have holds:∀(j:Nat)(v:Value),(lu.toList.take xs.length)[j]? =some v->w.cell? ((⟨b1,0,none⟩:Addr).add j)=some v:=fun j v hj=>by
       have fG:j<xs.length:=by have:=(Kad.1 hj).1;omega
       rw[KaM fG]at hj;rw[KbA,Kbe,lM p6 (by omega),CR lu j v hj]
      have bp:=run_append_grow (P:=C.P) w t o.type oE ti zv hu i1 i2 ⟨b1,0,none⟩ xs.length sw (lu.toList.take xs.length) (by rw[fN,i3,KbF]) holds ⟨b,0,none⟩ 1 cap [u] (by simp[i3]) yR
       (by omega) (by omega) (growslice_fits (by omega) (by rw[i4];exact MJ))
      have gm:=grownCap_ge w (xs.length+1) sw oE;have ja:=grownCap_le_maxLen w (xs.length+1) sw oE (by rw[lO];exact BD);generalize grownCap w (xs.length+1) sw oE=G at bp gm ja;have jK:((lu.toList.take xs.length).toArray++[u].toArray++Builtin.zeroCells zv.cells (G-(xs.length+1))).size=G:=by simp only[Kcj,KbM,fN,size_zeroCells,sY,KaW,Kbj];omega
      have eH:∀i,i<xs.length+1->((lu.toList.take xs.length).toArray++[u].toArray++Builtin.zeroCells zv.cells (G-(xs.length+1))).getD i undef=if i<xs.length then lu.getD i undef else u:=fun i hi=>by
       rw[kX,if_pos (by simp only[Kcj,KbM,fN,KaW,Kbj];omega),kX,KbM,fN];by_cases dq:i<xs.length
       ·rw[if_pos dq,if_pos dq,uZ,Kal,KaM dq];simp[KaZ]
       ·rw[if_neg dq,if_neg dq,uZ,show i-xs.length=0 by omega];rfl
      generalize hW:(lu.toList.take xs.length).toArray++[u].toArray++Builtin.zeroCells zv.cells (G-(xs.length+1))=W at bp jK eH;obtain⟨gC,_⟩:=h.wR bF hY xu ⟨1,oE,[],false⟩ W G _ (.inr rfl) (by simp[jK]) (by simp) ja (by simp) (by simp) (by simp);have hE:Ext (fun c=>ρ bF=some c/\∃hb,hp bF=some hb/\hb.fz=false) w (w.drew.alloc (.cells W oE)):=(Ext.drew w _).trans (Ext.alloc w.drew _ _);have fw:=gC.FZ (cap:=G) (xs:=xs++[.ax β 0 m]) hB (by simp[Qz]) (gW _ _ _) (mE w.drew _) jK (by simpa using gm) ja bz (fun i dB n' hi=>by
       rw[Ka3]at hi;by_cases dq:i<xs.length
       ·rw[if_pos dq]at hi;rw[eH i (by omega),if_pos dq];exact xE h hE (W7 i dB n' hi) (W5 i dB n' hi)
       ·rw[if_neg dq]at hi;have qb:i-xs.length<1:=by have:=(Kad.1 hi).1;simpa using this
        obtain rfl:i=xs.length:=by omega
        rw[KbP]at hi;simp at hi;obtain⟨rfl,rfl⟩:=hi;rw[eH _ (by omega),if_neg (by omega)];exact xE h hE (by omega) uD)
      exact jD (te ho es ex bp) (cP.kU hd ar aY fw (by simp) (Et hB (by simp[Qz]) (gW _ _ _) (mE w.drew _) jK ja gm) hK)
    ·exact hv.elim
   ·exact hv.elim
  ·exact hv.elim
 ·exact hv.elim
theorem abK{o:Oper}{t e:TypeId}{len n by_:Nat}{z:PV}{parts:Array (Nat×Operand)}{ps:List aP}{d:Nat}{Q:Exit->Act->World->Prop}(ho:o.op= .buildSlice t len parts)(hd:o.dst=some d)(ar:d<C.N)(aY:a.defers=[])(h:aI C ρ fr hp a.tmps w)
  (hu:C.P.underlying t=some (.slice e)) (hz:jX C.P e=some (n,by_,z)) (qi:parts.toList.map (·.1)=List.range len) (Xf:len*n<=16777216) (ku:z.cells.length=n) (gr:(parts.toList.mapM fun p=>b7 p.2)=some ps)
  (hv:og n e (ps.map (ev fr)) d fr hp K):o.wp C.P a w (cP C true w K) Q:=by
 unfold og at hv;split at hv
 ·rename_i hb;exact abJ ho hd ar aY h hu hz qi ku gr hb hv
 ·exact adu ho hd ar aY h hu hz qi Xf ku gr hv
theorem Q7n{o:Oper}{s x:Operand}{t e:TypeId}{n by_:Nat}{z:PV}{ps px:PV}{d:Nat}{Q:Exit->Act->World->Prop}
  (ho:o.op= .call { callee:=.builtin .append,args:= #[s,x],argTypes:= #[t,t] }) (hd:o.dst=some d) (ar:d<C.N) (aY:a.defers=[]) (h:aI C ρ fr hp a.tmps w)
  (hu:C.P.underlying t=some (.slice e)) (hz:jX C.P e=some (n,by_,z)) (ku:z.cells.length=n) (hs:Qt C ρ hp w ps (a.eval s)) (hx:Qt C ρ hp w px (a.eval x))
  (hv:iU n by_ e ps px d fr hp K):o.wp C.P a w (cP C false w K) Q:=
 abH ho hd ar aY h hu hz ku hs hx (fun _ hn=>Q7m ho hd ar aY h hu hz ku hs hx hn) hv
end Go.FW
namespace Go.FW
open Go
variable {C : Ctx} {ρ : Nat -> Option Nat} {fr : Fr} {hp : HP} {w : World} {a : Act} {K : Qh}
theorem Yn {P : Program} {g : FuncId} (hg : (P.funcs[g]?).any (fun fn => fn.body.isSome && fn.name != "runtime.NumGoroutine") = true) (args : Array Value) (w : World) :
  (callFunc g args).run P w= .ok (.enter g args) w:=by
 cases hf:P.funcs[g]? with
 |none=>simp[hf]at hg
 |some fn=>
  simp only[hf,Option.any_some,Kat,bne_iff_ne,ne_eq]at hg;obtain⟨h1,h2⟩:=hg;have h3:fn.body.isNone=false:=by cases hb:fn.body<;>simp[hb]at h1⊢
  have h4 : (fn.name == "runtime.NumGoroutine") = false := by simpa using h2
  have hn:¬(fn.body=none):=fun he=>by simp[he]at h1
  unfold callFunc;simp[hf,h2,hn]
theorem Q7o{o:Oper}{f:Operand}{args:Array Operand}{ts:Array TypeId}{pf:aP}{dk:List aP}{pr:Bool}{Q:Exit->Act->World->Prop}
  (ho:o.op= .call { callee:=.value f,args:=args,argTypes:=ts }) (ar:∀d,o.dst=some d->d<C.N) (aY:a.defers=[]) (h:aI C ρ fr hp a.tmps w)
  (hf:b7 f=some pf) (dT:args.toList.mapM b7=some dk) (hv:mQ C pr (ev fr pf) (dk.map (ev fr)) o.dst fr hp K):o.wp C.P a w (cP C pr w K) Q:=by
 have yL:=cF h hf;unfold mQ at hv;split at hv
 ·rename_i g first cap qY
  rw[qY]at yL;obtain⟨hg,an1⟩:=hv;obtain⟨fv,cv,ef,h1,h2,h3,h4⟩:=yL;obtain⟨m1,m2⟩:=H8 h dT;have aoZ:(args.toList.map a.eval).toArray=args.map a.eval:=Array.ext' (by simp);rw[aoZ]at m2;have hc:=an1 ρ a.tmps w fv cv (args.map a.eval) ar h h1 h2 (by simpa using m1.symm) h3 h4 m2;have hex:(execOp a.eval o).run C.P w= .ok (.enter g (fv++args.map a.eval++cv)) w:=by unfold execOp;simp only[ho,resolve,Kao,Ka0,Kaj,ef,Deferred.ofValue,invoke];rw[Yn hg]
  unfold Oper.wp;rw[hex];refine hc.mono fun e w' an=>?_;obtain⟨v,ay,an,rfl,hs,hx,hK⟩:=an;refine⟨by rw[vf];exact aY,⟨ay,an,?_,hK⟩,hx⟩;cases hd:o.dst with
  |some d=>rw[hd]at hs;exact hs
  |none=>rw[hd]at hs;exact hs
 ·exact hv.elim
theorem tq{α:Type}{xs:Array α}{l:List α}(h:xs.toList=l):xs=l.toArray:=by subst h;simp
theorem Ad{P:Program}{t e:TypeId}(h:sg P t=some e):P.underlying t=some (.slice e):=by
 unfold sg at h;split at h
 ·rename_i hq;cases h;exact hq
 ·cases h
theorem TJ{dr:Bool}{o:Oper}(cz:(fZ C.P dr o).cls=0)(ar:∀d,o.dst=some d->d<C.N)(h:aI C ρ fr hp a.tmps w)(hv:bu C (fZ C.P dr o) fr hp K):bk C ρ o a w K:=by
 unfold fZ at cz hv;cases ae:mF C.P dr o with
 |none=>rw[ae]at hv;exact hv.elim
 | some so=>
  rw[ae]at cz hv;simp only[KbT]at cz hv;unfold mF at ae;split at ae
  case h_1 x d hop hd=>simp only[Kaa]at ae;obtain⟨y,hy,rfl⟩:=ae;exact OQ (.inl hop) hd (ar d hd) h (cF h hy) hv
  case h_2 x d hop hd=>simp only[Kaa]at ae;obtain⟨y,hy,rfl⟩:=ae;exact OQ (.inr hop) hd (ar d hd) h (cF h hy) hv
  case h_3 c x y d hop hd=>
   simp only[Kab,Kaa]at ae;obtain⟨pc,hc,px,hx,py,hy,rfl⟩:=ae;exact Q7f hop hd (ar d hd) h (cF h hc) (cF h hx) (cF h hy) hv
  case h_4 op t x y t2 d hop hd=>
   simp only[Kab,Kaa]at ae;obtain⟨px,hx,py,hy,rfl⟩:=ae;unfold zk at hv;split at hv
   ·rename_i ng wC;split at wC
    ·rename_i fw;exact Q96 hop wC fw hd (ar d hd) h (cF h hx) (cF h hy) hv
    ·cases wC
   split at hv
   ·rename_i ng wC;split at wC
    ·rename_i fw;exact Q94 hop wC fw hd (ar d hd) h (cF h hx) (cF h hy) hv
    ·cases wC
   refine Q90 hop hd (ar d hd) h (cF h hx) (cF h hy) (fun hb=>?_) hv;split at hb
   ·assumption
   ·cases hb
  case h_5 op t x d hop hd=>simp only[Kaa]at ae;obtain⟨y,hy,rfl⟩:=ae;exact acV hop hd (ar d hd) h (cF h hy) hv
  case h_6 s t x d hop hd=>
   split at ae
   ·rename_i ds k hS hT;simp only[Kaa]at ae;obtain⟨y,hy,rfl⟩:=ae;exact Q7e hop hd (ar d hd) h hS hT (cF h hy) hv
   ·cases ae
  case h_7 t x i d hop hd=>
   simp only[Kab]at ae;obtain⟨px,hx,pi,hi,ae⟩:=ae;split at ae
   ·rename_i e hu;simp only[Kaa]at ae;obtain⟨n,hn,rfl⟩:=ae;exact Q97 hop hd (ar d hd) h hu hn (cF h hx) (cF h hi) hv
   ·rename_i len e hu;simp only[Kaa]at ae;obtain⟨n,hn,rfl⟩:=ae;exact Q7g hop hd (ar d hd) h hu hn (cF h hx) (cF h hi) hv
   ·cases ae
  case h_8 t x i d hop hd=>
   simp only[Kab]at ae;obtain⟨px,hx,pi,hi,ae⟩:=ae;split at ae
   ·rename_i len e hu;simp only[Kab,Kaa]at ae;obtain⟨n,hn,ag,kf,rfl⟩:=ae;exact abD hop hd (ar d hd) h hu hn kf (cF h hx) (cF h hi) hv
   ·rename_i hu;cases ae;exact Q99 hop hd (ar d hd) h hu (cF h hx) (cF h hi) hv
   ·cases ae
  case h_9 t x j d hop hd=>
   simp only[Kab]at ae;obtain⟨px,hx,ae⟩:=ae;split at ae
   ·rename_i fs hu;simp only[Kab]at ae;obtain⟨f,hf,n,hn,ae⟩:=ae;split at ae
    ·cases ae
    ·rename_i mi;simp only[KaB]at ae;subst ae;exact Q98 hop hd (ar d hd) h hu hf hn mi (cF h hx) hv
   ·cases ae
  case h_10 t x j d hop hd=>
   simp only[Kab]at ae;obtain⟨px,hx,ae⟩:=ae;split at ae
   ·rename_i fs hu;simp only[Kab,Kaa]at ae;obtain⟨f,hf,n,hn,ag,kf,rfl⟩:=ae;exact Q7h hop hd (ar d hd) h hu hf hn kf (cF h hx) hv
   ·cases ae
  case h_17 t parts d hop hd=>
   simp only[Kab,Kaa]at ae;obtain⟨⟨n,by_,z⟩,hz,ps,gr,rfl⟩:=ae;simp only[bu,kK]at hv;split at hv
   ·exact Q7j hop hd (ar d hd) h hz gr hv
   ·exact abE hop hd (ar d hd) h hz gr hv
  case h_18 t x lo hi m d hop hd=>
   simp only[Kab,Kaa]at ae;obtain⟨px,hx,F5,o4,Ca,uy,pm,hm,e,he,n,hn,rfl⟩:=ae;have hu:C.P.underlying t=some (.slice e):=by
    unfold sg at he;split at he
    ·rename_i hq;cases he;exact hq
    ·cases he
   exact adq hop hd (ar d hd) h hu hn (cF h hx) o4 uy hm hv
  case h_19 x i d hop hd=>simp only[Kaa]at ae;obtain⟨y,hy,rfl⟩:=ae;exact Q95 hop hd (ar d hd) h (cF h hy) hv
  case h_20 f first cap d hop hd=>
   simp only[Kab,Kaa]at ae;obtain⟨pf,h1,pc,h2,rfl⟩:=ae;exact adr hop hd (ar d hd) h h1 h2 hv
  case h_11=>simp only[Kab,Kaa]at ae;obtain⟨_,_,_,_,_,_,rfl⟩:=ae;cases cz
  case h_12=>simp only[Kab,Kaa]at ae;obtain⟨_,_,_,_,_,_,rfl⟩:=ae;cases cz
  case h_13=>simp only[Kab,Kaa]at ae;obtain⟨_,_,_,_,rfl⟩:=ae;cases cz
  case h_14=>simp only[Kaa]at ae;obtain⟨_,_,rfl⟩:=ae;cases cz
  case h_15=>simp only[Kab,Kaa]at ae;obtain⟨_,_,_,_,_,_,_,_,rfl⟩:=ae;cases cz
  case h_16=>
   simp only[Kab]at ae;obtain⟨_,_,_,_,ae⟩:=ae;split at ae
   ·simp only[Kaa]at ae;obtain⟨_,_,rfl⟩:=ae;cases cz
   ·cases ae
  case h_21 hop=>simp only[Kaa]at ae;obtain⟨y,hy,rfl⟩:=ae;exact Q7i hop ar h (cF h hy) hv
  case h_22 c hop=>
   obtain⟨callee,args,ts⟩:=c;split at ae
   ·simp only[Kab,Kaa]at ae;obtain⟨_,_,_,_,rfl⟩:=ae;cases cz
   ·rename_i x t d pV dT lF hd;obtain rfl:args= #[x]:=tq dT;obtain rfl:ts= #[t]:=tq lF;cases pV;split at ae
    ·rename_i hs;simp only[Kaa]at ae;obtain⟨y,hy,rfl⟩:=ae;exact Q93 hop hd (ar d hd) h (cF h hy) hs hv
    simp only[Kab,Kaa]at ae;obtain⟨e,he,y,hy,rfl⟩:=ae;exact Q92 hop hd (ar d hd) h (cF h hy) (Ad he) hv
   ·rename_i x y d pV dT hd;simp only[Kab,Kaa]at ae;obtain⟨px,hx,py,hy,rfl⟩:=ae;obtain rfl:args= #[x,y]:=tq dT;cases pV;exact acT hop hd (ar d hd) h (cF h hx) (cF h hy) hv
   ·rename_i x y d pV dT hd;simp only[Kab,Kaa]at ae;obtain⟨px,hx,py,hy,rfl⟩:=ae;obtain rfl:args= #[x,y]:=tq dT;cases pV;exact acU hop hd (ar d hd) h (cF h hx) (cF h hy) hv
   ·simp only[Kab]at ae;obtain⟨_,_,_,_,_,_,ae⟩:=ae;split at ae
    ·simp only[Kab]at ae;obtain⟨_,_,ae⟩:=ae;split at ae
     ·cases ae;cases cz
     ·cases ae
    ·cases ae
   ·simp only[Kab]at ae;obtain⟨_,_,_,_,_,_,ae⟩:=ae;split at ae
    ·simp only[Kaa]at ae;obtain⟨_,_,rfl⟩:=ae;cases cz
    ·cases ae
   ·cases ae
  case h_23=>cases ae
theorem TK{dr:Bool}{o:Oper}(cz:(fZ C.P dr o).cls=1)(ar:∀d,o.dst=some d->d<C.N)(h:aI C ρ fr hp a.tmps w)(hv:bu C (fZ C.P dr o) fr hp K):AD C ρ o a w K:=by
 unfold fZ at cz hv;cases ae:mF C.P dr o with
 |none=>rw[ae]at hv;exact hv.elim
 | some so=>
  rw[ae]at cz hv;simp only[KbT]at cz hv;unfold mF at ae;split at ae
  case h_11 t x d hop hd=>
   simp only[Kab,Kaa]at ae;obtain⟨px,hx,n,hn,ag,kf,rfl⟩:=ae;exact acY hop hd (ar d hd) h hn kf (cF h hx) hv
  case h_1=>simp only[Kaa]at ae;obtain⟨_,_,rfl⟩:=ae;cases cz
  case h_2=>simp only[Kaa]at ae;obtain⟨_,_,rfl⟩:=ae;cases cz
  case h_3=>simp only[Kab,Kaa]at ae;obtain⟨_,_,_,_,_,_,rfl⟩:=ae;cases cz
  case h_4=>simp only[Kab,Kaa]at ae;obtain⟨_,_,_,_,rfl⟩:=ae;unfold zk at cz;split at cz<;>first|(cases cz;done)|(split at cz<;>cases cz)
  case h_5=>simp only[Kaa]at ae;obtain⟨_,_,rfl⟩:=ae;cases cz
  case h_6=>split at ae<;>first|cases ae|(simp only[Kaa]at ae;obtain⟨_,_,rfl⟩:=ae;cases cz)
  case h_7=>
   simp only[Kab]at ae;obtain⟨_,_,_,_,ae⟩:=ae;split at ae<;>first|cases ae|(simp only[Kaa]at ae;obtain⟨_,_,rfl⟩:=ae;cases cz)
  case h_8=>
   simp only[Kab]at ae;obtain⟨_,_,_,_,ae⟩:=ae;split at ae<;>first|(simp only[Kab,Kaa]at ae;obtain⟨_,_,_,_,rfl⟩:=ae;cases cz)|(cases ae;done)|(cases ae;cases cz)
  case h_9=>
   simp only[Kab]at ae;obtain⟨_,_,ae⟩:=ae;split at ae
   ·simp only[Kab]at ae;obtain⟨_,_,_,_,ae⟩:=ae;split at ae<;>first|(cases ae;done)|(simp only[KaB]at ae;subst ae;cases cz)
   ·cases ae
  case h_10=>
   simp only[Kab]at ae;obtain⟨_,_,ae⟩:=ae;split at ae<;>first|(cases ae;done)|(simp only[Kab,Kaa]at ae;obtain⟨_,_,_,_,_,_,rfl⟩:=ae;cases cz)
  case h_12=>simp only[Kab,Kaa]at ae;obtain⟨_,_,_,_,_,_,rfl⟩:=ae;cases cz
  case h_13=>simp only[Kab,Kaa]at ae;obtain⟨_,_,_,_,rfl⟩:=ae;cases cz
  case h_14=>simp only[Kaa]at ae;obtain⟨_,_,rfl⟩:=ae;cases cz
  case h_15=>simp only[Kab,Kaa]at ae;obtain⟨_,_,_,_,_,_,_,_,rfl⟩:=ae;cases cz
  case h_16=>
   simp only[Kab]at ae;obtain⟨_,_,_,_,ae⟩:=ae;split at ae
   ·simp only[Kaa]at ae;obtain⟨_,_,rfl⟩:=ae;cases cz
   ·cases ae
  case h_17=>simp only[Kab,Kaa]at ae;obtain⟨_,_,_,_,rfl⟩:=ae;cases cz
  case h_18=>simp only[Kab,Kaa]at ae;obtain⟨_,_,_,_,_,_,_,_,_,_,_,_,rfl⟩:=ae;cases cz
  case h_19=>simp only[Kaa]at ae;obtain⟨_,_,rfl⟩:=ae;cases cz
  case h_20=>simp only[Kab,Kaa]at ae;obtain⟨_,_,_,_,rfl⟩:=ae;cases cz
  case h_21=>simp only[Kaa]at ae;obtain⟨_,_,rfl⟩:=ae;cases cz
  case h_22=>
   split at ae
   ·simp only[Kab,Kaa]at ae;obtain⟨_,_,_,_,rfl⟩:=ae;cases cz
   ·split at ae
    ·simp only[Kaa]at ae;obtain⟨_,_,rfl⟩:=ae;cases cz
    ·simp only[Kab,Kaa]at ae;obtain⟨_,_,_,_,rfl⟩:=ae;cases cz
   ·simp only[Kab,Kaa]at ae;obtain⟨_,_,_,_,rfl⟩:=ae;cases cz
   ·simp only[Kab,Kaa]at ae;obtain⟨_,_,_,_,rfl⟩:=ae;cases cz
   ·simp only[Kab]at ae;obtain⟨_,_,_,_,_,_,ae⟩:=ae;split at ae
    ·simp only[Kab]at ae;obtain⟨_,_,ae⟩:=ae;split at ae
     ·cases ae;cases cz
     ·cases ae
    ·cases ae
   ·simp only[Kab]at ae;obtain⟨_,_,_,_,_,_,ae⟩:=ae;split at ae
    ·simp only[Kaa]at ae;obtain⟨_,_,rfl⟩:=ae;cases cz
    ·cases ae
   ·cases ae
  case h_23=>cases ae
theorem bk.wp{o:Oper}{two:Bool}{Q:Exit->Act->World->Prop}(aY:a.defers=[])(h:bk C ρ o a w K):o.wp C.P a w (cP C two w K) Q:=by obtain⟨v,hr,ay,an,hs,hK⟩:=h;exact jD (hr w) ⟨by rw[vf];exact aY,⟨ay,an,⟨ρ,hs⟩,hK⟩,fun _=>Ext.refl _ _⟩
theorem AD.wp{o:Oper}{two:Bool}{Q:Exit->Act->World->Prop}(aY:a.defers=[])(h:AD C ρ o a w K):o.wp C.P a w (cP C two w K) Q:=by obtain⟨v,b,_,hr,ay,an,hs,hK⟩:=h;exact jD (hr w rfl) ⟨by rw[vf];exact aY,⟨ay,an,⟨ρ,hs⟩,hK⟩,fun _=>Ext.refl _ _⟩
theorem cP.mono{two X2:Bool}{a':Act}{w':World}(h2:X2=true->two=true)(h:cP C two w K a' w'):cP C X2 w K a' w':=⟨h.1,h.2.1,fun hh=>h.2.2 (h2 hh)⟩
theorem adx{dr:Bool}{o:Oper}{Q:Exit->Act->World->Prop}(ar:∀d,o.dst=some d->d<C.N)(aY:a.defers=[])(h:aI C ρ fr hp a.tmps w)(hv:bu C (fZ C.P dr o) fr hp K):
  o.wp C.P a w (cP C (!(fZ C.P dr o).iX) w K) Q:=by
 by_cases h0:(fZ C.P dr o).cls=0
 ·exact(TJ h0 ar h hv).wp aY
 by_cases h1:(fZ C.P dr o).cls=1
 ·exact(TK h1 ar h hv).wp aY
 unfold fZ at h0 h1 hv⊢;cases ae:mF C.P dr o with
 |none=>rw[ae]at hv;exact hv.elim
 | some so=>
  rw[ae]at h0 h1 hv;simp only[KbT]at h0 h1 hv⊢;have fin:∀ {two:Bool},(so.iX=false->two=true)->o.wp C.P a w (cP C two w K) Q->o.wp C.P a w (cP C (!so.iX) w K) Q:=fun h2 hw=>
   Oper.wp_mono (fun a' w' hA=>hA.mono (fun hh=>h2 (by simpa using hh))) hw
  unfold mF at ae;split at ae
  case h_12 t x y hop hd=>
   simp only[Kab,Kaa]at ae;obtain⟨px,hx,py,hy,n,hn,rfl⟩:=ae;exact fin (by simp[cB.iX]) (adw hop hd aY h hn (cF h hx) (cF h hy) hv)
  case h_13 t x d hop hd=>
   simp only[Kab,Kaa]at ae;obtain⟨px,hx,n,hn,rfl⟩:=ae;exact fin (fun _=>rfl) (Q7l hop hd (ar d hd) aY h (cF h hx) hv)
  case h_14 t d hop hd=>
   simp only[Kaa]at ae;obtain⟨⟨n,by_,z⟩,hz,rfl⟩:=ae;obtain⟨ti,zv,i1,i2,_,_,i5⟩:=rX hz;exact fin (fun _=>rfl) (ZD hop hd (ar d hd) aY h i1 i2 i5 hv)
  case h_15 t l c d hop hd=>
   simp only[Kab,Kaa]at ae;obtain⟨pl,hl,pc,hc,e,he,⟨n,by_,z⟩,hz,rfl⟩:=ae;exact fin (fun _=>rfl) (adt hop hd (ar d hd) aY h (Ad he) hz (cF h hl) (cF h hc) hv)
  case h_16 t len parts d hop hd=>
   simp only[Kab]at ae;obtain⟨e,he,⟨n,by_,z⟩,hz,ae⟩:=ae;split at ae
   ·rename_i Br;simp only[Kaa]at ae;obtain⟨ps,gr,rfl⟩:=ae;exact fin (fun _=>rfl) (abK hop hd (ar d hd) aY h (Ad he) hz Br.1 Br.2.1 Br.2.2 gr hv)
   ·cases ae
  case h_22 c hop=>
   obtain⟨callee,args,ts⟩:=c;split at ae
   ·rename_i f pV;simp only[Kab,Kaa]at ae;obtain⟨pf,hf,dk,dT,rfl⟩:=ae;cases pV;exact fin (two:=dr&& !Rm C.P pf) (fun hh=>by simpa[cB.iX]using hh) (Q7o hop ar aY h hf dT hv)
   ·split at ae
    ·simp only[Kaa]at ae;obtain⟨_,_,rfl⟩:=ae;exact absurd rfl h0
    ·simp only[Kab,Kaa]at ae;obtain⟨_,_,_,_,rfl⟩:=ae;exact absurd rfl h0
   ·simp only[Kab,Kaa]at ae;obtain⟨_,_,_,_,rfl⟩:=ae;exact absurd rfl h0
   ·simp only[Kab,Kaa]at ae;obtain⟨_,_,_,_,rfl⟩:=ae;exact absurd rfl h0
   ·rename_i s x t u d pV dT lF hd;simp only[Kab]at ae;obtain⟨ps,hs,px,hx,e,he,ae⟩:=ae;split at ae
    ·rename_i Nq;subst Nq;simp only[Kab]at ae;obtain⟨⟨n,by_,z⟩,hz,ae⟩:=ae;split at ae
     ·rename_i ku;simp only[KaB]at ae;subst ae;obtain rfl:args= #[s,x]:=tq dT;obtain rfl:ts= #[t,t]:=tq lF;cases pV;exact fin (by simp[cB.iX]) (Q7n hop hd (ar d hd) aY h (Ad he) hz ku (cF h hs) (cF h hx) hv)
     ·cases ae
    ·cases ae
   ·rename_i s x t u d pV dT lF hd;simp only[Kab]at ae;obtain⟨ps,hs,px,hx,e,he,ae⟩:=ae;split at ae
    ·rename_i Nq;subst Nq;simp only[Kaa]at ae;obtain⟨n,hn,rfl⟩:=ae;obtain rfl:args= #[s,x]:=tq dT;obtain rfl:ts= #[t,t]:=tq lF;cases pV;exact fin (by simp[cB.iX]) (abI hop hd (ar d hd) aY h (Ad he) hn (cF h hs) (cF h hx) hv)
    ·cases ae
   ·cases ae
  all_goals exfalso
  case h_1=>simp only[Kaa]at ae;obtain⟨_,_,rfl⟩:=ae;exact h0 rfl
  case h_2=>simp only[Kaa]at ae;obtain⟨_,_,rfl⟩:=ae;exact h0 rfl
  case h_3=>simp only[Kab,Kaa]at ae;obtain⟨_,_,_,_,_,_,rfl⟩:=ae;exact h0 rfl
  case h_4=>simp only[Kab,Kaa]at ae;obtain⟨_,_,_,_,rfl⟩:=ae;exact h0 (by unfold zk;split<;>first|rfl|(split<;>rfl))
  case h_5=>simp only[Kaa]at ae;obtain⟨_,_,rfl⟩:=ae;exact h0 rfl
  case h_6=>split at ae<;>first|(cases ae;done)|(simp only[Kaa]at ae;obtain⟨_,_,rfl⟩:=ae;exact h0 rfl)
  case h_7=>
   simp only[Kab]at ae;obtain⟨_,_,_,_,ae⟩:=ae;split at ae<;>first|(cases ae;done)|(simp only[Kaa]at ae;obtain⟨_,_,rfl⟩:=ae;exact h0 rfl)
  case h_8=>
   simp only[Kab]at ae;obtain⟨_,_,_,_,ae⟩:=ae;split at ae<;>first|(cases ae;done)|(simp only[Kab,Kaa]at ae;obtain⟨_,_,_,_,rfl⟩:=ae;exact h0 rfl)|(cases ae;exact h0 rfl)
  case h_9=>
   simp only[Kab]at ae;obtain⟨_,_,ae⟩:=ae;split at ae
   ·simp only[Kab]at ae;obtain⟨_,_,_,_,ae⟩:=ae;split at ae<;>first|(cases ae;done)|(simp only[KaB]at ae;subst ae;exact h0 rfl)
   ·cases ae
  case h_10=>
   simp only[Kab]at ae;obtain⟨_,_,ae⟩:=ae;split at ae<;>first|(cases ae;done)|(simp only[Kab,Kaa]at ae;obtain⟨_,_,_,_,_,_,rfl⟩:=ae;exact h0 rfl)
  case h_11=>simp only[Kab,Kaa]at ae;obtain⟨_,_,_,_,_,_,rfl⟩:=ae;exact h1 rfl
  case h_17=>simp only[Kab,Kaa]at ae;obtain⟨_,_,_,_,rfl⟩:=ae;exact h0 rfl
  case h_18=>simp only[Kab,Kaa]at ae;obtain⟨_,_,_,_,_,_,_,_,_,_,_,_,rfl⟩:=ae;exact h0 rfl
  case h_19=>simp only[Kaa]at ae;obtain⟨_,_,rfl⟩:=ae;exact h0 rfl
  case h_20=>simp only[Kab,Kaa]at ae;obtain⟨_,_,_,_,rfl⟩:=ae;exact h0 rfl
  case h_21=>simp only[Kaa]at ae;obtain⟨_,_,rfl⟩:=ae;exact h0 rfl
  case h_23=>cases ae
end Go.FW
namespace Go.FW
open Go
variable {C : Ctx} {ρ : Nat -> Option Nat} {fr : Fr} {hp : HP} {w : World} {a : Act} {K : Qh}
theorem ady(h:aI C ρ fr hp a.tmps w){s:Nat}(hs:s<C.N):a.tmps[s]? =some (a.tmps.getD s undef):=by
 have:s<a.tmps.size:=by rw[h.sz];exact hs
 simp[Array.getD,this]
theorem Te{dr:Bool}{ops:Array Oper}{o:Oper}{g:uS}(h:aI C ρ fr hp a.tmps w)(hc:rS C.P C.N dr ops o=some g)(hv:oP C g.g g.o fr hp K):
  (∀d,o.dst=some d->d<C.N)/\g.o=fZ C.P dr o/\
  ((Region.wanted o (yielded ops a.tmps)=true/\bu C g.o fr hp K)∨(Region.wanted o (yielded ops a.tmps)=false/\jF g.o fr hp K)):=by
 unfold rS at hc;split at hc
 ·rename_i bz;have ar:∀d,o.dst=some d->d<C.N:=fun d hd=>by rw[hd]at bz;simpa using bz
  cases hg:o.guard with
  |none=>rw[hg]at hc;cases hc;exact⟨ar,rfl,.inl ⟨by simp[Region.wanted,hg],hv⟩⟩
  | some jw=>
   obtain⟨j,want⟩:=jw;rw[hg]at hc;simp only at hc;split at hc
   ·rename_i s hs;split at hc
    ·rename_i hsN;cases hc;refine⟨ar,rfl,?_⟩;have ht:=ady h hsN;have hr:=h.fh s;simp only[oP]at hv;split at hv
     ·rename_i t ov;rw[ov]at hr;have hb:=hr.yv;have hy:yielded ops a.tmps j=some t:=by simp only[yielded,hs,Kdc,ht,hb]
      have wH:∀b,t=b->af fr s (.bool b)=fr:=fun b aw=>by
       funext i;unfold af;split
       ·rename_i hi;subst hi;subst aw;exact ov.symm
       ·rfl
      by_cases hw:t=want
      ·refine .inl ⟨by simp[Region.wanted,hg,hy,hw],?_⟩;have:=hv.1 hw
       rwa[wH want hw]at this
      ·have rz:t= !want:=by cases t<;>cases want<;>simp_all
       refine .inr ⟨by simp[Region.wanted,hg,hy,hw],?_⟩;have:=hv.2 rz
       rwa[wH _ rz]at this
     ·rename_i ov;rw[ov]at hr;obtain⟨vs,ev,fY,_⟩:=hr;have BR:vs= #[]:=Kcw (by simpa using fY);have hy:yielded ops a.tmps j=none:=by simp only[yielded,hs,Kdc,ht,ev]
      exact .inr ⟨by simp[Region.wanted,hg,hy],hv⟩
     ·exact hv.elim
    ·cases hc
   ·cases hc
 ·cases hc
theorem Rs{dr:Bool}{o:Oper}:(fZ C.P dr o).dst=o.dst:=by
 unfold fZ;cases ae:mF C.P dr o with
 |none=>rfl
 | some so=>
  simp only[KbT];unfold mF at ae;split at ae
  case h_1 hd=>simp only[Kaa]at ae;obtain⟨_,_,rfl⟩:=ae;exact hd.symm
  case h_2 hd=>simp only[Kaa]at ae;obtain⟨_,_,rfl⟩:=ae;exact hd.symm
  case h_3 hd=>simp only[Kab,Kaa]at ae;obtain⟨_,_,_,_,_,_,rfl⟩:=ae;exact hd.symm
  case h_4 hd=>simp only[Kab,Kaa]at ae;obtain⟨_,_,_,_,rfl⟩:=ae;unfold zk;split<;>first|exact hd.symm|(split<;>exact hd.symm)
  case h_5 hd=>simp only[Kaa]at ae;obtain⟨_,_,rfl⟩:=ae;exact hd.symm
  case h_6 hd=>split at ae<;>first|(cases ae;done)|(simp only[Kaa]at ae;obtain⟨_,_,rfl⟩:=ae;exact hd.symm)
  case h_7 hd=>
   simp only[Kab]at ae;obtain⟨_,_,_,_,ae⟩:=ae;split at ae<;>first|(cases ae;done)|(simp only[Kaa]at ae;obtain⟨_,_,rfl⟩:=ae;exact hd.symm)
  case h_8 hd=>
   simp only[Kab]at ae;obtain⟨_,_,_,_,ae⟩:=ae;split at ae<;>first|(cases ae;done)|(simp only[Kab,Kaa]at ae;obtain⟨_,_,_,_,rfl⟩:=ae;exact hd.symm)|(cases ae;exact hd.symm)
  case h_9 hd=>
   simp only[Kab]at ae;obtain⟨_,_,ae⟩:=ae;split at ae
   ·simp only[Kab]at ae;obtain⟨_,_,_,_,ae⟩:=ae;split at ae<;>first|(cases ae;done)|(simp only[KaB]at ae;subst ae;exact hd.symm)
   ·cases ae
  case h_10 hd=>
   simp only[Kab]at ae;obtain⟨_,_,ae⟩:=ae;split at ae<;>first|(cases ae;done)|(simp only[Kab,Kaa]at ae;obtain⟨_,_,_,_,_,_,rfl⟩:=ae;exact hd.symm)
  case h_11 hd=>simp only[Kab,Kaa]at ae;obtain⟨_,_,_,_,_,_,rfl⟩:=ae;exact hd.symm
  case h_12 hd=>simp only[Kab,Kaa]at ae;obtain⟨_,_,_,_,_,_,rfl⟩:=ae;exact hd.symm
  case h_13 hd=>simp only[Kab,Kaa]at ae;obtain⟨_,_,_,_,rfl⟩:=ae;exact hd.symm
  case h_14 hd=>simp only[Kaa]at ae;obtain⟨_,_,rfl⟩:=ae;exact hd.symm
  case h_15 hd=>simp only[Kab,Kaa]at ae;obtain⟨_,_,_,_,_,_,_,_,rfl⟩:=ae;exact hd.symm
  case h_16 hd=>
   simp only[Kab]at ae;obtain⟨_,_,_,_,ae⟩:=ae;split at ae
   ·simp only[Kaa]at ae;obtain⟨_,_,rfl⟩:=ae;exact hd.symm
   ·cases ae
  case h_17 hd=>simp only[Kab,Kaa]at ae;obtain⟨_,_,_,_,rfl⟩:=ae;exact hd.symm
  case h_18 hd=>simp only[Kab,Kaa]at ae;obtain⟨_,_,_,_,_,_,_,_,_,_,_,_,rfl⟩:=ae;exact hd.symm
  case h_19 hd=>simp only[Kaa]at ae;obtain⟨_,_,rfl⟩:=ae;exact hd.symm
  case h_20 hd=>simp only[Kab,Kaa]at ae;obtain⟨_,_,_,_,rfl⟩:=ae;exact hd.symm
  case h_21=>simp only[Kaa]at ae;obtain⟨_,_,rfl⟩:=ae;rfl
  case h_22=>
   split at ae
   ·simp only[Kab,Kaa]at ae;obtain⟨_,_,_,_,rfl⟩:=ae;rfl
   ·rename_i hd;split at ae
    ·simp only[Kaa]at ae;obtain⟨_,_,rfl⟩:=ae;exact hd.symm
    ·simp only[Kab,Kaa]at ae;obtain⟨_,_,_,_,rfl⟩:=ae;exact hd.symm
   ·rename_i hd;simp only[Kab,Kaa]at ae;obtain⟨_,_,_,_,rfl⟩:=ae;exact hd.symm
   ·rename_i hd;simp only[Kab,Kaa]at ae;obtain⟨_,_,_,_,rfl⟩:=ae;exact hd.symm
   ·rename_i hd;simp only[Kab]at ae;obtain⟨_,_,_,_,_,_,ae⟩:=ae;split at ae
    ·simp only[Kab]at ae;obtain⟨_,_,ae⟩:=ae;split at ae
     ·cases ae;exact hd.symm
     ·cases ae
    ·cases ae
   ·rename_i hd;simp only[Kab]at ae;obtain⟨_,_,_,_,_,_,ae⟩:=ae;split at ae
    ·simp only[Kaa]at ae;obtain⟨_,_,rfl⟩:=ae;exact hd.symm
    ·cases ae
   ·cases ae
  case h_23=>cases ae
theorem Q7p{dr two:Bool}{o:Oper}(ar:∀d,o.dst=some d->d<C.N)(aY:a.defers=[])(h:aI C ρ fr hp a.tmps w)(hv:jF (fZ C.P dr o) fr hp K):cP C two w K (a.put o.dst undef) w:=by
 unfold jF at hv;rw[Rs]at hv;cases hd:o.dst with
 |some d=>rw[hd]at hv;exact⟨aY,⟨_,hp,⟨ρ,h.af Qt.XZ (ar d hd)⟩,hv⟩,fun _=>Ext.refl _ _⟩
 |none=>rw[hd]at hv;exact⟨aY,⟨fr,hp,⟨ρ,h⟩,hv⟩,fun _=>Ext.refl _ _⟩
theorem TL{dr:Bool}{ops:Array Oper}{i:Nat}{o:Oper}{g:uS}{Q:Exit->Act->World->Prop}(hi:ops[i]? =some o)(aY:a.defers=[])(h:aI C ρ fr hp a.tmps w)(hc:rS C.P C.N dr ops o=some g)(hv:oP C g.g g.o fr hp K):
  wpOp C.P ops Q i (cP C (!(fZ C.P dr o).iX) w K) a w:=by
 obtain⟨ar,mb,Bo⟩:=Te h hc hv;rw[mb]at Bo;unfold wpOp;simp only[hi];rcases Bo with⟨hw,hv⟩|⟨hw,hv⟩
 ·rw[if_pos hw];exact .inl (adx ar aY h hv)
 ·rw[hw];simp only[KaJ,if_false];exact Q7p ar aY h hv
def Cw(C:Ctx)(K:Qh)(Q:Exit->Act->World->Prop):Prop:=∀fr hp (a:Act) w,a.defers=[]->fl C fr hp a.tmps w->K fr hp->Q .normal a w
theorem AE{C:Ctx}{R:Qh}{sk:List It}{fr:Fr}{hp:HP}:vc C R (.o .nil::sk) fr hp=vc C R sk fr hp:=by rw[vc]
theorem AI{C:Ctx}{R:Qh}{sk:List It}{g:Option (Nat×Bool)}{o:cB}{r:RT}{fr:Fr}{hp:HP}:vc C R (.o (.o g o r)::sk) fr hp=oP C g o fr hp (vc C R (.o r::sk)):=by rw[vc]
theorem Sb{C:Ctx}{R:Qh}{sk:List It}{x y:RT}{fr:Fr}{hp:HP}:vc C R (.o (.br x y)::sk) fr hp=(vc C R (.o x::sk) fr hp/\vc C R (.o y::sk) fr hp):=by rw[vc]
theorem Eu{C:Ctx}{R:Qh}{sk:List It}{r:RT}{fr:Fr}{hp:HP}:vc C R (.o (.wk r)::sk) fr hp=∃bI aF,Wk fr hp bI aF/\vc C R (.o r::sk) bI aF:=by rw[vc]
theorem xO{C:Ctx}{R:Qh}{sk:List It}{tmps:Array Value}{w:World}:∀(r:RT)(fr:Fr)(hp:HP),fl C fr hp tmps w->vc C R (.o r::sk) fr hp->
  ∃r' ay an,r'.strip=r.strip/\(∀x,r'≠ .wk x)/\fl C ay an tmps w/\vc C R (.o r'::sk) ay an:=by
 intro r;induction r with
 |wk r ih=>intro fr hp hs hv;rw[Eu]at hv;obtain⟨bI,aF,hw,hv⟩:=hv;exact ih bI aF (hw _ _ _ hs) hv
 |nil=>exact fun fr hp hs hv=>⟨_,fr,hp,rfl,(fun x h=>by cases h),hs,hv⟩
 |o=>exact fun fr hp hs hv=>⟨_,fr,hp,rfl,(fun x h=>by cases h),hs,hv⟩
 |br=>exact fun fr hp hs hv=>⟨_,fr,hp,rfl,(fun x h=>by cases h),hs,hv⟩
theorem Va{r:RT}(h:r.strip= .nil)(hn:∀x,r≠ .wk x):r= .nil:=by
 cases r with
 |nil=>rfl
 |wk x=>exact absurd rfl (hn x)
 |_=>simp[RT.strip]at h
theorem Ix{r s:RT}{g:Option (Nat×Bool)}{o:cB}(h:r.strip= .o g o s)(hn:∀x,r≠ .wk x):∃r',r= .o g o r'/\r'.strip=s:=by
 cases r with
 |o g' o' r'=>simp only[RT.strip,RT.o.injEq]at h;obtain⟨rfl,rfl,h⟩:=h;exact⟨r',rfl,h⟩
 |wk x=>exact absurd rfl (hn x)
 |_=>simp[RT.strip]at h
theorem adz{r a b:RT}(h:r.strip= .br a b)(hn:∀x,r≠ .wk x):∃a' b',r= .br a' b'/\a'.strip=a/\b'.strip=b:=by
 cases r with
 |br a' b'=>simp only[RT.strip,RT.br.injEq]at h;exact⟨a',b',rfl,h.1,h.2⟩
 |wk x=>exact absurd rfl (hn x)
 |_=>simp[RT.strip]at h
theorem TM{R:Qh}{sk:List It}{ops:Array Oper}{Q:Exit->Act->World->Prop}(hQ:Cw C (vc C R sk) Q):∀(gs:List uS)(is:List Nat)(r:RT)(fr:Fr)(hp:HP)(a:Act)(w:World),
  is.length=gs.length->(∀(k i:Nat)(g:uS),is[k]? =some i->gs[k]? =some g->∃o,ops[i]? =some o/\rS C.P C.N false ops o=some g)->
  a.defers=[]->fl C fr hp a.tmps w->r.strip=yl gs->vc C R (.o r::sk) fr hp->wpOps C.P ops Q is a w
 | [],[],r,fr,hp,a,w,_,_,aY,hs,hr,hv=>by obtain⟨r',ay,an,h1,h2,hs,hv⟩:=xO r fr hp hs hv;obtain rfl:=Va (h1.trans hr) h2;rw[AE]at hv;exact hQ ay an a w aY hs hv
 | [],i::is,_,_,_,_,_,hl,_,_,_,_,_=>by simp at hl
 |g::gs,[],_,_,_,_,_,hl,_,_,_,_,_=>by simp at hl
 |g::gs,i::is,r,fr,hp,a,w,hl,hc,aY,hs,hr,hv=>by obtain⟨o,ho,ae⟩:=hc 0 i g rfl rfl;obtain⟨r',ay,an,h1,h2,⟨ρ,hs⟩,hv⟩:=xO r fr hp hs hv;obtain⟨r2,rfl,oz⟩:=Ix (h1.trans hr) h2;rw[AI]at hv;rw[wpOps_cons];refine wpOp_mono (fun a' w' hA=>?_) (TL ho aY hs ae hv);obtain⟨wa,⟨ay,an,ew,oC⟩,_⟩:=hA;exact TM hQ gs is r2 ay an a' w' (by simpa using hl) (fun k j g' h1 h2=>hc (k+1) j g' (by simpa using h1) (by simpa using h2)) wa ew oz oC
end Go.FW
