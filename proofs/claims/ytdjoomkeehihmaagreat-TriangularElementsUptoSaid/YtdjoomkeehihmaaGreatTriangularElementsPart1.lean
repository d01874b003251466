/- Part 1 of the proof of TriangularElements: FwA, FwRA, FwRB, FwRF, FwRG, FwRH, FwB, FwC, FwD, FwE, FwF, FwG, FwH, FwI, FwJ, FwK, FwL, FwLN, FwM, FwN. Own lemmas; no conditions. -/
import Derived.Test.YtdjoomkeehihmaaGreatTriangularElementsPart0
import Derived.WalkKit
import Derived.RangeFuncNested
import Derived.Laws.AppendOwn
import Derived.OrdersIn
import Derived.TacticsIn
import Derived.BigFrameIn
import Derived.Laws.Rows
import Derived.Laws.ResultCell
import Derived.Orders
import Derived.Laws.StructEq
set_option maxHeartbeats 1000000
set_option linter.unusedSimpArgs false
set_option linter.unusedVariables false
set_option linter.unnecessarySimpa false
set_option maxRecDepth 100000
namespace Go.FW
open Go
inductive PV where
 |undef
 |int (k:IntKind) (n:Int)
 |bool (b:Bool)
 |aa
 |sl (e:Nat) (xs:List PV)
 |agg (cs:List PV)
 |aw (vs:List PV)
 |fn (f:FuncId) (first cap:List PV)
 |pt (cs:List PV)
 |mp (β i o:Nat)
 |ay (β o n:Nat)
 |rb (β o n:Nat)
 |aM (γ o n:Nat)
 |np (γ i o:Nat)
 |aU (cs:List PV)
 |eX (cs:List PV)
 |aN (γ e ty:Nat) (xs:List PV)
 |str (s:ByteArray)
 |eY (cs:List PV) (q:PV)
 deriving Inhabited
abbrev PV.ms(β n:Nat):PV:=.ay β 0 n
def PV.cells:PV->List PV
 |.agg cs=>cs
 |x=>[x]
def PV.bl:PV->List PV
 |.aU cs=>cs
 |x=>x.cells
def PV.gZ:PV->Bool
 |.undef=>false
 |_=>true
def PV.aE:PV->Bool
 |.int .. | .bool _| .aa| .sl .. | .agg _| .pt _| .str _=>true
 |.fn _ first cap=>first.all PV.gZ&&cap.all PV.gZ
 |_=>false
inductive Qu(w:World)(X:Nat->Prop):PV->Value->Prop
 |int (k:IntKind) (n:Int):Qu w X (.int k n) (.int k n)
 |bool (b:Bool):Qu w X (.bool b) (.bool b)
 |str (s:ByteArray):Qu w X (.str s) (.string s)
 |aa:Qu w X .aa (.slice none 0 0)
 |gK (e:Nat) (a:Option Addr) (cap:Nat) (hc:cap<=maxLen):Qu w X (.sl e []) (.slice a 0 cap)
 | sl (e:Nat) (xs:List PV) (b off cap:Nat) (vs:Nat->Nat->Value) (hX:¬X b) (hb:b<w.heap.size) (hl:xs.length<=cap) (hc:cap<=maxLen)
   (he:∀(i:Nat)(x:PV),xs[i]? =some x->x.cells.length=e)
   (hv:∀i,i<xs.length->∀j,j<e->w.cell? ⟨b,off+i*e+j,none⟩=some (vs i j))
   (hr:∀(i:Nat)(x:PV),xs[i]? =some x->∀(j:Nat)(y:PV),x.cells[j]? =some y->Qu w X y (vs i j)):
   Qu w X (.sl e xs) (.slice (some ⟨b,off,none⟩) xs.length cap)
 | pt (cs:List PV) (b off:Nat) (vs:Nat->Value) (hX:¬X b) (hb:b<w.heap.size)
   (hv:∀j,j<cs.length->w.cell? ⟨b,off+j,none⟩=some (vs j))
   (hr:∀(j:Nat)(y:PV),cs[j]? =some y->Qu w X y (vs j)):
   Qu w X (.pt cs) (.pointer (some ⟨b,off,none⟩))
 | fn (f:FuncId) (first cap:List PV) (fv cv:Array Value) (h1:fv.size=first.length) (h2:cv.size=cap.length)
   (sK:∀(i:Nat)(x:PV),first[i]? =some x->Qu w X x (fv.getD i undef)) (ox:∀(i:Nat)(x:PV),cap[i]? =some x->Qu w X x (cv.getD i undef)):
   Qu w X (.fn f first cap) (.func (.func f) fv cv)
structure Ext(Y:Nat->Prop)(w w':World):Prop where
 os:w'.os=w.os
 tape:w'.tape=w.tape
 output:w'.output=w.output
 size:w.heap.size<=w'.heap.size
 block:∀b,b<w.heap.size->¬Y b->w'.heap[b]? =w.heap[b]?
theorem Ext.refl(Y:Nat->Prop)(w:World):Ext Y w w:=⟨rfl,rfl,rfl,Nat.le_refl _,fun _ _ _=>rfl⟩
theorem Ext.trans{Y:Nat->Prop}{a b c:World}(h:Ext Y a b)(k:Ext Y b c):Ext Y a c:=
  ⟨k.os.trans h.os,k.tape.trans h.tape,k.output.trans h.output,Nat.le_trans h.size k.size,
   fun i hi hY=>(k.block i (Nat.lt_of_lt_of_le hi h.size) hY).trans (h.block i hi hY)⟩
theorem Ext.mono{Y Y':Nat->Prop}{a b:World}(h:Ext Y a b)(hY:∀i,i<a.heap.size->Y i->Y' i):Ext Y' a b:=
 ⟨h.os,h.tape,h.output,h.size,fun i hi hn=>h.block i hi (fun hy=>hn (hY i hi hy))⟩
theorem Ext.trans'{Y Y':Nat->Prop}{a b c:World}(h:Ext Y a b)(k:Ext Y' b c)(hY:∀i,i<a.heap.size->Y' i->Y i):Ext Y a c:=
  ⟨k.os.trans h.os,k.tape.trans h.tape,k.output.trans h.output,Nat.le_trans h.size k.size,
   fun i hi hn=>(k.block i (Nat.lt_of_lt_of_le hi h.size) (fun hy=>hn (hY i hi hy))).trans (h.block i hi hn)⟩
def bS:Nat->Prop:=fun _=>False
theorem uV{w w':World}{a:Addr}(h:w'.heap[a.block]? =w.heap[a.block]?):w'.cell? a=w.cell? a:=by simp[World.cell?,h]
theorem Zt{w:World}{b o:Nat}{v:Value}(h:w.cell? ⟨b,o,none⟩=some v):b<w.heap.size:=by
 rcases Nat.lt_or_ge b w.heap.size with h'|h'
 ·exact h'
 ·simp[World.cell?,Array.getElem?_eq_none h']at h
theorem Qu.mono{w w':World}{X X':Nat->Prop}{p:PV}{v:Value}(h:Qu w X p v)
  (hb:∀b,b<w.heap.size->¬X b->w'.heap[b]? =w.heap[b]?) (hx:∀b,b<w.heap.size->¬X b->¬X' b) (hs:w.heap.size<=w'.heap.size):Qu w' X' p v:=by
 induction h with
 |int k n=>exact .int k n
 |bool b=>exact .bool b
 |str s=>exact .str s
 |aa=>exact .aa
 |gK e a cap hc=>exact .gK e a cap hc
 | sl e xs b off cap vs hX ax hl hc he hv hr ih=>
  exact .sl e xs b off cap vs (hx b ax hX) (Nat.lt_of_lt_of_le ax hs) hl hc he
   (fun i hi j hj=>by rw[uV (hb b ax hX)];exact hv i hi j hj) (fun i x aT j y hy=>ih i x aT j y hy)
 |pt cs b off vs hX ax hv hr ih=>exact .pt cs b off vs (hx b ax hX) (Nat.lt_of_lt_of_le ax hs) (fun j hj=>by rw[uV (hb b ax hX)];exact hv j hj) (fun j y hy=>ih j y hy)
 |fn f first cap fv cv h1 h2 sK ox M8 Fy=>exact .fn f first cap fv cv h1 h2 M8 Fy
theorem Qu.rA{w:World}{X:Nat->Prop}{p:PV}{v:Value}(h:Qu w X p v):v.oneCell'=true/\v.cells= #[v]/\p.cells=[p]:=by cases h<;>exact⟨rfl,rfl,rfl⟩
def a9(w:World)(X:Nat->Prop):PV->Value->Prop
 |.agg cs,v=>∃vs:Array Value,v= .agg vs/\vs.size=cs.length/\∀i x,cs[i]? =some x->Qu w X x (vs.getD i undef)
 |p,v=>Qu w X p v
def dF(w:World)(X:Nat->Prop):PV->Value->Prop
 |.aw ps,v=>∃vs:Array Value,v= .tuple vs/\vs.size=ps.length/\∀i x,ps[i]? =some x->a9 w X x (vs.getD i undef)
 |p,v=>a9 w X p v
theorem a9.mono{w w':World}{X X':Nat->Prop}{p:PV}{v:Value}(h:a9 w X p v)
  (hb:∀b,b<w.heap.size->¬X b->w'.heap[b]? =w.heap[b]?) (hx:∀b,b<w.heap.size->¬X b->¬X' b) (hs:w.heap.size<=w'.heap.size):a9 w' X' p v:=by
 cases p with
 |agg cs=>obtain⟨vs,rfl,h1,h2⟩:=h;exact⟨vs,rfl,h1,fun i x hi=>(h2 i x hi).mono hb hx hs⟩
 |_=>exact Qu.mono h hb hx hs
theorem dF.mono{w w':World}{X X':Nat->Prop}{p:PV}{v:Value}(h:dF w X p v)
  (hb:∀b,b<w.heap.size->¬X b->w'.heap[b]? =w.heap[b]?) (hx:∀b,b<w.heap.size->¬X b->¬X' b) (hs:w.heap.size<=w'.heap.size):dF w' X' p v:=by
 cases p with
 |aw ps=>obtain⟨vs,rfl,h1,h2⟩:=h;exact⟨vs,rfl,h1,fun i x hi=>(h2 i x hi).mono hb hx hs⟩
 |agg cs=>exact a9.mono (p:=.agg cs) h hb hx hs
 |_=>exact Qu.mono h hb hx hs
theorem dF.WX{w:World}{X:Nat->Prop}{p:PV}{v:Value}(h:a9 w X p v):dF w X p v:=by
 cases p with
 |aw ps=>cases h
 |_=>exact h
theorem a9.data{w:World}{X:Nat->Prop}{p:PV}{v:Value}(h:a9 w X p v):p.aE=true:=by
 have hu:∀(x:PV)(u:Value),Qu w X x u->x.gZ=true:=fun x u hx=>by cases hx<;>rfl
 have cw:∀(l:List PV)(vs:Array Value),(∀(i:Nat)(x:PV),l[i]? =some x->Qu w X x (vs.getD i undef))->l.all PV.gZ=true:=fun l vs hl=>by rw[List.all_eq_true];intro x hx;obtain⟨i,hi⟩:=List.getElem?_of_mem hx;exact hu x _ (hl i x hi)
 cases p with
 |agg cs=>rfl
 |fn f first cap=>
  have h':Qu w X (.fn f first cap) v:=h;cases h' with
  |fn _ _ _ fv cv h1 h2 h3 h4=>simp[PV.aE,cw _ _ h3,cw _ _ h4]
 |_=>cases h<;>rfl
theorem a9.cells{w:World}{X:Nat->Prop}{p:PV}{v:Value}(h:a9 w X p v):
  v.cells.size=p.cells.length/\∀j y,p.cells[j]? =some y->Qu w X y (v.cells.getD j undef):=by
 by_cases ha:∃cs,p= .agg cs
 ·obtain⟨cs,rfl⟩:=ha;obtain⟨vs,rfl,h1,h2⟩:=h;exact⟨h1,h2⟩
 ·have hc:Qu w X p v:=by
   cases p with
   |agg cs=>exact absurd ⟨cs,rfl⟩ ha
   |_=>exact h
  obtain⟨_,h2,h3⟩:=hc.rA;rw[h2,h3];refine⟨rfl,fun j y hy=>?_⟩
  match j,hy with
  |0,hy=>simp at hy;subst hy;exact hc
  |j+1,hy=>simp at hy
theorem a9.qu{w:World}{X:Nat->Prop}{p:PV}{v:Value}(h:Qu w X p v):a9 w X p v:=by
 cases p with
 |agg cs=>cases h
 |_=>exact h
theorem a9.W5{w:World}{X:Nat->Prop}{p:PV}{v:Value}(h:a9 w X p v):∀u∈v.cells.toList,u.oneCell'=true:=by
 intro u hu;obtain⟨h1,h2⟩:=h.cells;obtain⟨j,hj,rfl⟩:=List.getElem_of_mem hu;have fO:j<v.cells.size:=by simpa using hj
 have hp:j<p.cells.length:=by omega
 have:=(h2 j p.cells[j] (List.getElem?_eq_getElem hp)).rA.1;simpa[Array.getD,fO]using this
abbrev Ka0:=@Sem.run_pure
abbrev Ka1:=@List.getElem?_append
abbrev Ka2:=@Nat.mul_add
abbrev Ka3:=@List.getLast?_eq_getElem?
abbrev Ka4:=@List.any_eq_true
abbrev Ka5:=@List.length_drop
abbrev Ka6:=@Rat.intCast_eq_zero_iff
abbrev Ka7:=@Nat.mul_le_mul_left
abbrev Ka8:=@List.replicate_zero
abbrev Ka9:=@List.getElem?_drop
abbrev KaA:=@List.flatMap_nil
abbrev KaB:=@Option.some.injEq
abbrev KaC:=@List.contains_nil
abbrev KaD:=@Int.natAbs_natCast
abbrev KaE:=@List.mem_map
abbrev KaF:=@List.length_take
abbrev KaG:=@List.getElem?_of_mem
abbrev KaH:=@Array.getElem?_eq_some_iff
abbrev KaI:=@Nat.add_mul
abbrev KaJ:=@Nat.mul_le_mul
abbrev KaK:=@Bool.false_eq_true
abbrev KaL:=@List.getElem?_take_of_lt
abbrev KaM:=@List.nil_append
abbrev KaN:=@Nat.lt_of_lt_of_le
abbrev KaO:=@List.mem_singleton
abbrev KaP:=@List.cons_append
abbrev KaQ:=@List.mem_cons
abbrev KaR:=@Nat.mod_eq_of_lt
abbrev KaS:=@Nat.mul_comm
abbrev KaT:=@List.length_map
abbrev KaU:=@Nat.add_zero
abbrev KaV:=@List.mem_append
abbrev KaW:=@List.length_cons
abbrev KaX:=@Rat.intCast_natCast
abbrev KaY:=@Nat.pos_of_ne_zero
abbrev KaZ:=@Array.getD_eq_getD_getElem?
abbrev Kaa:=@Option.map_eq_some_iff
abbrev Kab:=@Option.bind_eq_some_iff
abbrev Kac:=@Nat.le_refl
abbrev Kad:=@List.getElem?_eq_some_iff
abbrev Kae:=@List.take_of_length_le
abbrev Kaf:=@Nat.mul_le_mul_right
abbrev Kag:=@List.getElem_mem
abbrev Kah:=@List.take_succ_eq_append_getElem
abbrev Kai:=@List.mem_of_getElem?
abbrev Kaj:=@Result.andThen_ok
abbrev Kak:=@List.append_nil
abbrev Kal:=@List.drop_of_length_le
abbrev Kam:=@List.getElem?_eq_getElem
abbrev Kan:=@List.length_append
abbrev Kao:=@Sem.run_bind
abbrev Kap:=@List.getD_eq_getElem?_getD
abbrev Kaq:=@List.mem_flatMap
abbrev Kar:=@List.take_length
abbrev Kas:=@List.length_eq_zero_iff
abbrev Kat:=@Bool.and_eq_true
abbrev Kau:=@List.flatMap_cons
abbrev Kav:=@List.contains_cons
abbrev Kaw:=@Nat.le_trans
abbrev Kax:=@List.getElem?_map
abbrev Kay:=@List.all_eq_true
abbrev Kaz:=@List.drop_eq_getElem_cons
abbrev Kb0:=@List.range_succ
abbrev Kb1:=@Nat.mul_zero
abbrev Kb2:=@Rat.mkRat_eq_div
abbrev Kb3:=@Rat.intCast_le_intCast
abbrev Kb4:=@List.flatMap_append
abbrev Kb5:=@List.take_zero
abbrev Kb6:=@Array.mapM_eq_mapM_toList
abbrev Kb7:=@List.getElem?_append_left
abbrev Kb8:=@List.length_set
abbrev Kb9:=@Rat.natCast_mul
abbrev KbA:=@Nat.pow_succ
abbrev KbB:=@Nat.eq_of_mul_eq_mul_right
abbrev KbC:=@List.any_eq_false
abbrev KbD:=@Nat.pow_le_pow_right
abbrev KbE:=@List.headD_eq_head?_getD
abbrev KbF:=@Nat.mul_one
abbrev KbG:=@List.mem_append_right
abbrev KbH:=@Nat.zero_mul
abbrev KbI:=@Nat.gcd_dvd_left
abbrev KbJ:=@List.append_cons
abbrev KbK:=@List.append_assoc
abbrev KbL:=@List.size_toArray
abbrev KbM:=@Int.toNat_natCast
abbrev KbN:=@Nat.pow_pos
abbrev KbO:=@List.mem_cons_self
abbrev KbP:=@Nat.sub_self
abbrev KbQ:=@Nat.add_comm
abbrev KbR:=@List.mem_filterMap
abbrev KbS:=@Bool.or_eq_true
abbrev KbT:=@Option.getD_some
abbrev KbU:=@Bool.true_and
abbrev KbV:=@List.length_zipWith
abbrev KbW:=@Nat.gcd_dvd_right
abbrev KbX:=@List.foldl_append
abbrev KbY:=@Rat.le_trans
abbrev KbZ:=@Nat.min_eq_left
abbrev Kba:=@List.map_cons
abbrev Kbb:=@List.map_congr_left
abbrev Kbc:=@List.mem_of_mem_take
abbrev Kbd:=@Nat.zero_add
abbrev Kbe:=@List.getElem_of_mem
abbrev Kbf:=@List.length_pos_iff
abbrev Kbg:=@List.filterMap_cons
abbrev Kbh:=@Array.getElem?_eq_getElem
abbrev Kbi:=@Nat.mul_assoc
abbrev Kbj:=@Nat.mul_div_cancel_left
abbrev Kbk:=@List.length_nil
abbrev Kbl:=@Rat.mul_le_mul_of_nonneg_right
abbrev Kbm:=@List.mem_cons_of_mem
abbrev Kbn:=@Nat.div_lt_iff_lt_mul
abbrev Kbo:=@List.take_append_drop
abbrev Kbp:=@List.drop_zero
abbrev Kbq:=@List.replicate_succ
abbrev Kbr:=@Nat.div_add_mod
abbrev Kbs:=@Rat.mul_le_mul_of_nonneg_left
abbrev Kbt:=@List.map_nil
abbrev Kbu:=@Rat.intCast_mul
abbrev Kbv:=@Nat.mod_lt
abbrev Kbw:=@List.mem_of_mem_drop
abbrev Kbx:=@Nat.zero_le
abbrev Kby:=@Nat.mul_left_comm
abbrev Kbz:=@Addr.add_lit
abbrev Kc0:=@Int.ofNat_dvd_left
abbrev Kc1:=@Nat.eq_zero_or_pos
abbrev Kc2:=@Nat.gcd_zero_right
abbrev Kc3:=@Rat.intCast_neg
abbrev Kc4:=@List.all_eq_false
abbrev Kc5:=@Rat.mkRat_self
abbrev Kc6:=@Bool.false_and
abbrev Kc7:=@Nat.lt_or_ge
abbrev Kc8:=@List.map_map
abbrev Kc9:=@List.map_set
abbrev KcA:=@Rat.div_def
abbrev KcB:=@List.getElem_map
abbrev KcC:=@Int.natAbs_neg
abbrev KcD:=@Array.getElem?_eq_none
abbrev KcE:=@List.getElem_cons_zero
abbrev KcF:=@Nat.lt_of_le_of_lt
abbrev KcG:=@List.getLast?_cons
abbrev KcH:=@List.countP_append
abbrev KcI:=@Int.le_refl
abbrev KcJ:=@List.foldl_cons
abbrev KcK:=@List.cons.injEq
abbrev KcL:=@Nat.div_le_self
abbrev KcM:=@Bool.true_or
abbrev KcN:=@List.filterMap_append
abbrev KcO:=@Prod.mk.injEq
abbrev KcP:=@Int.fdiv_eq_ediv_of_nonneg
abbrev KcQ:=@Option.ne_none_iff_exists'
abbrev KcR:=@List.mem_append_left
abbrev KcS:=@List.mapM_cons
abbrev KcT:=@List.mem_or_eq_of_mem_set
abbrev KcU:=@List.ext_getElem
abbrev KcV:=@Nat.one_mul
abbrev KcW:=@List.getElem?_range
abbrev KcX:=@Option.pure_def
abbrev KcY:=@List.mem_replicate
abbrev KcZ:=@Option.some.inj
abbrev Kca:=@List.getElem?_take
abbrev Kcb:=@List.length_filterMap_le
abbrev Kcc:=@Nat.div_eq_of_lt
abbrev Kcd:=@List.eq_nil_of_length_eq_zero
abbrev Kce:=@Nat.mul_pos
abbrev Kcf:=@Bool.or_eq_false_iff
abbrev Kcg:=@Nat.add_assoc
abbrev Kch:=@List.mem_range
abbrev Kci:=@Rat.mul_nonneg
abbrev Kcj:=@Array.size_append
abbrev Kck:=@Option.map_some
abbrev Kcl:=@List.getElem?_append_right
abbrev Kcm:=@Nat.sub_zero
abbrev Kcn:=@Bool.false_or
abbrev Kco:=@Nat.dvd_trans
abbrev Kcp:=@Nat.add_mul_mod_self_left
abbrev Kcq:=@Int.natAbs_mul
abbrev Kcr:=@Nat.eq_zero_of_gcd_eq_zero_right
abbrev Kcs:=@Nat.add_mul_div_left
abbrev Kct:=@Array.getElem?_setIfInBounds_ne
abbrev Kcu:=@List.head?_drop
abbrev Kcv:=@List.getElem_append_left
abbrev Kcw:=@Array.eq_empty_of_size_eq_zero
abbrev Kcx:=@Nat.gcd_comm
abbrev Kcy:=@Option.bind_eq_bind
abbrev Kcz:=@List.mem_map_of_mem
abbrev Kda:=@Bool.or_true
abbrev Kdb:=@Option.bind_some
abbrev Kdc:=@Nat.lt_succ_self
abbrev Kdd:=@Nat.min_eq_right
abbrev Kde:=@Nat.gcd_le_right
abbrev Kdf:=@List.getElem_set
abbrev Kdg:=@List.not_mem_nil
abbrev Kdh:=@Nat.dvd_mul_left
abbrev Kdi:=@List.sum_cons
abbrev Kdj:=@Bool.and_true
abbrev Kdk:=@Rat.one_mul
open Go Go.RowKit
structure vI(Y:Nat->Prop)(w w':World):Prop where
 os:w'.os=w.os
 tape:w'.tape=w.tape
 output:w'.output=w.output
 size:w.heap.size<=w'.heap.size
 block:∀b,b<w.heap.size->Y b->w'.heap[b]? =w.heap[b]?
theorem vI.trans{Y:Nat->Prop}{a b c:World}(h:vI Y a b)(k:vI Y b c):vI Y a c:=
 ⟨k.os.trans h.os,k.tape.trans h.tape,k.output.trans h.output,Kaw h.size k.size,fun i hi hY=>(k.block i (KaN hi h.size) hY).trans (h.block i hi hY)⟩
theorem vI.mono{Y Y':Nat->Prop}{a b:World}(h:vI Y a b)(hY:∀i,i<a.heap.size->Y' i->Y i):vI Y' a b:=
 ⟨h.os,h.tape,h.output,h.size,fun i hi hn=>h.block i hi (hY i hi hn)⟩
theorem Ext.tV(X:Nat->Prop)(W:World)(o:Obj):Ext X W (W.alloc o):=
 ⟨rfl,rfl,rfl,by simp,fun b hb _=>Below.heap_alloc W o b hb⟩
theorem CallsIn.al0{F:Fence}(hd:F.depth=none){m m':Nat}{P:Program}{f:FuncId}{args:Array Value}{w:World}{R:Ending->World->Prop}
  (h:CallsIn F m P f args w R):CallsIn F m' P f args w R:=⟨h.1,fun cs _=>h.2 cs (fun d h=>by rw[hd]at h;cases h)⟩
variable {F : Fence} {n : Nat} {P : Program} {w : World}
end Go.FW
namespace Go.FW
open Go Go.RowKit
section
variable {F : Fence} {n : Nat} {P : Program} {ops : Array Oper} {Q : Exit -> Act -> World -> Prop}
def pe:List Bool->Nat
 | []=>0
 |true::l=>pe l
 |false::l=>pe l+1
theorem O1:∀ {l:List Bool} {i:Nat},l[i]? =some false->pe (l.set i true)+1=pe l
 | [],i,h=>by simp at h
 |b::l,0,h=>by simp at h;subst h;simp[pe]
 |b::l,i+1,h=>by simp at h;have:=O1 h;cases b<;>simp[pe]<;>omega
theorem Pb:∀(n:Nat),pe (List.replicate n false)=n
 |0=>rfl
 |n+1=>by simp[Kbq,pe,Pb n]
theorem N6:∀ {l:List Bool} {i:Nat},pe l=0->l[i]? ≠some false
 | [],i,_=>by simp
 |true::l,0,_=>by simp
 |true::l,i+1,h=>by simpa using N6 (l:=l) (i:=i) (by simpa[pe]using h)
 |false::l,_,h=>by simp[pe]at h
def o5(l:Array Bool):Nat->Bool:=fun i=>l.getD i false
theorem aeH{l:Array Bool}{i:Nat}(h:l.getD i true=false):o5 (l.setIfInBounds i true)=fun k=>k==i||o5 l k:=by
 funext k;unfold o5;have hi:i<l.size:=by
  rcases Kc7 i l.size with h'|h'
  ·exact h'
  ·simp[KcD h']at h
 by_cases hk:i=k
 ·subst hk;simp[hi]
 ·rw[getD_set_ne false hk];simp[Ne.symm hk]
def lf(ops:Array Oper)(i:Nat):List Nat:=match ops[i]? with
 |some o=>(o.after.toList.filter (Region.binds .any)).map (·.on)
 |none=>[]
theorem Q9h(I:(Nat->Bool)->Act->World->Prop)
  (ar:∀i,i<ops.size->∀k∈lf ops i,k<i)
  (kJ:∀l i,i<ops.size->l i=false->(∀k∈lf ops i,l k=true)->∀a w,I l a w->wpOpIn F n P ops Q i (I (fun k=>k==i||l k)) a w)
  (uk:∀l a w,(∀i,i<ops.size->l i=true)->I l a w->Q .normal a w):
  ∀(m:Nat)(l:Array Bool)(a:Act)(w:World),pe l.toList=m->l.size=ops.size->I (o5 l) a w->wpAnyIn F n P .any ops Q m l a w:=by
 have fin:∀(l:Array Bool),Region.ready .any ops l=[]->l.size=ops.size->∀i,i<ops.size->o5 l i=true:=by
  intro l hr hz i;induction i using Nat.strongRecOn with
  | ind i ih=>
   intro hi;cases h:o5 l i with
   |true=>rfl
   | false=>
    exfalso;have ho:ops[i]? =some ops[i]:=by simp[hi]
    have:i∈Region.ready .any ops l:=by
     refine mem_ready.2 ⟨?_,_,ho,?_⟩
     ·unfold o5 at h;have dp:i<l.size:=by omega
      simp[dp]at h⊢;exact h
     ·intro e he hb;have hk:e.on∈lf ops i:=by unfold lf;rw[ho];exact KaE.2 ⟨e,List.mem_filter.2 ⟨by simpa using he,hb⟩,rfl⟩
      have wa:=ar i hi _ hk;exact ih e.on wa (by omega)
    rw[hr]at this;cases this
 intro m;induction m with
 | zero=>
  intro l a w hn hz hI;have hr:Region.ready .any ops l=[]:=by
   cases h:Region.ready .any ops l with
   |nil=>rfl
   |cons i is=>
    have hm:i∈Region.ready .any ops l:=by rw[h];exact KbO
    obtain⟨h1,_⟩:=mem_ready.1 hm;refine absurd ?_ (N6 (i:=i) hn);rcases Kc7 i l.size with h'|h'
    ·simp[h']at h1 ⊢;exact h1
    ·simp[KcD h']at h1
  exact⟨hr,uk _ a w (fin l hr hz) hI⟩
 | succ m ih=>
  intro l a w hn hz hI;refine⟨fun hr=>uk _ a w (fin l hr hz) hI,fun i hi=>?_⟩;obtain⟨h1,o,ho,h2⟩:=mem_ready.1 hi;have dp:i<l.size:=by
   rcases Kc7 i l.size with h'|h'
   ·exact h'
   ·simp[KcD h']at h1
  have hls:o5 l i=false:=by unfold o5;simp[dp]at h1⊢;exact h1
  refine wpOpIn_mono (fun a' w' hA=>?_) (kJ (o5 l) i (by omega) hls ?_ a w hI)
  ·have:=O1 (l:=l.toList) (i:=i) (by simp[dp]at h1 ⊢;exact h1);exact ih _ a' w' (by rw[Array.toList_setIfInBounds];omega) (by simpa using hz) (by rw[aeH h1];exact hA)
  ·intro k hk;unfold lf at hk;rw[ho]at hk;obtain⟨e,he,rfl⟩:=KaE.1 hk;obtain⟨he,hb⟩:=List.mem_filter.1 he;exact h2 e (by simpa using he) hb
theorem acC{id:Nat}{a:Act}{w:World}(hm:P.follows .mixedOrders=true)(I:(Nat->Bool)->Act->World->Prop)
  (ar:∀i,i<ops.size->∀k∈lf ops i,k<i) (h0:I (fun _=>false) a w.drew)
  (kJ:∀l i,i<ops.size->l i=false->(∀k∈lf ops i,l k=true)->∀a w,I l a w->wpOpIn F n P ops Q i (I (fun k=>k==i||l k)) a w)
  (uk:∀l a w,(∀i,i<ops.size->l i=true)->I l a w->Q .normal a w):(Code.region id ops true).wpIn F n P Q a w:=by
 refine wpIn_region_any hm (Q9h I ar kJ uk _ _ a _ ?_ (by simp) ?_)
 ·rw[Array.toList_replicate,Pb]
 ·have:o5 (Array.replicate ops.size false)=fun _=>false:=by funext k;unfold o5;simp[Array.getD]
  rw[this];exact h0
theorem Pc{tmps:Array Value}{d k:Nat}{v:Value}(h:d≠k):(tmps.setIfInBounds d v)[k]?.getD undef=tmps[k]?.getD undef:=by simp[Kct h]
structure iC(ops:Array Oper)(N:Nat)(V:Nat->Value)(Z:List (Nat×Value))(Wd:(Nat->Bool)->World->Prop)(l:Nat->Bool)(a:Act)(w:World):Prop where
 d0:a.defers=[]
 sz:a.tmps.size=N
 fixed:∀z∈Z,a.tmps[z.1]?.getD undef=z.2
 slot:∀i o d,l i=true->ops[i]? =some o->o.dst=some d->a.tmps[d]?.getD undef=V i
 cl:∀j,l j=true->∀k∈lf ops j,l k=true
 wd:Wd l w
def yd(ops:Array Oper)(N:Nat)(Z:List (Nat×Value))(i:Nat):Bool:=
 match(ops[i]?).bind (·.dst)with
 |some d=>decide (d<N)&&Z.all (fun z=>z.1 !=d)&&(List.range ops.size).all fun j=>j==i||(ops[j]?).bind (·.dst) !=some d
 |none=>false
variable {N : Nat} {V : Nat -> Value} {Z : List (Nat × Value)} {Wd : (Nat -> Bool) -> World -> Prop} {l : Nat -> Bool} {a : Act} {w w' : World} {i : Nat}
theorem iC.put(h:iC ops N V Z Wd l a w)(dq:∀k∈lf ops i,l k=true)(ha:yd ops N Z i=true){o:Oper}(ho:ops[i]? =some o)(hw:Wd (fun k=>k==i||l k) w'):
  iC ops N V Z Wd (fun k=>k==i||l k) (a.put o.dst (V i)) w':=by
 unfold yd at ha;rw[ho]at ha;cases hd:o.dst with
 |none=>simp[hd]at ha
 | some d=>
  simp only[Kdb,hd,Kat,decide_eq_true_eq,Kay,Kch,bne_iff_ne,KbS,beq_iff_eq]at ha;obtain⟨⟨h1,h2⟩,h3⟩:=ha;have hp:a.put (some d) (V i)={ a with tmps:=a.tmps.setIfInBounds d (V i) }:=rfl;rw[hp];refine⟨h.d0,by simp[h.sz],fun z hz=>?_,fun j oj dj hj nk sB=>?_,fun j hj k hk=>?_,hw⟩
  ·rw[<-h.fixed z hz];have:=h2 z hz;simp only;rw[Pc (Ne.symm this)]
  ·simp only;by_cases eh:j=i
   ·subst eh;rw[ho]at nk;cases nk;rw[hd]at sB;cases sB;simp[h.sz,h1]
   ·have hjs:j<ops.size:=(KaH.1 nk).1;have h4:=(h3 j hjs).resolve_left eh;rw[nk]at h4;have h5:dj≠d:=fun e=>h4 (by simp[sB,e]);rw[Pc (Ne.symm h5)];exact h.slot j oj dj (by have:(j==i)=false:=(by simpa using eh);rw[this]at hj;simpa using hj) nk sB
  ·by_cases eh:j=i
   ·subst eh;simp[dq k hk]
   ·have:(j==i)=false:=by simpa using eh
    rw[this]at hj;simp[h.cl j (by simpa using hj) k hk]
theorem iC.val(h:iC ops N V Z Wd l a w)(dq:∀k∈lf ops i,l k=true)(ha:yd ops N Z i=true){o:Oper}(ho:ops[i]? =some o)(hg:Region.wanted o (yielded ops a.tmps)=true)
  (sv:o.about P w a.eval=none) (hop:∀c,o.op≠ .defer c) (bo:(execOp a.eval o).run P w= .ok (.value (V i)) w') (hw:Wd (fun k=>k==i||l k) w'):
  wpOpIn F n P ops Q i (iC ops N V Z Wd (fun k=>k==i||l k)) a w:=by
 unfold wpOpIn;rw[ho];simp only[hg,if_true];refine⟨fun f hf=>(by rw[sv]at hf;cases hf),?_⟩;have:o.semAt F.round a.eval=execOp a.eval o:=by
  cases F.round with
  |none=>simp[Oper.semAt]
  |some l=>exact Oper.semAt_some l _ _ hop
 rw[this,bo];exact h.put dq ha ho hw
theorem iC.skip(h:iC ops N V Z Wd l a w)(dq:∀k∈lf ops i,l k=true)(ha:yd ops N Z i=true){o:Oper}(ho:ops[i]? =some o)(hg:Region.wanted o (yielded ops a.tmps)=false)
  (sv:∀f,o.about P w a.eval=some f->F.fn f) (hV:V i=undef) (hw:Wd (fun k=>k==i||l k) w):wpOpIn F n P ops Q i (iC ops N V Z Wd (fun k=>k==i||l k)) a w:=by
 unfold wpOpIn;rw[ho];simp only[hg,KaK,if_false];have:=h.put dq ha ho hw;rw[hV]at this;exact⟨sv,this⟩
theorem iC.app(h:iC ops N V Z Wd l a w)(dq:∀k∈lf ops i,l k=true)(ha:yd ops N Z i=true){o:Oper}(ho:ops[i]? =some o)(hg:Region.wanted o (yielded ops a.tmps)=true){s x:Operand}{t:TypeId}
  (hop:o.op=Op.call { callee:=Callee.builtin Builtin.append,args:= #[s,x],argTypes:= #[t,t] }) {v u:Value} (hs:a.eval s=v) (hx:a.eval x=u) (bo:(Builtin.append_ #[t,t] o.type #[v,u]).run P w= .ok (V i) w') (hw:Wd (fun k=>k==i||l k) w'):
  wpOpIn F n P ops Q i (iC ops N V Z Wd (fun k=>k==i||l k)) a w:=by
 refine h.val dq ha ho hg ?_ (by rw[hop];intro c hc;cases hc) ?_ hw
 ·simp[Oper.about,hop,resolve,Target.leads,Ka0]
 ·simp[execOp,hop,resolve,invoke,builtin,hs,hx,bo,Result.andThen]
end
end Go.FW
namespace Go.FW
open Go Go.RowKit
section
variable {F : Fence} {n : Nat} {P : Program} {ops : Array Oper} {Q : Exit -> Act -> World -> Prop}
variable {N : Nat} {V : Nat -> Value} {Z : List (Nat × Value)} {Wd : (Nat -> Bool) -> World -> Prop} {l : Nat -> Bool} {a : Act} {w w' : World} {i : Nat}
end
end Go.FW
namespace Go.FW
open Go Go.RowKit
section
variable {F : Fence} {n : Nat} {P : Program} {ops : Array Oper} {Q : Exit -> Act -> World -> Prop}
variable {G : Type} {N : Nat} {V : G -> Nat -> Value} {Z : List (Nat × Value)} {Wd : G -> (Nat -> Bool) -> World -> Prop} {l : Nat -> Bool} {a : Act} {w w' : World} {i : Nat} {g : G}
def mO(ops:Array Oper)(N:Nat)(V:G->Nat->Value)(Z:List (Nat×Value))(Wd:G->(Nat->Bool)->World->Prop)(l:Nat->Bool)(a:Act)(w:World):Prop:=∃g,iC ops N (V g) Z (Wd g) l a w
theorem mO.of(h:wpOpIn F n P ops Q i (iC ops N (V g) Z (Wd g) l) a w):wpOpIn F n P ops Q i (mO ops N V Z Wd l) a w:=wpOpIn_mono (fun _ _ h=>⟨g,h⟩) h
theorem iC.alV(h:iC ops N (V g) Z (Wd g) l a w)(dq:∀k∈lf ops i,l k=true)(hd:F.depth=none)(ha:yd ops N Z i=true){o:Oper}(ho:ops[i]? =some o)(hg:Region.wanted o (yielded ops a.tmps)=true){c:Call}(hop:o.op= .call c){f:FuncId}{xs:Array Operand}{ty:Array TypeId}
  (hc:c={ callee:=.value (.func f),args:=xs,argTypes:=ty }) {vs:Array Value} (hx:xs.map a.eval=vs) (hFf:F.fn f) (ef:∀args w,(callFunc f args).run P w= .ok (.enter f args) w) {R:Ending->World->Prop} {m:Nat} (hy:CallsIn F m P f vs w R)
  (hR:∀e w',R e w'->∃g',e= .returned (V g' i)/\(∀j,l j=true->V g' j=V g j)/\Wd g' (fun k=>k==i||l k) w'):wpOpIn F n P ops Q i (mO ops N V Z Wd (fun k=>k==i||l k)) a w:=by
 unfold wpOpIn;rw[ho];simp only[hg,if_true];have dw:(resolve a.eval c o.type).run P w= .ok { target:=.fn (.func f) #[],args:=vs } w:=by subst hc;simp only[resolve,hx];simp[Deferred.ofValue,Act.eval]
 refine⟨fun f' hf=>?_,?_⟩
 ·simp[Oper.about,hop,dw,Target.leads]at hf;subst hf;exact hFf
 ·have:o.semAt F.round a.eval=execOp a.eval o:=by
   cases F.round with
   |none=>simp[Oper.semAt]
   |some l=>exact Oper.semAt_some l _ _ (by rw[hop];intro c h;cases h)
  have bo:(execOp a.eval o).run P w= .ok (.enter f vs) w:=by simp only[execOp,hop,Kao,dw,Result.andThen];simp[go_sem,invoke,ef]
  rw[this,bo];refine⟨fun h=>(by rw[hd]at h;cases h),(CallsIn.al0 hd hy).mono fun e w' he=>?_⟩;obtain⟨g',rfl,hV,hw⟩:=hR e w' he;have h2:iC ops N (V g') Z (fun _ _=>True) l a w:=⟨h.d0,h.sz,h.fixed,fun j o d hj ho hd=>by rw[hV j hj];exact h.slot j o d hj ho hd,h.cl,trivial⟩
  have t:=h2.put (w':=w') dq ha ho trivial;exact⟨g',t.d0,t.sz,t.fixed,t.slot,t.cl,hw⟩
theorem iC.sto{V:Nat->Value}{Wd:(Nat->Bool)->World->Prop}(h:iC ops N V Z Wd l a w)(dq:∀k∈lf ops i,l k=true){o:Oper}(ho:ops[i]? =some o)(VC:o.dst=none)(hg:Region.wanted o (yielded ops a.tmps)=true)
  (sv:o.about P w a.eval=none) (hop:∀c,o.op≠ .defer c) (bo:(execOp a.eval o).run P w= .ok .skip w') (hw:Wd (fun k=>k==i||l k) w'):
  wpOpIn F n P ops Q i (iC ops N V Z Wd (fun k=>k==i||l k)) a w:=by
 unfold wpOpIn;rw[ho];simp only[hg,if_true];refine⟨fun f hf=>(by rw[sv]at hf;cases hf),?_⟩;have:o.semAt F.round a.eval=execOp a.eval o:=by
  cases F.round with
  |none=>simp[Oper.semAt]
  |some l=>exact Oper.semAt_some l _ _ hop
 rw[this,bo];show iC ops N V Z Wd (fun k=>k==i||l k) (a.put o.dst undef) w';rw[VC];refine⟨h.d0,h.sz,h.fixed,fun j oj d hj nk sB=>?_,fun j hj k hk=>?_,hw⟩
 ·by_cases eh:j=i
  ·subst eh;rw[ho]at nk;cases nk;rw[VC]at sB;cases sB
  ·have:(j==i)=false:=(by simpa using eh)
   rw[this]at hj;exact h.slot j oj d (by simpa using hj) nk sB
 ·by_cases eh:j=i
  ·subst eh;simp[dq k hk]
  ·have:(j==i)=false:=(by simpa using eh)
   rw[this]at hj;simp[h.cl j (by simpa using hj) k hk]
theorem Q9i{id:Nat}{a:Act}{w:World}(hm:P.follows .mixedOrders=true)(N:Nat)(V:G->Nat->Value)(Z:List (Nat×Value))(Wd:G->(Nat->Bool)->World->Prop)
  (ar:∀i,i<ops.size->∀k∈lf ops i,k<i) (h0:mO ops N V Z Wd (fun _=>false) a w.drew)
  (kJ:∀l i,i<ops.size->l i=false->(∀k∈lf ops i,l k=true)->∀a w,mO ops N V Z Wd l a w->wpOpIn F n P ops Q i (mO ops N V Z Wd (fun k=>k==i||l k)) a w)
  (uk:∀l a w,(∀i,i<ops.size->l i=true)->mO ops N V Z Wd l a w->Q .normal a w):(Code.region id ops true).wpIn F n P Q a w:=
 acC hm _ ar h0 kJ uk
end
end Go.FW
namespace Go.FW
open Go
theorem aeI{w:World}{X:Nat->Prop}{base:Nat}{e:TypeId}{v:Value}{vs:List Value}{ps:List PV}{n:Nat}(h:w.ownsRow base e 1 v n vs)(hn:ps.length=n)(hX:∀b,v.ownBlock=some b->¬X b)(hc:∀p∈ps,p.cells=[p])
  (hr:∀j (hj:j<ps.length),Qu w X ps[j] (vs.getD j undef)):Qu w X (.sl 1 ps) v:=by
 subst hn;obtain⟨hl,hv⟩:=h;rcases hv with⟨rfl,h0⟩|⟨g,cap,cur,rfl,hb,hg,kG,gV,fR,bk⟩
 ·have:ps=[]:=Kas.1 h0;subst this;exact .gK 1 _ _ (Kbx _)
 ·refine .sl 1 ps g 0 cap (fun i _=>vs.getD i undef) (hX g rfl) (KaH.1 hg).1 kG gV ?_ ?_ ?_
  ·intro i x hx;rw[hc x (Kai hx)];rfl
  ·intro i hi j hj;obtain rfl:j=0:=by omega
   have iG:i<cur.size:=by omega
   have e1:vs.getD i undef=cur[i]:=by rw[Kap,<-bk,Kca,if_pos (by omega)];simp[iG]
   simp only[World.cell?,Kbd,KbF,KaU,hg,e1];simp[iG]
  ·intro i x hx j y hy;have hm:=Kai hx;rw[hc x hm]at hy;obtain⟨hi,rfl⟩:=Kad.1 hx
   match j,hy with
   |0,hy=>simp at hy;subst hy;exact hr i hi
theorem Cl{P:Program}{fn:Func}{p u:Tmp}{ty:TypeId}(h:fn.results= #[.cell p ty,.tmp u])(tmps:Array Value)(w:World)(g:Nat)(t:TypeId)(cs:Array Value)(fr:Nat×Nat)(d:TypeDesc)
  (hp:tmps.getD p undef= .pointer (some ⟨g,0,none⟩)) (hg:w.heap[g]? =some (.cells cs t fr))
  (hu:P.underlying ty=some d)
  (hd:(match d with| .struct _| .array _ _=>true|_=>false)=true) (hi:(P.info? ty).map (·.size)=some cs.size):
  (results fn tmps).run P w= .ok (.tuple #[.agg cs,tmps.getD u undef]) w:=by
 rw[results_cell_tmp h,hp];simp[asAddr,run_loadVar_row w g t ty cs fr d hg hu hd hi,Result.andThen]
theorem Ext.setCell{Y:Nat->Prop}(w:World)(a:Addr)(v:Value)(h:Y a.block):Ext Y w (w.setCell a v):=
 ⟨rfl,rfl,rfl,by simp[World.setCell],fun b _ hn=>heap_setCell_other w a b v (fun e=>hn (e▸h))⟩
theorem Qu.AB{w:World}{X:Nat->Prop}{ps:List PV}{v:Value}(h:Qu w X (.sl 2 ps) v){i:Nat}(hi:i<ps.length){p q:PV}(hp:ps[i]= .agg [p,q]):
  ∃b off cap u1 u2,v= .slice (some ⟨b,off,none⟩) ps.length cap/\w.cell? ⟨b,off+i*2,none⟩=some u1/\w.cell? ⟨b,off+i*2+1,none⟩=some u2/\Qu w X p u1/\Qu w X q u2/\¬X b/\b<w.heap.size:=by
 generalize hY:PV.sl 2 ps=Y at h;cases h with
 |gK e a cap=>cases hY;simp at hi
 |sl e xs b off cap vs hX hb hl hc he hv hr=>
  cases hY;have hx:ps[i]? =some (.agg [p,q]):=by rw[Kam hi,hp]
  exact⟨b,off,cap,vs i 0,vs i 1,rfl,hv i hi 0 (by omega),hv i hi 1 (by omega),hr i _ hx 0 p rfl,hr i _ hx 1 q rfl,hX,hb⟩
 |_=>cases hY
theorem acD{w:World}{X:Nat->Prop}{base:Nat}{ty:TypeId}{v:Value}{vs:List Value}{ps:List PV}{n e:Nat}(h:w.ownsRow base ty e v n vs)(hn:ps.length=n)(hX:∀b,v.ownBlock=some b->¬X b)(hc:∀p∈ps,p.cells.length=e)
  (hr:∀j (hj:j<ps.length) k y,ps[j].cells[k]? =some y->Qu w X y (vs.getD (j*e+k) undef)):Qu w X (.sl e ps) v:=by
 subst hn;obtain⟨hl,hv⟩:=h;rcases hv with⟨rfl,h0⟩|⟨g,cap,cur,rfl,hb,hg,kG,gV,fR,bk⟩
 ·have:ps=[]:=Kas.1 h0;subst this;exact .gK e _ _ (Kbx _)
 ·refine .sl e ps g 0 cap (fun i k=>vs.getD (i*e+k) undef) (hX g rfl) (KaH.1 hg).1 kG gV (fun i x hx=>hc x (Kai hx)) ?_ ?_
  ·intro i hi j hj;have ar:i*e+j<ps.length*e:=by have:=Kaf e (show i+1<=ps.length from hi);rw[KaI]at this;omega
   have iG:i*e+j<cur.size:=by have:=Kaf e kG;omega
   have e1:vs.getD (i*e+j) undef=cur[i*e+j]:=by rw[Kap,<-bk,Kca,if_pos ar];simp[iG]
   simp only[World.cell?,Kbd,hg,e1];simp[iG]
  ·intro i x hx j y hy;obtain⟨hi,rfl⟩:=Kad.1 hx;exact hr i hi j y hy
attribute [go_sem_proc ↓] reduceIte
inductive aP where
 |t (n:Nat)
 |c (p:PV)
 deriving Inhabited
inductive cB where
 |mv (d:Nat) (x:aP)
 |pick (d:Nat) (c a b:aP)
 |bin (d:Nat) (op:BinOp) (bt:Bool) (x y:aP)
 |eqs (d:Nat) (ng:Bool) (x y:aP)
 |B1 (d:Nat) (ng:Bool) (x y:aP)
 |BZ (d:Nat) (x:aP)
 |BY (d:Nat) (x i:aP)
 |un (d:Nat) (op:UnOp) (x:aP)
 |conv (d:Nat) (k:IntKind) (x:aP)
 |len (d:Nat) (x:aP)
 |mx (d:Nat) (x y:aP)
 |mn (d:Nat) (x y:aP)
 |idx (d e:Nat) (x i:aP)
 |BI (d n e:Nat) (x i:aP)
 |BJ (d n e:Nat) (ag:Bool) (x i:aP)
 |cE (d off:Nat) (x:aP)
 |yj (d off n:Nat) (ag:Bool) (x:aP)
 |ld (d n:Nat) (ag:Bool) (x:aP)
 |st (n:Nat) (x v:aP)
 |box (d n ty:Nat) (v:aP)
 |alloc (d n ty:Nat) (z:PV)
 |mk (d e bytes ty:Nat) (z:PV) (l c:aP)
 |bs (d e ty:Nat) (parts:List aP)
 |app (d e bytes ty:Nat) (s x:aP)
 |tX (d e:Nat) (s x:aP)
 |sl (d e:Nat) (x:aP) (lo hi mx:Option aP)
 |ext (d:Nat) (x:aP) (i:Nat)
 |bU (d:Nat) (zero:List PV) (parts:List (Nat×Nat×aP))
 |fn (d f:Nat) (first cap:List aP)
 |call (d:Option Nat) (pr:Bool) (f:aP) (args:List aP)
 |BQ (d:Option Nat) (x:aP)
 |bad (d:Option Nat)
 deriving Inhabited
def cB.dst:cB->Option Nat
 |.mv d _| .pick d _ _ _| .bin d _ _ _ _| .eqs d _ _ _| .B1 d _ _ _| .BZ d _| .BY d _ _| .un d _ _| .conv d _ _| .len d _| .mx d _ _| .mn d _ _| .idx d _ _ _| .BI d _ _ _ _| .BJ d _ _ _ _ _| .cE d _ _| .yj d _ _ _ _
 |.ld d _ _ _| .box d _ _ _| .alloc d _ _ _| .mk d _ _ _ _ _ _| .bs d _ _ _| .app d _ _ _ _ _| .tX d _ _ _| .sl d _ _ _ _ _| .ext d _ _| .bU d _ _| .fn d _ _ _=>some d
 |.st _ _ _=>none
 |.call d _ _ _| .BQ d _| .bad d=>d
structure uN where
 g:Option (Nat×Bool)
 o:cB
 deriving Inhabited
inductive RT where
 |nil
 |o (g:Option (Nat×Bool)) (o:cB) (r:RT)
 |br (a b:RT)
 |wk (r:RT)
 deriving Inhabited
inductive SC where
 |skip
 |rg (r:RT)
 |raw (id:Nat) (ops:Array Oper)
 |seq (a b:SC)
 |cond (c:aP) (a b:SC)
 |block (id:Nat) (a:SC)
 |loop (a:SC)
 |exit (id:Nat)
 |ret
 deriving Inhabited
def zQ:Value->Option PV
 |.int k n=>some (.int k n)
 |.bool b=>some (.bool b)
 |.string s=>some (.str s)
 |.slice none 0 0=>some .aa
 |_=>none
def rR:Value->Option PV
 |.agg cs=>(cs.toList.mapM zQ).map .agg
 |v=>zQ v
def b7:Operand->Option aP
 |.tmp t=>some (.t t)
 |.const v=>(rR v).map .c
 |.func f=>some (.c (.fn f [] []))
 |.global _=>none
def ep(P:Program)(t:TypeId):Option Nat:=(P.info? t).map (·.size)
def lS(P:Program)(t:TypeId):Option Bool:=(P.underlying t).map fun d=>match d with| .struct _| .array _ _=>true|_=>false
def rY(P:Program)(t:TypeId):Option TypeId:=match P.underlying t with|some (.slice e)=>some e|_=>none
def jR(P:Program)(t:TypeId):Option (Nat×Nat×PV):=(P.info? t).bind fun i=>i.zero.bind fun z=>(rR z).map fun p=>(i.size,i.bytes,p)
def nU:Option Operand->Option (Option aP)
 |none=>some none
 |some x=>(b7 x).map some
def Ap(P:Program)(t:TypeId)(parts:List (Nat×Operand)):Option (List (Nat×Nat×aP)):=
 match P.underlying t with
 |some (.struct fs)=>(fs.toList.mapM fun f=>(P.info? f.type).map fun i=>(f.offset,i.size)).bind fun pl=>parts.mapM fun p=>(pl[p.1]?).bind fun q=>(b7 p.2).map fun y=>(q.1,q.2,y)
 |some (.array _ e)=>(ep P e).bind fun n=>parts.mapM fun p=>(b7 p.2).map fun y=>(p.1*n,n,y)
 |_=>none
def FF(P:Program)(t:TypeId):Bool:=match P.underlying t with
 |some (.struct fs)=>match fs.toList with
  | [f, g] => f.name != "_" && g.name != "_" && f.offset == 0 && g.offset == 1 && (match P.underlying f.type with | some (.int _) => true | _ => false) && (match P.underlying g.type with | some (.int _) => true | _ => false) && !(P.stoodInHeld t) && !(P.eqGuardType P.depth t)
  |_=>false
 |_=>false
def Cd:BinOp->Option Bool
 |.eql=>some false
 |.neq=>some true
 |_=>none
def xQ(P:Program)(t:TypeId):Bool:=match P.underlying t with|some .string=>true|_=>false
def y4(P:Program)(op:BinOp)(t:TypeId)(d:Nat)(x y:aP):cB:=
 match(if FF P t then Cd op else none)with
 |some ng=>.eqs d ng x y
 |none=>match(if xQ P t then Cd op else none)with
  |some ng=>.B1 d ng x y
  |none=>.bin d op (match P.underlying t with|some .bool=>true|_=>false) x y
def aej : List String := ["geoprover/matrix.reduce", "geoprover/matrix.subtract", "geoprover/geoproverref09.echelon"]
def P8(P:Program)(f:aP):Bool:=match f with
 |.c (.fn g _ _)=>(P.funcs[g]?).any fun fn=>aej.contains fn.name
 |_=>false
def mE(P:Program)(draw:Bool)(o:Oper):Option cB:=
 match o.op,o.dst with
 |.move x,some d| .assign x,some d=>(b7 x).map (.mv d)
 |.pick c a b,some d=>(b7 c).bind fun c=>(b7 a).bind fun a=>(b7 b).map fun b=>.pick d c a b
 |.binOp op t x y _,some d=>(b7 x).bind fun x=>(b7 y).map fun y=>y4 P op t d x y
 |.unOp op _ x,some d=>(b7 x).map (.un d op)
 |.convert s t x,some d=>match P.underlying s,P.underlying t with
  |some _,some (.int k)=>(b7 x).map (.conv d k)
  |_,_=>none
 |.indexAddr t x i,some d=>(b7 x).bind fun x=>(b7 i).bind fun i=>match P.underlying t with
  |some (.slice e)=>(ep P e).map fun n=>.idx d n x i
  |some (.array len e)=>(ep P e).map fun n=>.BI d len n x i
  |_=>none
 |.index t x i,some d=>(b7 x).bind fun x=>(b7 i).bind fun i=>match P.underlying t with
  |some (.array len e)=>(ep P e).bind fun n=>(lS P e).map fun ag=>.BJ d len n ag x i
  |some .string=>some (.BY d x i)
  |_=>none
 |.fieldAddr t x j,some d=>(b7 x).bind fun x=>match P.underlying t with
  |some (.struct fs)=>(fs[j]?).bind fun f=>(ep P f.type).bind fun n=>if n=0 then none else some (.cE d f.offset x)
  |_=>none
 |.field t x j,some d=>(b7 x).bind fun x=>match P.underlying t with
  |some (.struct fs)=>(fs[j]?).bind fun f=>(ep P f.type).bind fun n=>(lS P f.type).map fun ag=>.yj d f.offset n ag x
  |_=>none
 |.load t x,some d=>(b7 x).bind fun x=>(ep P t).bind fun n=>(lS P t).map fun ag=>.ld d n ag x
 |.store t x v,none=>(b7 x).bind fun x=>(b7 v).bind fun v=>(ep P t).map fun n=>.st n x v
 |.box t v,some d=>(b7 v).bind fun v=>(ep P t).map fun n=>.box d n t v
 |.alloc t,some d=>(jR P t).map fun(n,_,z)=>.alloc d n t z
 |.makeSlice t l c,some d=>(b7 l).bind fun l=>(b7 c).bind fun c=>(rY P t).bind fun e=>(jR P e).map fun(n,by_,z)=>.mk d n by_ e z l c
 |.buildSlice t len parts,some d=>(rY P t).bind fun e=>(jR P e).bind fun r=>
   if parts.toList.map (·.1)=List.range len/\len*r.1<=16777216/\r.2.2.cells.length=r.1 then(parts.toList.mapM fun p=>b7 p.2).map fun ps=>.bs d r.1 e ps else none
 |.build t parts,some d=>(jR P t).bind fun(_,_,z)=>(Ap P t parts.toList).map fun ps=>.bU d z.cells ps
 |.slice t x lo hi m,some d=>(b7 x).bind fun x=>(nU lo).bind fun lo=>(nU hi).bind fun hi=>(nU m).bind fun m=>(rY P t).bind fun e=>(ep P e).map fun n=>.sl d n x lo hi m
 |.extract x i,some d=>(b7 x).map fun x=>.ext d x i
 |.makeFunc (.func f) first cap,some d=>(first.toList.mapM b7).bind fun first=>(cap.toList.mapM b7).map fun cap=>.fn d f first cap
 |.nilCheck x,d=>(b7 x).map fun x=>.BQ d x
 |.call c,d=>match c.callee,c.args.toList,c.argTypes.toList,d with
  |.value f,args,_,d=>(b7 f).bind fun f=>(args.mapM b7).map fun args=>.call d (draw&& !P8 P f) f args
  |.builtin .len,[x],[t],some d=>if xQ P t then(b7 x).map fun x=>.BZ d x else(rY P t).bind fun _=>(b7 x).map fun x=>.len d x
  |.builtin .max,[x,y],_,some d=>(b7 x).bind fun x=>(b7 y).map fun y=>.mx d x y
  |.builtin .min,[x,y],_,some d=>(b7 x).bind fun x=>(b7 y).map fun y=>.mn d x y
  |.builtin .append,[s,x],[t,u],some d=>(b7 s).bind fun s=>(b7 x).bind fun x=>(rY P t).bind fun e=>if t=u then(jR P e).bind fun r=>if r.2.2.cells.length=r.1 then some (.app d r.1 r.2.1 e s x)else none else none
  |.builtin .copy,[s,x],[t,u],some d=>(b7 s).bind fun s=>(b7 x).bind fun x=>(rY P t).bind fun e=>if t=u then(ep P e).map fun n=>.tX d n s x else none
  |_,_,_,_=>none
 |_,_=>none
def fS(P:Program)(draw:Bool)(o:Oper):cB:=(mE P draw o).getD (.bad o.dst)
def rP(P:Program)(n:Nat)(draw:Bool)(ops:Array Oper)(o:Oper):Option uN:=
 if o.dst.all (· <n)then
  match o.guard with
  |none=>some ⟨none,fS P draw o⟩
  |some (j,want)=>match(ops[j]?).bind (·.dst)with
   |some s=>if s<n then some ⟨some (s,want),fS P draw o⟩else none
   |none=>none
 else none
def cB.cls:cB->Nat
 |.ld .. =>1
 |.box .. | .alloc .. | .mk .. | .bs .. | .call .. | .bad _=>2
 |.st .. | .app .. | .tX .. =>3
 |_=>0
def cB.iR:cB->Bool
 |.st .. | .app .. | .tX .. =>true
 |.call _ pr _ _=> !pr
 |_=>false
def cB.apb:cB->Bool
 |.call .. =>true
 |_=>false
def qC(ops:Array Oper):Nat->Nat->Nat->Bool
 |0,_,_=>false
 |n+1,i,j=>match ops[j]? with
  |none=>false
  |some o=>o.after.toList.any fun e=>Region.binds .any e&&(e.on==i||qC ops n i e.on)
def tI(P:Program)(ops:Array Oper)(i:Nat):Nat:=((ops[i]?).map fun o=>(fS P true o).cls).getD 9
def xK(P:Program)(dr:Bool)(ops:Array Oper)(i:Nat):Bool:=((ops[i]?).map fun o=>(fS P dr o).iR).getD false
def FP(P:Program)(dr:Bool)(ops:Array Oper)(aY:Array Bool)(i:Nat):Bool:=
  (Region.ready .any ops aY).contains i&&Region.free .any ops aY i&&
  (match tI P ops i with
   |0=>true
   |1=>(List.range ops.size).all fun j=> !xK P dr ops j||qC ops ops.size i j
   |_=>false)
def tW:List RT->RT
 | []=>.nil
 | [r]=>r
 |r::rs=>.br r (tW rs)
def pG(P:Program)(N:Nat)(dr:Bool)(ops:Array Oper):Nat->Array Bool->Option RT
 |0,aY=>if Region.ready .any ops aY==[]then some .nil else none
 |n+1,aY=>
  if Region.ready .any ops aY==[]then some .nil else
  match(List.range ops.size).find? (FP P dr ops aY)with
  |some i=>((ops[i]?).bind (rP P N dr ops)).bind fun g=>(pG P N dr ops n (aY.setIfInBounds i true)).map fun r=>.o g.g g.o r
  |none=>((Region.ready .any ops aY).mapM fun i=>((ops[i]?).bind (rP P N dr ops)).bind fun g=>(pG P N dr ops n (aY.setIfInBounds i true)).map fun r=>RT.o g.g g.o r).map tW
def z9(P:Program)(N:Nat)(dr:Bool)(ops:Array Oper):Nat->Array Bool->Option RT
 |0,aY=>if Region.ready .any ops aY==[]then some .nil else none
 | n+1,aY=>
  if Region.ready .any ops aY==[]then some .nil else
  match(List.range ops.size).find? (FP P dr ops aY)with
  |some i=>((ops[i]?).bind (rP P N dr ops)).bind fun g=>(z9 P N dr ops n (aY.setIfInBounds i true)).map fun r=>.o g.g g.o r
  |none=>match Region.ready .any ops aY with
   | [i]=>((ops[i]?).bind (rP P N dr ops)).bind fun g=>(z9 P N dr ops n (aY.setIfInBounds i true)).map fun r=>.o g.g g.o r
   |_=>none
theorem Cp{P:Program}{N:Nat}{dr:Bool}{ops:Array Oper}:∀(n:Nat)(aY:Array Bool)(r:RT),z9 P N dr ops n aY=some r->pG P N dr ops n aY=some r
 |0,aY,r,h=>h
 | n +1,aY,r,h=>by
  unfold z9 at h;unfold pG;split
  ·rename_i hr;rw[if_pos hr]at h;exact h
  ·rename_i hr;rw[if_neg hr]at h;split at h
   ·rename_i i hf;simp only[Kab,Kaa]at h⊢;obtain⟨g,hg,r',fP,rfl⟩:=h;exact⟨g,hg,r',Cp n _ _ fP,rfl⟩
   ·rename_i hf;split at h
    ·rename_i i Fk;simp only[Kab,Kaa]at h;obtain⟨g,⟨o,ho,hg⟩,r',fP,rfl⟩:=h;simp[Fk,ho,hg,Cp n _ _ fP,tW]
    ·cases h
def RT.count:RT->Nat
 |.nil=>1
 |.o _ _ r=>r.count
 |.br a b=>a.count+b.count
 |.wk r=>r.count
def xR:List uN->RT
 | []=>.nil
 |g::gs=>.o g.g g.o (xR gs)
def aek(P:Program)(ops:Array Oper):Bool:=decide (ops.size<=100)&&ops.toList.any fun o=>(fS P false o).apb
def ael(P:Program)(ops:Array Oper):Bool:=
 let cs:=ops.toList.map (fS P true)
 decide (100<ops.size)||4<=(cs.filter fun o=>match o with| .app .. =>true|_=>false).length||
  (3<=(cs.filter fun o=>match o with| .box .. | .alloc .. =>true|_=>false).length&&3<=(cs.filter fun o=>match o with| .st .. =>true|_=>false).length)
def zR(P:Program)(N:Nat)(ops:Array Oper)(dr:Bool)(most:Nat):Option SC:=
 if ael P ops then none else
 match pG P N dr ops ops.size (Array.replicate ops.size false)with
 |some r=>if r.count<=most then some (.rg r)else none
 |none=>none
def zS(P:Program)(N:Nat)(ops:Array Oper)(draw:Bool):Option SC:=
 if draw then
  if Region.noSelect ops then
   match(if aek P ops then(z9 P N false ops ops.size (Array.replicate ops.size false)).map .rg else none)with
   |some s=>some s
   |none=>zR P N ops true 100
  else none
 else(ops.toList.mapM (rP P N false ops)).map fun l=>.rg (xR l)
def fI(P:Program)(N:Nat):Code->Option SC
 |.skip=>some .skip
 |.region id ops draw=>match zS P N ops draw with
  |some s=>some s
  |none=>if draw then some (.raw id ops)else none
 |.seq a b=>(fI P N a).bind fun a=>(fI P N b).map fun b=>.seq a b
 |.cond c a b=>(b7 c).bind fun c=>(fI P N a).bind fun a=>(fI P N b).map fun b=>.cond c a b
 |.block id a=>(fI P N a).map (.block id)
 |.loop a=>(fI P N a).map .loop
 |.exit id=>some (.exit id)
 |.ret=>some .ret
 |_=>none
inductive RV where
 |t (s:Nat)
 |cell (s n:Nat) (ag:Bool)
 deriving Inhabited
def mz(P:Program)(r:ResultVar):Option RV:=
 match r with
 |.tmp t=>some (.t t)
 |.cell a t=>(ep P t).bind fun n=>(lS P t).map fun ag=>.cell a n ag
def RT.strip:RT->RT
 |.nil=>.nil
 |.o g p r=>.o g p r.strip
 |.br a b=>.br a.strip b.strip
 |.wk r=>r.strip
def SC.strip:SC->SC
 |.rg r=>.rg r.strip
 |.seq a b=>.seq a.strip b.strip
 |.cond c a b=>.cond c a.strip b.strip
 |.block id a=>.block id a.strip
 |.loop a=>.loop a.strip
 |s=>s
theorem SN:∀l:List uN,(xR l).strip=xR l
 | []=>rfl
 |g::gs=>by simp only[xR,RT.strip,SN gs]
theorem TO:∀l:List RT,(∀r∈l,r.strip=r)->(tW l).strip=tW l
 | [],_=>rfl
 | [r],h=>h r (by simp)
 |r::s::l,h=>by have:=TO (s::l) fun x hx=>h x (Kbm _ hx);simp only[tW,RT.strip,h r (by simp),this]
theorem N7{α β:Type}{f:α->Option β}{Q:β->Prop}(hf:∀a b,f a=some b->Q b):∀(l:List α)(rs:List β),l.mapM f=some rs->∀r∈rs,Q r
 | [],rs,h=>by simp at h;subst h;simp
 |a::l,rs,h=>by
  simp only[KcS,Kcy,KcX,Kab,KaB]at h;obtain⟨b,h1,bs,h2,rfl⟩:=h;intro r hr;rcases KaQ.1 hr with rfl|hr
  ·exact hf _ _ h1
  ·exact N7 hf l bs h2 r hr
theorem Cu{P:Program}{N:Nat}{dr:Bool}{ops:Array Oper}:∀(n:Nat)(aY:Array Bool)(r:RT),pG P N dr ops n aY=some r->r.strip=r
 |0,aY,r,h=>by
  unfold pG at h;split at h
  ·cases h;rfl
  ·cases h
 | n+1,aY,r,h=>by
  unfold pG at h;split at h
  ·cases h;rfl
  ·split at h
   ·simp only[Kab,Kaa]at h;obtain⟨g,_,r',fP,rfl⟩:=h;simp only[RT.strip,Cu n _ _ fP]
   ·simp only[Kaa]at h;obtain⟨rs,ft,rfl⟩:=h;refine TO rs (N7 (fun i b hb=>?_) _ rs ft);simp only[Kab,Kaa]at hb;obtain⟨g,_,r',fP,rfl⟩:=hb;simp only[RT.strip,Cu n _ _ fP]
theorem Qxo{P:Program}{N:Nat}{ops:Array Oper}{draw:Bool}{s:SC}(h:zS P N ops draw=some s):s.strip=s:=by
 unfold zS at h;split at h
 ·split at h
  ·have key:∀(dr:Bool) (most:Nat) (s:SC),zR P N ops dr most=some s->s.strip=s:=fun dr most s hc=>by
    unfold zR at hc;split at hc
    ·cases hc
    split at hc
    ·rename_i r hr;split at hc
     ·cases hc;simp only[SC.strip,Cu _ _ _ hr]
     ·cases hc
    ·cases hc
   split at h
   ·rename_i s' en;cases h;split at en
    ·simp only[Kaa]at en;obtain⟨r,hr,rfl⟩:=en;simp only[SC.strip,Cu _ _ _ (Cp _ _ _ hr)]
    ·cases en
   ·exact key _ _ _ h
  ·cases h
 ·simp only[Kaa]at h;obtain⟨gs,_,rfl⟩:=h;simp only[SC.strip,SN]
theorem XE{P:Program}{N:Nat}:∀(c:Code)(s:SC),fI P N c=some s->s.strip=s:=by
 intro c;induction c with
 |skip=>intro s h;simp[fI]at h;subst h;rfl
 | region id ops draw=>
  intro s h;simp only[fI]at h;split at h
  ·rename_i s' en;cases h;exact Qxo en
  ·split at h
   ·cases h;rfl
   ·cases h
 |seq x y kK wD=>intro s h;simp only[fI,Kab,Kaa]at h;obtain⟨sx,hx,sy,hy,rfl⟩:=h;simp only[SC.strip,kK _ hx,wD _ hy]
 |cond c x y kK wD=>intro s h;simp only[fI,Kab,Kaa]at h;obtain⟨pc,fY,sx,hx,sy,hy,rfl⟩:=h;simp only[SC.strip,kK _ hx,wD _ hy]
 |block id x kK=>intro s h;simp only[fI,Kaa]at h;obtain⟨sx,hx,rfl⟩:=h;simp only[SC.strip,kK _ hx]
 |loop x kK=>intro s h;simp only[fI,Kaa]at h;obtain⟨sx,hx,rfl⟩:=h;simp only[SC.strip,kK _ hx]
 |exit id=>intro s h;simp[fI]at h;subst h;rfl
 |ret=>intro s h;simp[fI]at h;subst h;rfl
 |_=>intro s h;simp[fI]at h
structure aA where
 n:Nat
 rs:List RV
 body:SC
 deriving Inhabited
def Qe(P:Program)(f:Func):Option aA:=
 f.body.bind fun c=>(fI P f.ntmps c).bind fun b=>(f.results.toList.mapM (mz P)).map fun rs=>⟨f.ntmps,rs,b⟩
def aA.strip(s:aA):aA:=⟨s.n,s.rs,s.body.strip⟩
abbrev Zo(o:cB)(r:RT):RT:=.o none o r
abbrev Zg(g:Nat)(b:Bool)(o:cB)(r:RT):RT:=.o (some (g,b)) o r
abbrev Zm(d x:Nat)(r:RT):RT:=.o none (.mv d (.t x)) r
abbrev Zc(d:Nat)(n:Int)(r:RT):RT:=.o none (.mv d (.c (.int .i64 n))) r
abbrev Zf(d o x:Nat)(r:RT):RT:=.o none (.cE d o (.t x)) r
abbrev Zl(d n x:Nat)(r:RT):RT:=.o none (.ld d n false (.t x)) r
abbrev Zh(d n x:Nat)(r:RT):RT:=.o none (.ld d n true (.t x)) r
abbrev Zs(n x v:Nat)(r:RT):RT:=.o none (.st n (.t x) (.t v)) r
abbrev Zi(d e x i:Nat)(r:RT):RT:=.o none (.idx d e (.t x) (.t i)) r
abbrev Zb(d:Nat)(o:BinOp)(x y:Nat)(r:RT):RT:=.o none (.bin d o false (.t x) (.t y)) r
abbrev Zk(d:Nat)(o:BinOp)(x:Nat)(n:Int)(r:RT):RT:=.o none (.bin d o false (.t x) (.c (.int .i64 n))) r
abbrev Zn(d x:Nat)(r:RT):RT:=.o none (.len d (.t x)) r
abbrev Zu(d x:Nat)(r:RT):RT:=.o none (.un d .not (.t x)) r
abbrev Zq(d:Nat)(p:Bool)(f:Nat)(l:List aP)(r:RT):RT:=.o none (.call (some d) p (.c (.fn f [] [])) l) r
abbrev Zr(r:RT)(y:SC):SC:=.seq (.rg r) y
abbrev Zz(n:Int):PV:=.int .i64 n
theorem D0{p:Prop}(h:p:=by first|omega|rfl|(simp+decide only[go_sem]<;>rfl)|fail):p:=h
theorem D1{p A0:Prop}(x0:A0)(h:A0->p:=by intro x0;first|omega|rfl|(simp+decide only[go_sem,x0]<;>rfl)|fail):p:=h x0
theorem D2{p A0 A1:Prop}(x0:A0)(x1:A1)(h:A0->A1->p:=by intro x0 x1;first|omega|rfl|(simp+decide only[go_sem,x0,x1]<;>rfl)|fail):p:=h x0 x1
theorem D3{p A0 A1 A2:Prop}(x0:A0)(x1:A1)(x2:A2)(h:A0->A1->A2->p:=by intro x0 x1 x2;first|omega|rfl|(simp+decide only[go_sem,x0,x1,x2]<;>rfl)|fail):p:=h x0 x1 x2
theorem D4{p A0 A1 A2 A3:Prop}(x0:A0)(x1:A1)(x2:A2)(x3:A3)(h:A0->A1->A2->A3->p:=by intro x0 x1 x2 x3;first|omega|rfl|(simp+decide only[go_sem,x0,x1,x2,x3]<;>rfl)|fail):p:=h x0 x1 x2 x3
theorem D5{p A0 A1 A2 A3 A4:Prop}(x0:A0)(x1:A1)(x2:A2)(x3:A3)(x4:A4)(h:A0->A1->A2->A3->A4->p:=by intro x0 x1 x2 x3 x4;first|omega|rfl|(simp+decide only[go_sem,x0,x1,x2,x3,x4]<;>rfl)|fail):p:=h x0 x1 x2 x3 x4
theorem D6{p A0 A1 A2 A3 A4 A5:Prop}(x0:A0)(x1:A1)(x2:A2)(x3:A3)(x4:A4)(x5:A5)(h:A0->A1->A2->A3->A4->A5->p:=by intro x0 x1 x2 x3 x4 x5;first|omega|rfl|(simp+decide only[go_sem,x0,x1,x2,x3,x4,x5]<;>rfl)|fail):p:=h x0 x1 x2 x3 x4 x5
theorem E0{p:Prop}(h:p:=by first|omega|rfl|(simp+decide only[go_sem,ee,Kav,KaC,Kau,KaA,Kak]<;>rfl)|fail):p:=h
theorem E1{p A0:Prop}(x0:A0)(h:A0->p:=by intro x0;first|omega|rfl|(simp+decide only[go_sem,ee,Kav,KaC,Kau,KaA,Kak,x0]<;>rfl)|fail):p:=h x0
theorem E2{p A0 A1:Prop}(x0:A0)(x1:A1)(h:A0->A1->p:=by intro x0 x1;first|omega|rfl|(simp+decide only[go_sem,ee,Kav,KaC,Kau,KaA,Kak,x0,x1]<;>rfl)|fail):p:=h x0 x1
abbrev Fr:=Nat->PV
structure HB where
 e:Nat
 ty:TypeId
 xs:List PV
 fz:Bool
abbrev HP:=Nat->Option HB
def af(f:Fr)(a:Nat)(v:PV):Fr:=fun b=>if b=a then v else f b
def Qy(h:HP)(a:Nat)(v:HB):HP:=fun b=>if b=a then some v else h b
def bG:Fr:=fun _=>.undef
def aF:HP:=fun _=>none
def cd(β:Nat):Bool:=decide (1000000<=β)
def bK(β:Nat):Bool:=decide (1000000<=β)&&decide (β<2000000)
def jc(β:Nat):Bool:=decide (1500000<=β)&&decide (β<2000000)
theorem Ed{β:Nat}(h:bK β=false):jc β=false:=by simp[bK]at h;simp[jc];omega
theorem vu{β:Nat}(h:cd β=false):bK β=false:=by simp[cd]at h;simp[bK];omega
def PV.bP:PV->List Nat
 |.mp β _ _=>[β]
 |.ay β _ _| .rb β _ _=>[β]
 |_=>[]
def PV.refs:PV->List Nat
 |.mp β _ _=>[β]
 |.ay β _ _| .rb β _ _=>[β]
 |.fn _ first cap=>first.flatMap PV.bP++cap.flatMap PV.bP
 |_=>[]
def PV.kM:PV->Bool
 |.mp .. | .ay .. | .rb .. | .int .. | .bool _| .aa| .sl .. | .pt _| .np .. | .aM .. =>true
 |_=>false
def PV.dT:PV->List Nat
 |.ay β _ _=>[β]
 |.aM γ _ _| .np γ _ _=>[γ]
 |_=>[]
def PV.eD:PV->List Nat
 |.aM γ _ _| .np γ _ _=>[γ]
 |_=>[]
def PV.bT:PV->List Nat
 |.aM γ _ _| .np γ _ _=>[γ]
 |.aU cs=>cs.flatMap PV.dT
 |.eX cs=>cs.flatMap PV.dT
 |.eY cs _=>cs.flatMap PV.dT
 |.aN γ _ _ xs=>γ::xs.flatMap fun x=>x.bl.flatMap PV.dT
 |.fn _ first cap=>first.flatMap PV.eD++cap.flatMap PV.eD
 |_=>[]
def bZ(β:Nat)(p:PV):PV:=if p.refs.contains β then .undef else p
def cK(β:Nat)(fr:Fr):Fr:=fun i=>bZ β (fr i)
def cF(hp:HP):PV->PV
 |.mp β i o=>if bK β then .undef else match hp β with
  |some hb=>match hb.xs[i]? with
   |some x=>.pt (x.cells.drop o)
   |none=>.undef
  |none=>.undef
 |.ay β o n=>if bK β then .undef else match hp β with
  |some hb=>.sl hb.e ((hb.xs.drop o).take n)
  |none=>.undef
 |.rb _ _ _| .aM _ _ _| .np _ _ _| .aU _| .eX _| .eY _ _| .aN _ _ _ _=>.undef
 |p=>p
def aK(hp:HP):PV->PV
 |.fn f first cap=>.fn f (first.map (cF hp)) (cap.map (cF hp))
 |p=>cF hp p
def cf(hp:HP)(l:List Nat):HP:=fun β=>if l.contains β then(hp β).map fun hb=>{ hb with fz:=true }else hp β
def ev(fr:Fr):aP->PV
 |.t n=>fr n
 |.c p=>p
def eM:Bool->Nat->Nat->PV->PV
 |true,n,o,x=>.agg ((x.cells.drop o).take n)
 |false,_,o,x=>(x.cells.drop o).headD .undef
def rC(x:PV)(o:Nat)(v:PV):PV:=.agg (x.cells.take o++v.cells++x.cells.drop (o+v.cells.length))
def PV.oB:PV->Bool
 |.ay .. | .aM .. | .undef=>true
 |_=>false
def nP(cs:List PV):PV:=if cs.any PV.oB then .aU cs else .agg cs
def gQ:List PV->PV
 | [c]=>c
 |cs=>nP cs
def rz(ag:Bool)(n o:Nat)(x:PV):PV:=if ag then nP ((x.bl.drop o).take n)else(x.bl.drop o).headD .undef
def fw:PV->Option (List PV)
 |.aU cs=>if cs.all PV.gZ then some cs else none
 |.aM γ o n=>some [.aM γ o n]
 |.ay β o n=>if cd β then some [.ay β o n]else none
 |.int k n=>some [.int k n]
 |.bool b=>some [.bool b]
 |.aa=>some [.aa]
 |.sl e xs=>some [.sl e xs]
 |.pt cs=>some [.pt cs]
 |.agg cs=>some cs
 |_=>none
def pN(l:List PV)(o:Nat)(cs:List PV):List PV:=l.take o++cs++l.drop (o+cs.length)
def jf(γ:Nat):PV->PV
 |.aN bE e ty xs=>if bE=γ then .undef else .aN bE e ty xs
 |p=>p
def iM(γ:Nat)(fr:Fr):Fr:=fun i=>jf γ (fr i)
def iz(β:Nat):PV->PV
 |.ay dA o n=>if dA=β then .undef else .ay dA o n
 |.aM γ o n=>if γ=β then .undef else .aM γ o n
 |p=>p
def de(β:Nat):PV->PV
 |.aN γ e ty xs=>if γ=β then .undef else .aN γ e ty (xs.map fun x=>gQ (x.bl.map (iz β)))
 |.aU cs=>.aU (cs.map (iz β))
 |.eX cs=>.eX (cs.map (iz β))
 |.eY cs q=>.eY (cs.map (iz β)) q
 |.aM γ o n=>if γ=β then .undef else .aM γ o n
 |.np γ i o=>if γ=β then .undef else .np γ i o
 |.fn f first cap=>if(first.flatMap PV.eD++cap.flatMap PV.eD).contains β then .undef else bZ β (.fn f first cap)
 |p=>bZ β p
def fK(β:Nat)(fr:Fr):Fr:=fun i=>de β (fr i)
abbrev Qg:=Fr->HP->Prop
def cm(op:BinOp)(bt:Bool)(a b:PV)(d:Nat)(fr:Fr)(hp:HP)(K:Qg):Prop:=
 match a,b with
 |.int k x,.int k' y=>
  match op with
  |.shl=>0<=y/\K (af fr d (.int k (k.wrap (x*2^(min y.toNat k.bits))))) hp
  |.shr=>0<=y/\K (af fr d (.int k (x.fdiv (2^(min y.toNat k.bits))))) hp
  |.add=>k=k'/\K (af fr d (.int k (k.wrap (x+y)))) hp
  |.sub=>k=k'/\K (af fr d (.int k (k.wrap (x-y)))) hp
  |.mul=>k=k'/\K (af fr d (.int k (k.wrap (x*y)))) hp
  |.quo=>k=k'/\y≠0/\K (af fr d (.int k (k.wrap (x.tdiv y)))) hp
  |.rem=>k=k'/\y≠0/\K (af fr d (.int k (x.tmod y))) hp
  |.and=>k=k'/\K (af fr d (.int k (k.wrap (BitVec.ofInt k.bits x&&&BitVec.ofInt k.bits y).toNat))) hp
  |.or=>k=k'/\K (af fr d (.int k (k.wrap (BitVec.ofInt k.bits x|||BitVec.ofInt k.bits y).toNat))) hp
  |.xor=>k=k'/\K (af fr d (.int k (k.wrap (BitVec.ofInt k.bits x^^^BitVec.ofInt k.bits y).toNat))) hp
  |.andNot=>False
  |.eql=>k=k'/\K (af fr d (.bool (decide (x=y)))) hp
  |.neq=>k=k'/\K (af fr d (.bool (!decide (x=y)))) hp
  |.lss=>k=k'/\K (af fr d (.bool (decide (x<y)))) hp
  |.leq=>k=k'/\K (af fr d (.bool (decide (x<=y)))) hp
  |.gtr=>k=k'/\K (af fr d (.bool (decide (y<x)))) hp
  |.geq=>k=k'/\K (af fr d (.bool (decide (y<=x)))) hp
 |.bool x,.bool y=>
  match op with
  |.eql=>bt=true/\K (af fr d (.bool (x==y))) hp
  |.neq=>bt=true/\K (af fr d (.bool (!(x==y)))) hp
  |_=>False
 |_,_=>False
def qQ(ng:Bool)(a b:PV)(d:Nat)(fr:Fr)(hp:HP)(K:Qg):Prop:=
 match a,b with
 |.agg [.int k x,.int l y],.agg [.int k' x',.int l' y']=>k=k'/\l=l'/\K (af fr d (.bool (ng !=(decide (x=x')&&decide (y=y'))))) hp
 |_,_=>False
def qR(ng:Bool)(a b:PV)(d:Nat)(fr:Fr)(hp:HP)(K:Qg):Prop:=
 match a,b with
 |.str x,.str y=>K (af fr d (.bool (ng !=decide (x=y)))) hp
 |_,_=>False
def vJ(a:PV)(d:Nat)(fr:Fr)(hp:HP)(K:Qg):Prop:=
 match a with
 |.str s=>K (af fr d (.int .i64 s.size)) hp
 |_=>False
def tO(a i:PV)(d:Nat)(fr:Fr)(hp:HP)(K:Qg):Prop:=
 match a,i with
 |.str s,.int _ n=>0<=n/\n<s.size/\K (af fr d (.int .u8 (s.get! n.toNat).toNat)) hp
 |_,_=>False
def rZ(c a b:PV)(d:Nat)(fr:Fr)(hp:HP)(K:Qg):Prop:=
 match c with
 |.bool t=>(t=true->K (af fr d a) hp)/\(t=false->K (af fr d b) hp)
 |_=>False
def uK(op:UnOp)(a:PV)(d:Nat)(fr:Fr)(hp:HP)(K:Qg):Prop:=
 match op,a with
 |.not,.bool b=>K (af fr d (.bool !b)) hp
 |.neg,.int k n=>K (af fr d (.int k (k.wrap (0-n)))) hp
 |_,_=>False
def vB(k:IntKind)(a:PV)(d:Nat)(fr:Fr)(hp:HP)(K:Qg):Prop:=
 match a with
 |.int _ n=>K (af fr d (.int k (k.wrap n))) hp
 |_=>False
def oL(a:PV)(d:Nat)(fr:Fr)(hp:HP)(K:Qg):Prop:=
 match a with
 |.aa=>K (af fr d (.int .i64 0)) hp
 |.sl _ xs=>K (af fr d (.int .i64 xs.length)) hp
 |.ay _ _ n=>K (af fr d (.int .i64 n)) hp
 |.aM _ _ n=>K (af fr d (.int .i64 n)) hp
 |_=>False
def wH(a b:PV)(d:Nat)(fr:Fr)(hp:HP)(K:Qg):Prop:=
 match a,b with
 |.int k x,.int _ y=>K (af fr d (.int k (max x y))) hp
 |_,_=>False
def wG(a b:PV)(d:Nat)(fr:Fr)(hp:HP)(K:Qg):Prop:=
 match a,b with
 |.int k x,.int _ y=>K (af fr d (.int k (min x y))) hp
 |_,_=>False
def dM(e:Nat)(a i:PV)(d:Nat)(fr:Fr)(hp:HP)(K:Qg):Prop:=
 match a,i with
 |.sl e' xs,.int _ n=>e=e'/\0<=n/\∃h:n.toNat<xs.length,K (af fr d (.pt (xs[n.toNat]'h).cells)) hp
 |.ay β o m,.int _ n=>0<=n/\n.toNat<m/\(hp β).map (·.e)=some e/\K (af fr d (.mp β (o+n.toNat) 0)) hp
 |.aM γ o m,.int _ n=>0<=n/\n.toNat<m/\(hp γ).map (·.e)=some e/\K (af fr d (.np γ (o+n.toNat) 0)) hp
 |_,_=>False
def qM(len e:Nat)(a i:PV)(d:Nat)(fr:Fr)(hp:HP)(K:Qg):Prop:=
 match a,i with
 |.mp β j o,.int _ n=>0<=n/\n<len/\K (af fr d (.mp β j (o+n.toNat*e))) hp
 |.pt cs,.int _ n=>0<=n/\n<len/\n.toNat*e<=cs.length/\K (af fr d (.pt (cs.drop (n.toNat*e)))) hp
 |_,_=>False
def xS(len e:Nat)(ag:Bool)(a i:PV)(d:Nat)(fr:Fr)(hp:HP)(K:Qg):Prop:=
 match a,i with
 |.agg cs,.int _ n=>0<=n/\n<len/\n.toNat*e+e<=cs.length/\(ag=false->e=1)/\K (af fr d (eM ag e (n.toNat*e) (.agg cs))) hp
 |_,_=>False
def qS(off:Nat)(a:PV)(d:Nat)(fr:Fr)(hp:HP)(K:Qg):Prop:=
 match a with
 |.mp β i o=>K (af fr d (.mp β i (o+off))) hp
 |.np γ i o=>K (af fr d (.np γ i (o+off))) hp
 |.pt cs=>off<=cs.length/\K (af fr d (.pt (cs.drop off))) hp
 |_=>False
def qN(off n:Nat)(ag:Bool)(a:PV)(d:Nat)(fr:Fr)(hp:HP)(K:Qg):Prop:=
 match a with
 |.agg cs=>off+n<=cs.length/\(ag=false->n=1)/\K (af fr d (eM ag n off (.agg cs))) hp
 |.aU cs=>off+n<=cs.length/\(ag=false->n=1)/\K (af fr d (rz ag n off (.aU cs))) hp
 |_=>False
def kP(n:Nat)(ag:Bool)(a:PV)(d:Nat)(fr:Fr)(hp:HP)(K:Qg):Prop:=
 match a with
 |.mp β i o=>match hp β with
  |some hb=>∃h:i<hb.xs.length,o+n<=hb.e/\(ag=false->n=1)/\K (af fr d (eM ag n o (hb.xs[i]'h))) hp
  |none=>False
 |.pt cs=>n<=cs.length/\(ag=false->n=1)/\K (af fr d (eM ag n 0 (.agg cs))) hp
 |.rb β o m=>n=1/\ag=false/\K (af fr d (.ay β o m)) hp
 |.np γ i o=>match fr γ with
  |.aN bE e _ xs=>bE=γ/\∃h:i<xs.length,o+n<=e/\(ag=false->n=1)/\K (af fr d (rz ag n o (xs[i]'h))) hp
  |_=>False
 |_=>False
def o9 (n:Nat) (a v:PV) (fr:Fr) (hp:HP) (K:Qg):Prop:=
 match a with
 |.mp β i o=>match cf hp v.refs β with
  | some hb=>hb.fz=false/\(aK hp v).aE=true/\(aK hp v).cells.length=n/\∃h:i<hb.xs.length,o+n<=hb.e/\
    K fr (Qy (cf hp v.refs) β { hb with xs:=hb.xs.set i (if n=hb.e then aK hp v else rC (hb.xs[i]'h) o (aK hp v)) })
  |none=>False
 |.np γ i o=>match fr γ with
  |.aN bE e ty xs=>bE=γ/\(∃hb,hp γ=some hb/\hb.fz=false)/\∃h:i<xs.length,o+n<=e/\match fw v with
   |some cs=>cs.length=n/\K (af (iM γ fr) γ (.aN γ e ty (xs.set i (gQ (pN (xs[i]'h).bl o cs))))) hp
   |none=>False
  |_=>False
 |_=>False
def c8(d:Nat):Nat:=4000000+d
def tP(n ty:Nat)(cs:List PV)(d:Nat)(fr:Fr)(hp:HP)(K:Qg):Prop:=
 (cs.length=n/\0<n/\cs.all PV.gZ=true/\cs.all (fun x=> !(x.dT.contains (c8 d)))=true)/\
  K (af (af (fK (c8 d) fr) (c8 d) (.aN (c8 d) n ty [.aU cs])) d (.np (c8 d) 0 0)) (Qy hp (c8 d) ⟨n,ty,[],false⟩)
def fU(n ty:Nat)(v:PV)(d:Nat)(fr:Fr)(hp:HP)(K:Qg):Prop:=
 match v with
 |.aU cs=>tP n ty cs d fr hp K
 |v=>match(match v with| .ay β o m=>if bK β then some (β,o,m)else none|_=>none)with
 |some (β,o,m)=>K (af fr d (.rb β o m)) hp
 |none=>
 (aK hp v).aE=true/\(aK hp v).cells.length=n/\0<n/\K (af (cK d fr) d (.mp d 0 0)) (Qy (cf hp v.refs) d ⟨n,ty,[aK hp v],false⟩)
def nv(e by_ ty:Nat)(z l c:PV)(d:Nat)(fr:Fr)(hp:HP)(K:Qg):Prop:=
 match l,c with
 |.int _ L,.int _ C=>0<e/\z.cells.length=e/\0<=L/\L<=C/\by_*C<=281474976710656/\C<=9223372036854775807/\
   K (af (cK d fr) d (.ms d L.toNat)) (Qy hp d ⟨e,ty,List.replicate L.toNat z,false⟩)
 |_,_=>False
def Ij(hp:HP)(e:Nat)(ps:List PV):Prop:=∀p∈ps,(aK hp p).aE=true/\(aK hp p).cells.length=e
def lL:PV->Bool
 |.ay β 0 _=>decide (5000000<=β)
 |_=>false
def oM:List PV->Bool
 | [x]=>lL x
 |_=>false
def UK(e ty:Nat)(ps:List PV)(d:Nat)(fr:Fr)(hp:HP)(K:Qg):Prop:=
 e=1/\K (af (af (fK (c8 d) fr) (c8 d) (.aN (c8 d) 1 ty ps)) d (.aM (c8 d) 0 1)) (Qy hp (c8 d) ⟨1,ty,[],false⟩)
def xT (e by_ ty:Nat) (s x:PV) (d:Nat) (fr:Fr) (hp:HP) (K:Qg):Prop:=
 match x with
 |.aM δ 0 1=>match fr δ with
  |.aN NA 1 _ [y]=>NA=δ/\lL y=true/\e=1/\
   match s with
   |.aa=>by_<=140737488355328/\K (af (af (fK (c8 d) fr) (c8 d) (.aN (c8 d) 1 ty [y])) d (.aM (c8 d) 0 1)) (Qy hp (c8 d) ⟨1,ty,[],false⟩)
   |.aM γ 0 k=>match fr γ with
    |.aN bE 1 oC xs=>(bE=γ/\γ<5000000/\bK γ=false/\oC=ty/\k=xs.length/\xs.all lL=true/\(k+1)*by_<=140737488355328/\k+1<=9223372036854775807)/\(∃hb,hp γ=some hb/\hb.fz=false)/\
      K (af (af (fK γ fr) γ (.aN γ 1 ty (xs++[y]))) d (.aM γ 0 (k+1))) (Qy hp γ ⟨1,ty,[],false⟩)
    |_=>False
   |_=>False
  |_=>False
 |_=>False
def Em(e ty:Nat)(ps:List PV)(d:Nat)(fr:Fr)(hp:HP)(K:Qg):Prop:=
 0<e/\Ij hp e ps/\K (af (cK d fr) d (.ms d ps.length)) (Qy (cf hp (ps.flatMap PV.refs)) d ⟨e,ty,ps.map (aK hp),false⟩)
def oc(e ty:Nat)(ps:List PV)(d:Nat)(fr:Fr)(hp:HP)(K:Qg):Prop:=if oM ps=true then UK e ty ps d fr hp K else Em e ty ps d fr hp K
def jA(hp:HP):PV->Option (Nat×List PV)
 |.aa=>some (0,[])
 |.sl e xs=>some (e,xs)
 |.ay β o n=>(hp β).map fun hb=>(hb.e,(hb.xs.drop o).take n)
 |_=>none
def iO (e by_ ty:Nat) (s x:PV) (d:Nat) (fr:Fr) (hp:HP) (K:Qg):Prop:=
 match jA hp x with
 |none=>xT e by_ ty s x d fr hp K
 | some (e',ys)=>0<e/\(e'=e∨ys=[])/\
  match s with
  |.aa=>ys.length*by_<=140737488355328/\ys.length<=9223372036854775807/\
    K (af (cK d fr) d (.ms d ys.length)) (Qy hp d ⟨e,ty,ys,false⟩)
  |.ay β 0 n=>match hp β with
   | some hb=>(cd β=false/\hb.fz=false/\hb.e=e/\hb.ty=ty/\n<=hb.xs.length/\(n+ys.length)*by_<=140737488355328/\n+ys.length<=9223372036854775807/\
     K (af (cK β fr) d (.ms β (n+ys.length))) (Qy hp β ⟨e,ty,hb.xs.take n++ys,false⟩))∨
    (cd β=true/\bK β=false/\(ys≠[]/\hb.fz=false/\hb.e=e/\hb.ty=ty/\n<=hb.xs.length/\(n+ys.length)*by_<=140737488355328/\n+ys.length<=9223372036854775807)/\
     K (af (fK β fr) d (.ms β (n+ys.length))) (Qy hp β ⟨e,ty,hb.xs.take n++ys,false⟩))
   |none=>False
  |_=>False
def tQ (e:Nat) (s x:PV) (d:Nat) (fr:Fr) (hp:HP) (K:Qg):Prop:=
 match jA hp x,s with
 |some (e',ys),.ay β 0 n=>match hp β with
  | some hb=>0<e/\hb.fz=false/\hb.e=e/\(e'=e∨ys=[])/\n=hb.xs.length/\
    K (af fr d (.int .i64 (min (ys.length:Int) n))) (Qy hp β { hb with xs:=ys.take n++hb.xs.drop ys.length })
  |none=>False
 |_,_=>False
def ix(d:Int):Option PV->Option Int
 |none=>some d
 |some (.int _ n)=>some n
 |some _=>none
def iI(e:Nat)(a:PV)(lo hi mx:Option PV)(d:Nat)(fr:Fr)(hp:HP)(K:Qg):Prop:=
 match a with
 |.aa=>match ix 0 lo,ix 0 hi,ix 0 mx with
  |some L,some H,some M=>L=0/\H=0/\M=0/\(mx.isSome->hi.isSome)/\K (af fr d .aa) hp
  |_,_,_=>False
 |.sl e' xs=>match ix 0 lo,ix xs.length hi,ix xs.length mx with
  |some L,some H,some M=>e'=e/\0<=L/\L<=H/\H<=M/\M<=xs.length/\(mx.isSome->hi.isSome)/\K (af fr d (.sl e ((xs.take H.toNat).drop L.toNat))) hp
  |_,_,_=>False
 |.ay β o n=>match ix 0 lo,ix n hi,mx with
  |some L,some H,none=>(hp β).map (·.e)=some e/\0<=L/\L<=H/\H<=n/\(L=0∨L<n)/\K (af fr d (.ay β (o+L.toNat) (H.toNat-L.toNat))) hp
  |_,_,_=>False
 |_=>False
def kC(a:PV)(i:Nat)(d:Nat)(fr:Fr)(hp:HP)(K:Qg):Prop:=
 match a with
 |.aw ps=>match ps[i]? with
  |some p=>p.aE=true/\K (af fr d p) hp
  |none=>False
 |.eX ps=>match ps[i]? with
  |some p=>K (af fr d p) hp
  |none=>False
 |.eY cs q=>match i with
  |0=>K (af fr d (.aU cs)) hp
  |1=>K (af fr d q) hp
  |_=>False
 |_=>False
def ij(cells:List PV):List (Nat×List PV)->List PV
 | []=>cells
 |(o,xs)::r=>ij (cells.take o++xs++cells.drop (o+xs.length)) r
def FQ(hp:HP)(len:Nat)(ps:List (Nat×Nat×PV)):Prop:=∀p∈ps,(aK hp p.2.2).aE=true/\(aK hp p.2.2).cells.length=p.2.1/\p.1+p.2.1<=len
def Au(zero:List PV)(ps:List (Nat×Nat×PV))(d:Nat)(fr:Fr)(hp:HP)(K:Qg):Prop:=
 FQ hp zero.length ps/\K (af fr d (.agg (ij zero (ps.map fun p=>(p.1,(aK hp p.2.2).cells))))) (cf hp (ps.flatMap fun p=>p.2.2.refs))
def PV.kO:PV->Bool
 |.aM .. | .aU _=>true
 |.ay β _ _=>decide (2000000<=β)
 |_=>false
def tC(len:Nat)(ps:List (Nat×Nat×PV)):Prop:=∀p∈ps,∃cs,fw p.2.2=some cs/\cs.length=p.2.1/\p.1+p.2.1<=len
def kD(zero:List PV)(ps:List (Nat×Nat×PV))(d:Nat)(fr:Fr)(hp:HP)(K:Qg):Prop:=
 if ps.any (fun p=>p.2.2.kO)then tC zero.length ps/\K (af fr d (.aU (ij zero (ps.map fun p=>(p.1,(fw p.2.2).getD []))))) hp
 else Au zero ps d fr hp K
def Av(a:PV)(d:Option Nat)(fr:Fr)(hp:HP)(K:Qg):Prop:=
 match a,d with
 |.mp _ _ _,some d| .pt _,some d| .fn _ _ _,some d=>K (af fr d a) hp
 |.mp _ _ _,none| .pt _,none| .fn _ _ _,none=>K fr hp
 |_,_=>False
structure Ctx where
 P:Program
 N:Nat
 w0:World
 X0:Nat->Prop
 EI:∀b,X0 b->b<w0.heap.size
 hN:N<=1000000
 fx:Nat->Option Nat
 oX:∀β b,fx β=some b->b<w0.heap.size/\(jc β=false->¬X0 b)
 Z0:Nat->Prop
 Mc:∀b,Z0 b->b<w0.heap.size/\¬X0 b/\∀β,fx β≠some b
@[reducible] def Ctx.plain (P : Program) (N : Nat) (w : World) (X : Nat -> Prop) (hX : ∀ b, X b -> b < w.heap.size) (hN : N <= 1000000) : Ctx :=
 ⟨P, N, w, X, hX, hN, fun _ => none, (fun _ _ h => nomatch h), bS, fun _ h => h.elim⟩
def Ctx.Y0(C:Ctx):Nat->Prop:=fun b=>(∃β,jc β=false/\C.fx β=some b)∨C.Z0 b
theorem Ctx.hY0(C:Ctx):∀b,C.Y0 b->b<C.w0.heap.size/\¬C.X0 b
 |b,.inl ⟨β,hr,h⟩=>⟨(C.oX β b h).1,(C.oX β b h).2 hr⟩
 |b,.inr h=>⟨(C.Mc b h).1,(C.Mc b h).2.1⟩
theorem Ctx.Nl{P:Program}{N:Nat}{w w':World}{X:Nat->Prop}{hX:∀b,X b->b<w.heap.size}{hN:N<=1000000}(h:Ext (Ctx.plain P N w X hX hN).Y0 w w'):Ext bS w w':=
 h.mono fun b _ hb=>by
  rcases hb with⟨β,_,hb⟩|hb
  ·cases hb
  ·exact hb
def Ctx.cls(C:Ctx)(β b:Nat):Prop:=if bK β=true then C.fx β=some b else C.w0.heap.size<=b∨C.Z0 b
theorem Ctx.LK{C:Ctx}{β b:Nat}(h:C.cls β b)(hr:jc β=false):C.w0.heap.size<=b∨C.Y0 b:=by
 unfold Ctx.cls at h;split at h
 ·exact .inr (.inl ⟨β,hr,h⟩)
 ·exact h.imp id .inr
theorem Ctx.Eo{C:Ctx}{β b:Nat}(h:C.cls β b)(hB:bK β=false):C.w0.heap.size<=b∨C.Z0 b:=by
 unfold Ctx.cls at h
 rwa[if_neg (by simp[hB])]at h
theorem Ctx.alW{C:Ctx}{β b:Nat}(h:C.w0.heap.size<=b∨C.Z0 b)(hB:bK β=false):C.cls β b:=by
 unfold Ctx.cls
 rwa[if_neg (by simp[hB])]
theorem Ctx.Xu{C:Ctx}{b:Nat}(h:C.w0.heap.size<=b∨C.Z0 b):C.w0.heap.size<=b∨C.Y0 b:=h.imp id .inr
theorem Ctx.Xv{C:Ctx}{β b:Nat}(h:C.w0.heap.size<=b∨C.Z0 b):C.fx β≠some b:=fun e=>by
 rcases h with h|h
 ·have:=(C.oX β b e).1;omega
 ·exact(C.Mc b h).2.2 β e
theorem Ctx.LJ{C:Ctx}{β b:Nat}(h:C.cls β b)(hr:jc β=false):¬C.X0 b:=fun hx=>by
 rcases Ctx.LK h hr with h|h
 ·have:=C.EI b hx;omega
 ·exact(C.hY0 b h).2 hx
def aH(C:Ctx)(ρ:Nat->Option Nat)(hp:HP):Nat->Prop:=fun b=>C.X0 b∨∃β hb,hp β=some hb/\hb.fz=false/\ρ β=some b
def dt(w:World)(b e cap:Nat):Prop:=∃cur ty,w.heap[b]? =some (.cells cur ty (0,0))/\cur.size=cap*e
def xU(w:World)(X:Nat->Prop)(b:Nat)(hb:HB):Prop:=
 ∃(cur:Array Value)(cap:Nat),w.heap[b]? =some (.cells cur hb.ty (0,0))/\cur.size=cap*hb.e/\hb.xs.length<=cap/\cap<=maxLen/\
  ∀(i:Nat)(x:PV),hb.xs[i]? =some x->∀(j:Nat)(y:PV),x.cells[j]? =some y->Qu w X y (cur.getD (i*hb.e+j) undef)
structure Xw(C:Ctx)(ρ:Nat->Option Nat)(hp:HP)(w:World)(β:Nat)(hb:HB):Prop where
 lV:0<hb.e
 len:∀(i:Nat)(x:PV),hb.xs[i]? =some x->x.cells.length=hb.e/\x.aE=true
 dV:match ρ β with
  |none=>hb.xs=[]
  |some b=>C.cls β b/\b<w.heap.size/\xU w (aH C ρ hp) b hb
 fix:bK β=true->ρ β=C.fx β
 ro:jc β=true->hb.fz=true
def eQ(ρ:Nat->Option Nat)(hp:HP)(w:World)(β o n:Nat)(v:Value):Prop:=
 ∃ hb,hp β=some hb/\o+n<=hb.xs.length/\((ρ β=none/\v= .slice none 0 0/\n=0/\o=0)∨
   ∃b cap,ρ β=some b/\v= .slice (some ⟨b,o*hb.e,none⟩) n cap/\dt w b hb.e (o+cap)/\o+cap<=maxLen)
def nV(ρ:Nat->Option Nat)(hp:HP)(w:World)(γ o n:Nat)(v:Value):Prop:=
 cd γ=true/\∃hb b cap,hp γ=some hb/\ρ γ=some b/\v= .slice (some ⟨b,o*hb.e,none⟩) n cap/\dt w b hb.e (o+cap)/\o+cap<=maxLen/\n<=cap
def cV(C:Ctx)(ρ:Nat->Option Nat)(hp:HP)(w:World):PV->Value->Prop
 |.undef,_=>True
 |.ay β o n,v=>cd β=true/\eQ ρ hp w β o n v
 |.aM γ o n,v=>nV ρ hp w γ o n v
 |p,v=>Qu w (aH C ρ hp) p v
def cW(C:Ctx)(ρ:Nat->Option Nat)(hp:HP)(w:World):PV->Value->Prop
 |.mp β i o,v=>∃b hb,ρ β=some b/\hp β=some hb/\v= .pointer (some ⟨b,i*hb.e+o,none⟩)
 |.ay β o n,v=>eQ ρ hp w β o n v
 |.rb β o n,v=>∃b u,v= .pointer (some ⟨b,0,none⟩)/\b<w.heap.size/\¬aH C ρ hp b/\w.cell? ⟨b,0,none⟩=some u/\eQ ρ hp w β o n u
 |.np γ i o,v=>cd γ=true/\∃b hb,ρ γ=some b/\hp γ=some hb/\v= .pointer (some ⟨b,i*hb.e+o,none⟩)
 |.aM γ o n,v=>nV ρ hp w γ o n v
 |p,v=>Qu w (aH C ρ hp) p v
def Qt(C:Ctx)(ρ:Nat->Option Nat)(hp:HP)(w:World):PV->Value->Prop
 |.undef,_=>True
 |.mp β i o,v=>cW C ρ hp w (.mp β i o) v
 |.ay β o n,v=>cW C ρ hp w (.ay β o n) v
 |.rb β o n,v=>cW C ρ hp w (.rb β o n) v
 |.np γ i o,v=>cW C ρ hp w (.np γ i o) v
 |.aM γ o n,v=>cW C ρ hp w (.aM γ o n) v
 |.aU cs,v=>∃vs:Array Value,v= .agg vs/\vs.size=cs.length/\∀(i:Nat)(x:PV),cs[i]? =some x->cV C ρ hp w x (vs.getD i undef)
 |.eX cs,v=>∃vs:Array Value,v= .tuple vs/\vs.size=cs.length/\∀(i:Nat)(x:PV),cs[i]? =some x->cV C ρ hp w x (vs.getD i undef)
 |.eY cs q,v=>∃(vs:Array Value)(u:Value),v= .tuple #[.agg vs,u]/\vs.size=cs.length/\(∀(i:Nat)(x:PV),cs[i]? =some x->cV C ρ hp w x (vs.getD i undef))/\a9 w (aH C ρ hp) q u
 |.aN γ e ty xs,_=>cd γ=true/\0<e/\∃(b:Nat) (hb:HB) (cur:Array Value) (cap:Nat),ρ γ=some b/\hp γ=some hb/\hb.xs=[]/\hb.e=e/\hb.ty=ty/\w.heap[b]? =some (.cells cur ty (0,0))/\cur.size=cap*e/\xs.length<=cap/\cap<=maxLen/\
   (∀(i:Nat)(x:PV),xs[i]? =some x->x.bl.length=e)/\∀(i:Nat)(x:PV),xs[i]? =some x->∀(j:Nat)(y:PV),x.bl[j]? =some y->cV C ρ hp w y (cur.getD (i*e+j) undef)
 |.fn f first cap,v=>∃fv cv:Array Value,v= .func (.func f) fv cv/\fv.size=first.length/\cv.size=cap.length/\
   (∀(i:Nat)(x:PV),first[i]? =some x->cW C ρ hp w x (fv.getD i undef))/\(∀(i:Nat)(x:PV),cap[i]? =some x->cW C ρ hp w x (cv.getD i undef))
 |p,v=>dF w (aH C ρ hp) p v
structure aI(C:Ctx)(ρ:Nat->Option Nat)(fr:Fr)(hp:HP)(tmps:Array Value)(w:World):Prop where
 sz:tmps.size=C.N
 ext:Ext C.Y0 C.w0 w
 gY:∀β b,C.fx β=some b->∀e cap,dt C.w0 b e cap->dt w b e cap
 own:∀β hb,hp β=some hb->Xw C ρ hp w β hb
 inj:∀β γ b,hp β≠none->hp γ≠none->ρ β=some b->ρ γ=some b->β=γ
 eZ:∀i,Qt C ρ hp w (fr i) (tmps.getD i undef)
def fa(C:Ctx)(fr:Fr)(hp:HP)(tmps:Array Value)(w:World):Prop:=∃ρ,aI C ρ fr hp tmps w
def Xc(tmps:Array Value)(d:Option Nat)(v:Value):Array Value:=match d with|some d=>tmps.setIfInBounds d v|none=>tmps
def Wk(fr:Fr)(hp:HP)(az:Fr)(an:HP):Prop:=∀(C:Ctx)(tmps:Array Value)(w:World),fa C fr hp tmps w->fa C az an tmps w
def mJ(C:Ctx)(pr:Bool)(f:PV)(args:List PV)(d:Option Nat)(fr:Fr)(hp:HP)(K:Qg):Prop:=
 match f with
 |.fn g first cap => (C.P.funcs[g]?).any (fun fn => fn.body.isSome && fn.name != "runtime.NumGoroutine") = true /\
  ∀ρ tmps w (fv cv av:Array Value),(∀x,d=some x->x<C.N)->aI C ρ fr hp tmps w->
   fv.size=first.length->cv.size=cap.length->av.size=args.length->
   (∀(i:Nat)(x:PV),first[i]? =some x->cW C ρ hp w x (fv.getD i undef))->(∀(i:Nat)(x:PV),cap[i]? =some x->cW C ρ hp w x (cv.getD i undef))->
   (∀(i:Nat)(x:PV),args[i]? =some x->Qt C ρ hp w x (av.getD i undef))->
   Calls C.P g (fv++av++cv) w fun e w'=>∃v az an,e= .returned v/\fa C az an (Xc tmps d v) w'/\(pr=true->Ext bS w w')/\K az an
 |_=>False
def bp(C:Ctx)(o:cB)(fr:Fr)(hp:HP)(K:Qg):Prop:=
 match o with
 |.mv d x=>K (af fr d (ev fr x)) hp
 |.pick d c a b=>rZ (ev fr c) (ev fr a) (ev fr b) d fr hp K
 |.bin d op bt x y=>cm op bt (ev fr x) (ev fr y) d fr hp K
 |.eqs d ng x y=>qQ ng (ev fr x) (ev fr y) d fr hp K
 |.B1 d ng x y=>qR ng (ev fr x) (ev fr y) d fr hp K
 |.BZ d x=>vJ (ev fr x) d fr hp K
 |.BY d x i=>tO (ev fr x) (ev fr i) d fr hp K
 |.un d op x=>uK op (ev fr x) d fr hp K
 |.conv d k x=>vB k (ev fr x) d fr hp K
 |.len d x=>oL (ev fr x) d fr hp K
 |.mx d x y=>wH (ev fr x) (ev fr y) d fr hp K
 |.mn d x y=>wG (ev fr x) (ev fr y) d fr hp K
 |.idx d e x i=>dM e (ev fr x) (ev fr i) d fr hp K
 |.BI d n e x i=>qM n e (ev fr x) (ev fr i) d fr hp K
 |.BJ d n e ag x i=>xS n e ag (ev fr x) (ev fr i) d fr hp K
 |.cE d off x=>qS off (ev fr x) d fr hp K
 |.yj d off n ag x=>qN off n ag (ev fr x) d fr hp K
 |.ld d n ag x=>kP n ag (ev fr x) d fr hp K
 |.st n x v=>o9 n (ev fr x) (ev fr v) fr hp K
 |.box d n ty v=>fU n ty (ev fr v) d fr hp K
 |.alloc d n ty z=>fU n ty z d fr hp K
 |.mk d e by_ ty z l c=>nv e by_ ty z (ev fr l) (ev fr c) d fr hp K
 |.bs d e ty ps=>oc e ty (ps.map (ev fr)) d fr hp K
 |.app d e by_ ty s x=>iO e by_ ty (ev fr s) (ev fr x) d fr hp K
 |.tX d e s x=>tQ e (ev fr s) (ev fr x) d fr hp K
 |.sl d e x lo hi mx=>iI e (ev fr x) (lo.map (ev fr)) (hi.map (ev fr)) (mx.map (ev fr)) d fr hp K
 |.ext d x i=>kC (ev fr x) i d fr hp K
 |.bU d zero ps=>kD zero (ps.map fun p=>(p.1,p.2.1,ev fr p.2.2)) d fr hp K
 |.fn d f first cap=>(first.map (ev fr)++cap.map (ev fr)).all PV.kM=true/\K (af fr d (.fn f (first.map (ev fr)) (cap.map (ev fr)))) hp
 |.call d pr f args=>mJ C pr (ev fr f) (args.map (ev fr)) d fr hp K
 |.BQ d x=>Av (ev fr x) d fr hp K
 |.bad _=>False
def jB(o:cB)(fr:Fr)(hp:HP)(K:Qg):Prop:=
 match o.dst with
 |some d=>K (af fr d (.aw [])) hp
 |none=>K fr hp
def oN(C:Ctx)(g:Option (Nat×Bool))(o:cB)(fr:Fr)(hp:HP)(K:Qg):Prop:=
 match g with
 |none=>bp C o fr hp K
 |some (s,want)=>match fr s with
  |.bool t=>(t=want->bp C o (af fr s (.bool want)) hp K)/\(t=(!want)->jB o (af fr s (.bool !want)) hp K)
  |.aw []=>jB o fr hp K
  |_=>False
inductive It where
 |c (s:SC)
 |o (r:RT)
 |eb (id:Nat)
 |el (J:Qg)
def RT.sz:RT->Nat
 |.nil=>1
 |.o _ _ r=>r.sz+1
 |.br a b=>a.sz+b.sz+1
 |.wk r=>r.sz+1
def SC.sz:SC->Nat
 |.rg r=>r.sz+1
 |.seq a b=>a.sz+b.sz+1
 |.cond _ a b=>a.sz+b.sz+1
 |.block _ a=>a.sz+2
 |.loop a=>a.sz+2
 |_=>1
def It.sz:It->Nat
 |.c s=>s.sz
 |.o r=>r.sz
 |_=>1
def bY:List It->Nat
 | []=>0
 |i::is=>i.sz+bY is
def cu(id:Nat):List It->Option (List It)
 | []=>none
 |.eb i::sk=>if i=id then some sk else cu id sk
 |_::sk=>cu id sk
theorem zC(id:Nat):∀(sk eO:List It),FW.cu id sk=some eO->bY eO<=bY sk
 | [],_,h=>by simp[FW.cu]at h
 |.c s::sk,eO,h=>by have:=zC id sk eO (by simpa[FW.cu]using h);simp[bY];omega
 |.o s::sk,eO,h=>by have:=zC id sk eO (by simpa[FW.cu]using h);simp[bY];omega
 |.el s::sk,eO,h=>by have:=zC id sk eO (by simpa[FW.cu]using h);simp[bY];omega
 |.eb i::sk,eO,h=>by
  simp only[FW.cu]at h;split at h
  ·cases h;simp[bY]
  ·have:=zC id sk eO h;simp[bY];omega
theorem RT.yZ(r:RT):0<r.sz:=by cases r<;>simp[RT.sz]
theorem SC.yZ(s:SC):0<s.sz:=by cases s<;>simp[SC.sz]
def vc(C:Ctx)(R:Qg)(sk:List It)(fr:Fr)(hp:HP):Prop:=
 match sk with
 | []=>R fr hp
 |.el J::_=>J fr hp
 |.eb _::sk=>vc C R sk fr hp
 |.o .nil::sk=>vc C R sk fr hp
 |.o (.o g o r)::sk=>oN C g o fr hp (fun fr hp=>vc C R (.o r::sk) fr hp)
 |.o (.br a b)::sk=>vc C R (.o a::sk) fr hp/\vc C R (.o b::sk) fr hp
 |.o (.wk r)::sk=>∃bG aF,Wk fr hp bG aF/\vc C R (.o r::sk) bG aF
 |.c .skip::sk=>vc C R sk fr hp
 |.c (.rg r)::sk=>vc C R (.o r::sk) fr hp
 |.c (.raw id ops)::sk=>∀tmps w Q,fa C fr hp tmps w->(∀az an B2 w',fa C az an B2 w'->vc C R sk az an->Q .normal { tmps:=B2,defers:=[] } w')->(Code.region id ops true).wp C.P Q { tmps:=tmps,defers:=[] } w
 |.c (.seq a b)::sk=>vc C R (.c a:: .c b::sk) fr hp
 |.c (.cond c a b)::sk=>match ev fr c with
  |.bool t=>(t=true->vc C R (.c a::sk) fr hp)/\(t=false->vc C R (.c b::sk) fr hp)
  |_=>False
 |.c (.block id a)::sk=>vc C R (.c a:: .eb id::sk) fr hp
 |.c (.loop a)::sk=>∃(I:Qg)(μ:Fr->HP->Nat),(∃bG aF,Wk fr hp bG aF/\I bG aF)/\∀fr hp,I fr hp->vc C R (.c a:: .el (fun az an=>∃bG aF,Wk az an bG aF/\I bG aF/\μ bG aF<μ fr hp)::sk) fr hp
 |.c (.exit id)::sk=>match h:FW.cu id sk with
  |some eO=>vc C R eO fr hp
  |none=>False
 |.c .ret::_=>R fr hp
termination_by bY sk
decreasing_by
 all_goals simp only[bY,It.sz,SC.sz,RT.sz]
 all_goals first|omega|(have:=zC _ _ _ h;omega)|skip
variable {C : Ctx} {ρ : Nat -> Option Nat} {fr : Fr} {hp : HP} {tmps : Array Value} {w : World}
theorem eQ.move{bf:Nat->Option Nat}{an:HP}{w':World}{β o n:Nat}{v:Value}(h:eQ ρ hp w β o n v)
  (hr:bf β=ρ β/\∀hb,hp β=some hb->∃ax,an β=some ax/\ax.e=hb.e/\hb.xs.length<=ax.xs.length/\∀b cap,ρ β=some b->dt w b hb.e cap->dt w' b hb.e cap):eQ bf an w' β o n v:=by
 obtain⟨hb,h2,h3,h4⟩:=h;obtain⟨e1,e2⟩:=hr;obtain⟨ax,h5,h6,h7,h8⟩:=e2 hb h2;refine⟨ax,h5,Kaw h3 h7,?_⟩;rcases h4 with⟨g1,g2,g3⟩|⟨b,cap,g1,g2,g3,g4⟩
 ·exact .inl ⟨by rw[e1];exact g1,g2,g3⟩
 ·exact .inr ⟨b,cap,by rw[e1];exact g1,by rw[h6];exact g2,by rw[h6];exact h8 b (o+cap) g1 g3,g4⟩
structure nX(w w':World)(X X':Nat->Prop):Prop where
 dV:∀b,b<w.heap.size->¬X b->w'.heap[b]? =w.heap[b]?
 out:∀b,b<w.heap.size->¬X b->¬X' b
 size:w.heap.size<=w'.heap.size
theorem nX.rc{w w':World}{X X':Nat->Prop}(h:nX w w' X X'):∀q u,Qu w X q u->Qu w' X' q u:=fun _ _ hq=>hq.mono h.dV h.out h.size
structure qw(ρ bf:Nat->Option Nat)(hp an:HP)(w w':World)(β:Nat):Prop where
 r:bf β=ρ β
 h:∀hb,hp β=some hb->∃ax,an β=some ax/\ax.e=hb.e/\hb.xs.length<=ax.xs.length/\(∀b cap,ρ β=some b->dt w b hb.e cap->dt w' b hb.e cap)/\(hb.xs=[]->ax.xs=[]/\ax.ty=hb.ty/\∀b,ρ β=some b->w'.heap[b]? =w.heap[b]?)
theorem qw.o{bf:Nat->Option Nat}{an:HP}{w':World}{β:Nat}(h:qw ρ bf hp an w w' β):bf β=ρ β/\∀hb,hp β=some hb->∃ax,an β=some ax/\ax.e=hb.e/\hb.xs.length<=ax.xs.length/\∀b cap,ρ β=some b->dt w b hb.e cap->dt w' b hb.e cap:=
 ⟨h.r,fun hb al=>let⟨ax,a,b,c,d,_⟩:=h.h hb al;⟨ax,a,b,c,d⟩⟩
structure xV(ρ bf:Nat->Option Nat)(hp an:HP)(w w':World)(β:Nat):Prop where
 r:bf β=ρ β
 h:∀hb,hp β=some hb->∃ax,an β=some ax/\ax.e=hb.e/\hb.xs.length<=ax.xs.length/\∀b cap,ρ β=some b->dt w b hb.e cap->dt w' b hb.e cap
theorem qw.B3{bf:Nat->Option Nat}{an:HP}{w':World}{β:Nat}(h:qw ρ bf hp an w w' β):xV ρ bf hp an w w' β:=⟨h.r,h.o.2⟩
theorem nV.move{bf:Nat->Option Nat}{an:HP}{w':World}{γ o n:Nat}{v:Value}(h:nV ρ hp w γ o n v)(hr:xV ρ bf hp an w w' γ):nV bf an w' γ o n v:=by obtain⟨h0,hb,b,cap,h1,h2,h3,h4,h5,h6⟩:=h;obtain⟨ax,a1,a2,_,a4⟩:=hr.h hb h1;exact⟨h0,ax,b,cap,a1,by rw[hr.r];exact h2,by rw[a2];exact h3,by rw[a2];exact a4 b _ h2 h4,h5,h6⟩
theorem cV.move{bf:Nat->Option Nat}{an:HP}{w':World}{p:PV}{v:Value}(h:cV C ρ hp w p v)(hc:nX w w' (aH C ρ hp) (aH C bf an))(hs:∀β∈p.dT,xV ρ bf hp an w w' β):cV C bf an w' p v:=by
 cases p with
 |undef=>trivial
 |ay β o n=>exact⟨h.1,eQ.move h.2 ⟨(hs β (by simp[PV.dT])).r,(hs β (by simp[PV.dT])).h⟩⟩
 |aM γ o n=>exact nV.move h (hs γ (by simp[PV.dT]))
 |_=>exact hc.rc _ _ h
theorem cW.move{bf:Nat->Option Nat}{an:HP}{w':World}{p:PV}{v:Value}(h:cW C ρ hp w p v)
  (hc:nX w w' (aH C ρ hp) (aH C bf an))
  (hr:∀β∈p.bP,bf β=ρ β/\∀hb,hp β=some hb->∃ax,an β=some ax/\ax.e=hb.e/\hb.xs.length<=ax.xs.length/\∀b cap,ρ β=some b->dt w b hb.e cap->dt w' b hb.e cap)
  (hs:∀β∈p.eD,xV ρ bf hp an w w' β):
  cW C bf an w' p v:=by
 cases p with
 |mp β i o=>obtain⟨b,hb,h1,h2,h3⟩:=h;obtain⟨e1,e2⟩:=hr β (by simp[PV.bP]);obtain⟨ax,h4,h5,_,_⟩:=e2 hb h2;exact⟨b,ax,by rw[e1];exact h1,h4,by rw[h5];exact h3⟩
 |ay β o n=>exact eQ.move h (hr β (by simp[PV.bP]))
 |rb β o n=>obtain⟨b,u,h1,h2,h3,h4,h5⟩:=h;exact⟨b,u,h1,KaN h2 hc.size,hc.out b h2 h3,(uV (hc.dV b h2 h3)).trans h4,eQ.move h5 (hr β (by simp[PV.bP]))⟩
 |np γ i o=>obtain⟨h0,b,hb,h1,h2,h3⟩:=h;have hq:=hs γ (by simp[PV.eD]);obtain⟨ax,a1,a2,_⟩:=hq.h hb h2;exact⟨h0,b,ax,by rw[hq.r];exact h1,a1,by rw[a2];exact h3⟩
 |aM γ o n=>exact nV.move h (hs γ (by simp[PV.eD]))
 |_=>exact hc.rc _ _ h
theorem Gh{f:FuncId}{first cap:List PV}{i:Nat}{x:PV}(h:first[i]? =some x):∀β∈x.bP,β∈(PV.fn f first cap).refs:=by intro β al;simp only[PV.refs,KaV,Kaq];exact .inl ⟨x,Kai h,al⟩
theorem Gr{f:FuncId}{first cap:List PV}{i:Nat}{x:PV}(h:cap[i]? =some x):∀β∈x.bP,β∈(PV.fn f first cap).refs:=by intro β al;simp only[PV.refs,KaV,Kaq];exact .inr ⟨x,Kai h,al⟩
theorem dF.move{w':World}{X X':Nat->Prop}{p:PV}{v:Value}(h:dF w X p v)(hc:∀q u,Qu w X q u->Qu w' X' q u):dF w' X' p v:=by
 have h1:∀p v,a9 w X p v->a9 w' X' p v:=by
  intro p v h;cases p with
  |agg cs=>obtain⟨vs,rfl,h1,h2⟩:=h;exact⟨vs,rfl,h1,fun i x hi=>hc _ _ (h2 i x hi)⟩
  |_=>exact hc _ _ h
 cases p with
 |aw ps=>obtain⟨vs,rfl,g1,g2⟩:=h;exact⟨vs,rfl,g1,fun i x hi=>h1 _ _ (g2 i x hi)⟩
 |agg cs=>exact h1 (.agg cs) v h
 |_=>exact hc _ _ h
theorem Qt.move{bf:Nat->Option Nat}{an:HP}{w':World}{p:PV}{v:Value}(h:Qt C ρ hp w p v)
  (hc:nX w w' (aH C ρ hp) (aH C bf an))
  (hr:∀β∈p.refs,bf β=ρ β/\∀hb,hp β=some hb->∃ax,an β=some ax/\ax.e=hb.e/\hb.xs.length<=ax.xs.length/\∀b cap,ρ β=some b->dt w b hb.e cap->dt w' b hb.e cap)
  (hs:∀β∈p.bT,xV ρ bf hp an w w' β) (hn:∀γ e ty xs,p= .aN γ e ty xs->qw ρ bf hp an w w' γ):
  Qt C bf an w' p v:=by
 cases p with
 |undef=>trivial
 |mp β i o=>exact cW.move (p:=.mp β i o) h hc (fun dA mb=>hr dA mb) (fun β al=>by cases al)
 |ay β o n=>exact cW.move (p:=.ay β o n) h hc (fun dA mb=>hr dA mb) (fun β al=>by cases al)
 |rb β o n=>exact cW.move (p:=.rb β o n) h hc (fun dA mb=>hr dA mb) (fun β al=>by cases al)
 |np γ i o=>exact cW.move (p:=.np γ i o) h hc (fun β al=>by cases al) (fun dA mb=>hs dA mb)
 |aM γ o n=>exact cW.move (p:=.aM γ o n) h hc (fun β al=>by cases al) (fun dA mb=>hs dA mb)
 |aU cs=>obtain⟨vs,rfl,h1,h2⟩:=h;exact⟨vs,rfl,h1,fun i x hi=>(h2 i x hi).move hc (fun β al=>hs β (Kaq.2 ⟨x,Kai hi,al⟩))⟩
 |eX cs=>obtain⟨vs,rfl,h1,h2⟩:=h;exact⟨vs,rfl,h1,fun i x hi=>(h2 i x hi).move hc (fun β al=>hs β (Kaq.2 ⟨x,Kai hi,al⟩))⟩
 |eY cs q=>obtain⟨vs,u,rfl,h1,h2,h3⟩:=h;exact⟨vs,u,rfl,h1,fun i x hi=>(h2 i x hi).move hc (fun β al=>hs β (Kaq.2 ⟨x,Kai hi,al⟩)),h3.mono hc.dV hc.out hc.size⟩
 |aN γ e ty xs=>obtain⟨h0,he,b,hb,cur,cap,h1,h2,h3,h4,h5,h6,h7,h8,h9,bI,ct⟩:=h;have hq:=hn γ e ty xs rfl;obtain⟨ax,a1,a2,_,_,a5⟩:=hq.h hb h2;obtain⟨a5,a6,a7⟩:=a5 h3;refine⟨h0,he,b,ax,cur,cap,by rw[hq.r];exact h1,a1,a5,by rw[a2];exact h4,by rw[a6];exact h5,by rw[a7 b h1];exact h6,h7,h8,h9,bI,fun i x hi j y hy=>(ct i x hi j y hy).move hc (fun β al=>hs β ?_)⟩;refine Kbm _ (Kaq.2 ⟨x,Kai hi,Kaq.2 ⟨y,Kai hy,al⟩⟩)
 | fn f first cap=>
  obtain⟨fv,cv,rfl,h1,h2,h3,h4⟩:=h;exact⟨fv,cv,rfl,h1,h2,fun i x hi=>(h3 i x hi).move hc (fun β al=>hr β (Gh hi β al)) (fun β al=>hs β (KaV.2 (.inl (Kaq.2 ⟨x,Kai hi,al⟩)))),
   fun i x hi=>(h4 i x hi).move hc (fun β al=>hr β (Gr hi β al)) (fun β al=>hs β (KaV.2 (.inr (Kaq.2 ⟨x,Kai hi,al⟩))))⟩
 |agg cs=>exact dF.move (p:=.agg cs) h hc.rc
 |aw cs=>exact dF.move (p:=.aw cs) h hc.rc
 |_=>exact hc.rc _ _ h
theorem Qt.qo{bf:Nat->Option Nat}{an:HP}{w':World}{p:PV}{v:Value}(h:Qt C ρ hp w p v)
  (hc:nX w w' (aH C ρ hp) (aH C bf an))
  (hr:∀β∈p.refs,bf β=ρ β/\∀hb,hp β=some hb->∃ax,an β=some ax/\ax.e=hb.e/\hb.xs.length<=ax.xs.length/\∀b cap,ρ β=some b->dt w b hb.e cap->dt w' b hb.e cap)
  (hs:∀β∈p.bT,qw ρ bf hp an w w' β):Qt C bf an w' p v:=
 h.move hc hr (fun β al=>(hs β al).B3) (fun γ e ty xs e1=>hs γ (by rw[e1];simp[PV.bT]))
theorem mD{w w':World}{b e cap:Nat}(h:w'.heap[b]? =w.heap[b]?)(hc:dt w b e cap):dt w' b e cap:=by obtain⟨cur,ty,h1,h2⟩:=hc;exact⟨cur,ty,by rw[h];exact h1,h2⟩
theorem mF{w:World}{b e cap:Nat}(hc:dt w b e cap):b<w.heap.size:=by obtain⟨cur,ty,h1,_⟩:=hc;exact(KaH.1 h1).1
theorem xU.move{w w':World}{X X':Nat->Prop}{b:Nat}{hb ax:HB}(h:xU w X b hb)(hh:w'.heap[b]? =w.heap[b]?)(e1:ax.e=hb.e)(e2:ax.ty=hb.ty)(e3:ax.xs=hb.xs)
  (hc:∀q u,Qu w X q u->Qu w' X' q u):xU w' X' b ax:=by
 obtain⟨cur,cap,h1,h2,h3,h4,h5⟩:=h;exact⟨cur,cap,by rw[hh,e2];exact h1,by rw[e1];exact h2,by rw[e3];exact h3,h4,fun i x hi j y hy=>by rw[e1];exact hc _ _ (h5 i x (by rw[<-e3];exact hi) j y hy)⟩
theorem aI.af(h:aI C ρ fr hp tmps w){d:Nat}{p:PV}{v:Value}(hv:Qt C ρ hp w p v)(hd:d<C.N):aI C ρ (af fr d p) hp (tmps.setIfInBounds d v) w:=by
 refine⟨by simpa using h.sz,h.ext,h.gY,h.own,h.inj,fun i=>?_⟩;unfold FW.af;split
 ·rename_i he;subst he;simpa[Array.getD,h.sz,hd]using hv
 ·rename_i he;have:(tmps.setIfInBounds d v).getD i undef=tmps.getD i undef:=by simp only[KaZ];rw[Kct (fun e=>he e.symm)]
  rw[this];exact h.eZ i
theorem GP{l:List Nat}{b:Nat}(h:aH C ρ (cf hp l) b):aH C ρ hp b:=by
 rcases h with h|⟨β,hb,h1,h2,h3⟩
 ·exact .inl h
 ·refine .inr ⟨β,hb,?_,h2,h3⟩;unfold cf at h1;split at h1
  ·cases hq:hp β with
   |none=>simp[hq]at h1
   |some mZ=>simp[hq]at h1;subst h1;simp at h2
  ·exact h1
theorem Cy{l:List Nat}{β:Nat}{hb:HB}(h:hp β=some hb):∃ax,cf hp l β=some ax/\ax.e=hb.e/\ax.ty=hb.ty/\ax.xs=hb.xs/\(ax.fz=false->ax=hb)/\(ax.fz=false->β ∉ l):=by
 unfold cf;by_cases hl:l.contains β=true
 ·rw[if_pos hl,h];exact⟨_,rfl,rfl,rfl,rfl,by simp,by simp⟩
 ·rw[if_neg hl,h];exact⟨hb,rfl,rfl,rfl,rfl,fun _=>rfl,fun _=>by simpa using hl⟩
theorem zf{l:List Nat}{β:Nat}{ax:HB}(h:cf hp l β=some ax):∃hb,hp β=some hb/\ax.e=hb.e/\ax.ty=hb.ty/\ax.xs=hb.xs/\(ax.fz=false->ax=hb)/\(ax.fz=false->β ∉ l):=by
 cases hq:hp β with
 |none=>unfold cf at h;split at h<;>simp[hq]at h
 |some hb=>obtain⟨fb,g1,g2⟩:=Cy (l:=l) hq;rw[g1]at h;cases h;exact⟨hb,rfl,g2⟩
theorem Qu.freeze{l:List Nat}{q:PV}{u:Value}(h:Qu w (aH C ρ hp) q u):Qu w (aH C ρ (cf hp l)) q u:=
 h.mono (fun _ _ _=>rfl) (fun _ _ hn hx=>hn (GP hx)) (Kac _)
theorem aI.freeze(h:aI C ρ fr hp tmps w)(l:List Nat):aI C ρ fr (cf hp l) tmps w:=by
 refine⟨h.sz,h.ext,h.gY,fun β ax al=>?_,fun β γ b h1 h2 h3 h4=>?_,fun i=>?_⟩
 ·obtain⟨hb,g1,g2,g3,g4,g5,_⟩:=zf al;obtain⟨p1,p2,p3,p4,p5⟩:=h.own β hb g1;refine⟨by rw[g2];exact p1,fun i x hi=>by rw[g2];exact p2 i x (by rw[<-g4];exact hi),?_,p4,fun hq=>by
   cases hz:ax.fz with
   |true=>rfl
   |false=>rw[<-g5 hz,hz]at p5;cases p5 hq⟩
  cases bB:ρ β with
  |none=>rw[bB]at p3;simp only at p3 ⊢;rw[g4];exact p3
  |some b=>rw[bB]at p3;simp only at p3 ⊢;exact⟨p3.1,p3.2.1,p3.2.2.move rfl g2 g3 g4 (fun q u hq=>hq.freeze)⟩
 ·have f1:∀γ,FW.cf hp l γ≠none->hp γ≠none:=fun γ hn=>by
   cases hq:hp γ with
   |none=>unfold FW.cf at hn;split at hn<;>simp[hq]at hn
   |some _=>simp
  exact h.inj β γ b (f1 β h1) (f1 γ h2) h3 h4
 ·refine(h.eZ i).qo ⟨fun _ _ _=>rfl,fun _ _ hn hx=>hn (GP hx),Kac _⟩ (fun β _=>⟨rfl,fun hb al=>by
  obtain⟨ax,g1,g2,_,g4,_⟩:=Cy (l:=l) al;exact⟨ax,g1,g2,by rw[g4];exact Kac _,fun b cap _ hc=>hc⟩⟩) (fun β _=>⟨rfl,fun hb al=>by
  obtain⟨ax,g1,g2,g3,g4,_⟩:=Cy (l:=l) al;exact⟨ax,g1,g2,by rw[g4];exact Kac _,fun b cap _ hc=>hc,fun he=>⟨by rw[g4];exact he,g3,fun _ _=>rfl⟩⟩⟩)
theorem aI.grow{w':World}(h:aI C ρ fr hp tmps w)(hx:Ext bS w w'):aI C ρ fr hp tmps w':=by
 have gC:nX w w' (aH C ρ hp) (aH C ρ hp):=⟨fun b hb _=>hx.block b hb (fun h=>h),fun _ _ hn=>hn,hx.size⟩
 have hc:=gC.rc;refine⟨h.sz,h.ext.trans' hx (fun _ _ h=>h.elim),fun b0 b hb e cap hc=>mD (hx.block b (mF (h.gY b0 b hb e cap hc)) (fun h=>h)) (h.gY b0 b hb e cap hc),fun β hb al=>?_,h.inj,fun i=>?_⟩
 ·obtain⟨p1,p2,p3,p4,p5⟩:=h.own β hb al;refine⟨p1,p2,?_,p4,p5⟩;cases bB:ρ β with
  |none=>rw[bB]at p3;exact p3
  |some b=>rw[bB]at p3;exact⟨p3.1,KaN p3.2.1 hx.size,p3.2.2.move (hx.block b p3.2.1 (fun h=>h)) rfl rfl rfl hc⟩
 ·exact(h.eZ i).qo gC (fun β _=>⟨rfl,fun hb al=>⟨hb,al,rfl,Kac _,fun b cap _ dR=>mD (hx.block b (mF dR) (fun h=>h)) dR⟩⟩)
   (fun β _=>⟨rfl,fun hb al=>⟨hb,al,rfl,Kac _,fun b cap _ dR=>mD (hx.block b (mF dR) (fun h=>h)) dR,fun he=>⟨he,rfl,fun b bB=>hx.block b (by have:=(h.own β hb al).dV;rw[bB]at this;exact this.2.1) (fun h=>h)⟩⟩⟩)
theorem SO{β:Nat}{p:PV}:∀γ∈(bZ β p).refs,γ≠β/\γ∈p.refs:=by
 intro γ ak;unfold bZ at ak;split at ak
 ·simp[PV.refs]at ak
 ·rename_i hn;refine⟨fun he=>hn (by subst he;simpa using ak),ak⟩
theorem Qt.kill{β:Nat}{p:PV}{v:Value}(h:Qt C ρ hp w p v):Qt C ρ hp w (bZ β p) v:=by
 unfold bZ;split
 ·trivial
 ·exact h
theorem cV.yX{p:PV}{v:Value}(h:cV C ρ hp w p v):∀γ∈p.dT,cd γ=true:=by
 intro γ ak;cases p with
 |ay β o n=>simp[PV.dT]at ak;subst ak;exact h.1
 |aM β o n=>simp[PV.dT]at ak;subst ak;exact h.1
 |np β o n=>cases h
 |_=>cases ak
theorem cW.WW{p:PV}{v:Value}(h:cW C ρ hp w p v):∀γ∈p.eD,cd γ=true:=by
 intro γ ak;cases p with
 |aM β o n=>simp[PV.eD]at ak;subst ak;exact h.1
 |np β o n=>simp[PV.eD]at ak;subst ak;exact h.1
 |_=>cases ak
theorem Qt.yX{p:PV}{v:Value}(h:Qt C ρ hp w p v):∀γ∈p.bT,cd γ=true:=by
 intro γ ak;cases p with
 |aM β o n=>simp[PV.bT]at ak;subst ak;exact h.1
 |np β o n=>simp[PV.bT]at ak;subst ak;exact h.1
 |aU cs=>obtain⟨vs,_,_,h2⟩:=h;obtain⟨x,hx,ak⟩:=Kaq.1 ak;obtain⟨i,hi⟩:=KaG hx;exact(h2 i x hi).yX γ ak
 |eX cs=>obtain⟨vs,_,_,h2⟩:=h;obtain⟨x,hx,ak⟩:=Kaq.1 ak;obtain⟨i,hi⟩:=KaG hx;exact(h2 i x hi).yX γ ak
 |eY cs q=>obtain⟨vs,u,_,_,h2,_⟩:=h;obtain⟨x,hx,ak⟩:=Kaq.1 ak;obtain⟨i,hi⟩:=KaG hx;exact(h2 i x hi).yX γ ak
 | aN β e ty xs=>
  obtain⟨h0,_,b,hb,cur,cap,_,_,_,_,_,_,_,_,_,_,ct⟩:=h;rcases KaQ.1 ak with rfl|ak
  ·exact h0
  ·obtain⟨x,hx,ak⟩:=Kaq.1 ak;obtain⟨y,hy,ak⟩:=Kaq.1 ak;obtain⟨i,hi⟩:=KaG hx;obtain⟨j,hj⟩:=KaG hy;exact(ct i x hi j y hj).yX γ ak
 | fn f first cap=>
  obtain⟨fv,cv,_,_,_,h3,h4⟩:=h;rcases KaV.1 ak with ak|ak
  ·obtain⟨x,hx,ak⟩:=Kaq.1 ak;obtain⟨i,hi⟩:=KaG hx;exact(h3 i x hi).WW γ ak
  ·obtain⟨x,hx,ak⟩:=Kaq.1 ak;obtain⟨i,hi⟩:=KaG hx;exact(h4 i x hi).WW γ ak
 |_=>cases ak
def rb(ρ:Nat->Option Nat)(β:Nat)(b':Option Nat):Nat->Option Nat:=fun γ=>if γ=β then b' else ρ γ
theorem gM(ρ:Nat->Option Nat)(β:Nat)(b':Option Nat):rb ρ β b' β=b':=by simp[rb]
theorem oJ{ρ:Nat->Option Nat}{β γ:Nat}{b':Option Nat}(h:γ≠β):rb ρ β b' γ=ρ γ:=by simp[rb,h]
def xW(C:Ctx)(ρ:Nat->Option Nat)(hp:HP)(w:World)(β:Nat)(fr az:Fr):Prop:=∀(i:Nat)(v:Value),Qt C ρ hp w (fr i) v->Qt C ρ hp w (az i) v/\(∀γ∈(az i).refs,γ≠β)/\∀γ∈(az i).bT,γ≠β
theorem C7{β:Nat}(hB:cd β=false):xW C ρ hp w β fr (cK β fr):=fun i v h=>by have hk:=Qt.kill (β:=β) h;exact⟨hk,fun γ ak=>(SO γ ak).1,fun γ ak e=>by have:=hk.yX γ ak;rw[e,hB]at this;cases this⟩
theorem aI.yW{w':World}{az:Fr}(h:aI C ρ fr hp tmps w)(β:Nat)(b':Option Nat)(ax:HB)(hB:bK β=false)(pW:xW C ρ hp w β fr az)
  (hx:Ext (fun b=>ρ β=some b/\∃hb,hp β=some hb/\hb.fz=false) w w')
  (nj:∀c,b'=some c->(C.w0.heap.size<=c∨C.Z0 c)/\c<w'.heap.size/\(w.heap.size<=c∨(ρ β=some c/\∃hb,hp β=some hb/\hb.fz=false)))
  (he:0<ax.e) (hl:∀(i:Nat)(x:PV),ax.xs[i]? =some x->x.cells.length=ax.e/\x.aE=true)
  (AY:b'=none->ax.xs=[]) (bb:∀c,b'=some c->∃(cur:Array Value) (cap:Nat),w'.heap[c]? =some (.cells cur ax.ty (0,0))/\cur.size=cap*ax.e/\ax.xs.length<=cap/\cap<=maxLen/\
   ∀(i:Nat)(x:PV),ax.xs[i]? =some x->∀(j:Nat)(y:PV),x.cells[j]? =some y->Qu w (aH C ρ hp) y (cur.getD (i*ax.e+j) undef)):
  aI C (rb ρ β b') az (Qy hp β ax) tmps w':=by
 have hX:∀b,b<w.heap.size->¬aH C ρ hp b->¬aH C (rb ρ β b') (Qy hp β ax) b:=by
  intro b hb hn aT;rcases aT with aT|⟨γ,hg,h1,h2,h3⟩
  ·exact hn (.inl aT)
  ·unfold Qy at h1;by_cases ak:γ=β
   ·subst ak;rw[gM]at h3;obtain⟨_,_,h4|⟨h5,mZ,h6,h7⟩⟩:=nj b h3
    ·omega
    ·exact hn (.inr ⟨γ,mZ,h6,h7,h5⟩)
   ·rw[if_neg ak]at h1;rw[oJ ak]at h3;exact hn (.inr ⟨γ,hg,h1,h2,h3⟩)
 have gC:nX w w' (aH C ρ hp) (aH C (rb ρ β b') (Qy hp β ax)):=
  ⟨fun b hb hn=>hx.block b hb (fun⟨e1,mZ,e2,e3⟩=>hn (.inr ⟨β,mZ,e2,e3,e1⟩)),hX,hx.size⟩
 have hc:=gC.rc;have hold:∀b,ρ β=some b->(∃hb,hp β=some hb/\hb.fz=false)->C.w0.heap.size<=b∨C.Z0 b:=by intro b e1 ⟨mZ,e2,e3⟩;have:=(h.own β mZ e2).dV;rw[e1]at this;exact Ctx.Eo this.1 hB
 have qZ:Ext C.Y0 C.w0 w':=by refine h.ext.trans' (Y':=fun b=>ρ β=some b/\∃hb,hp β=some hb/\hb.fz=false) hx ?_;intro b hb ⟨e1,e2⟩;exact(Ctx.Xu (hold b e1 e2)).resolve_left (by omega)
 have Bh:∀β b,C.fx β=some b->∀e cap,dt C.w0 b e cap->dt w' b e cap:=fun b0 b hb e cap gC=>by have h1:=h.gY b0 b hb e cap gC;refine mD (hx.block b (mF h1) ?_) h1;intro⟨e1,e2⟩;exact Ctx.Xv (hold b e1 e2) hb
 refine⟨h.sz,qZ,Bh,fun γ hg ak=>?_,fun γ δ b h1 h2 h3 h4=>?_,fun i=>?_⟩
 ·unfold Qy at ak;by_cases ry:γ=β
  ·rw[if_pos ry]at ak;cases ak;subst ry;refine⟨he,hl,?_,(fun hq=>by rw[hB]at hq;cases hq),fun hq=>by rw[Ed hB]at hq;cases hq⟩;rw[gM];cases b' with
   |none=>exact AY rfl
   |some c=>obtain⟨cur,cap,c1,c2,c3,c4,c5⟩:=bb c rfl;exact⟨Ctx.alW (nj c rfl).1 hB,(nj c rfl).2.1,cur,cap,c1,c2,c3,c4,fun i x hi j y hy=>hc _ _ (c5 i x hi j y hy)⟩
  ·rw[if_neg ry]at ak;obtain⟨p1,p2,p3,p4,p5⟩:=h.own γ hg ak;refine⟨p1,p2,?_,(fun hq=>by rw[oJ ry];exact p4 hq),p5⟩;rw[oJ ry];cases bB:ρ γ with
   |none=>rw[bB]at p3;exact p3
   |some b=>rw[bB]at p3;refine⟨p3.1,KaN p3.2.1 hx.size,p3.2.2.move (hx.block b p3.2.1 ?_) rfl rfl rfl hc⟩;intro⟨e1,mZ,e2,_⟩;exact ry (h.inj γ β b (by simp[ak]) (by simp[e2]) bB e1)
 ·
  have key:∀γ b,γ≠β->hp γ≠none->ρ γ=some b->b'=some b->False:=by
   intro γ b aO hs hr hb;obtain⟨_,_,h4|⟨h5,mZ,h6,h7⟩⟩:=nj b hb
   ·cases hq:hp γ with
    |none=>exact hs hq
    |some hg=>have:=(h.own γ hg hq).dV;rw[hr]at this;omega
   ·exact aO (h.inj γ β b hs (by simp[h6]) hr h5)
  unfold Qy at h1 h2;by_cases ak:γ=β<;>by_cases lB:δ=β
  ·rw[ak,lB]
  ·subst ak;rw[gM]at h3;rw[oJ lB]at h4;rw[if_neg lB]at h2;exact(key δ b lB h2 h4 h3).elim
  ·subst lB;rw[gM]at h4;rw[oJ ak]at h3;rw[if_neg ak]at h1;exact(key γ b ak h1 h3 h4).elim
  ·rw[oJ ak]at h3;rw[oJ lB]at h4;rw[if_neg ak]at h1;rw[if_neg lB]at h2;exact h.inj γ δ b h1 h2 h3 h4
 ·obtain⟨hk,qa,na⟩:=pW i _ (h.eZ i);refine hk.qo gC (fun γ ak=>?_) (fun γ ak=>?_)
  ·have aO:=qa γ ak;refine⟨oJ aO,fun hg gF=>⟨hg,by simp[Qy,aO,gF],rfl,Kac _,fun b cap bB dR=>mD (hx.block b (mF dR) ?_) dR⟩⟩;intro⟨e1,mZ,e2,_⟩;exact aO (h.inj γ β b (by simp[gF]) (by simp[e2]) bB e1)
  ·have aO:=na γ ak;have oz:∀b hg,hp γ=some hg->ρ γ=some b->¬(ρ β=some b/\∃hb,hp β=some hb/\hb.fz=false):=fun b hg gF bB ⟨e1,mZ,e2,_⟩=>aO (h.inj γ β b (by simp[gF]) (by simp[e2]) bB e1);refine⟨oJ aO,fun hg gF=>⟨hg,by simp[Qy,aO,gF],rfl,Kac _,fun b cap bB dR=>mD (hx.block b (mF dR) (oz b hg gF bB)) dR,fun he=>⟨he,rfl,fun b bB=>hx.block b ?_ (oz b hg gF bB)⟩⟩⟩;have:=(h.own γ hg gF).dV;rw[bB]at this;exact this.2.1
theorem aI.rebind{w':World}(h:aI C ρ fr hp tmps w)(β:Nat)(b':Option Nat)(ax:HB)(hB:cd β=false)
  (hx:Ext (fun b=>ρ β=some b/\∃hb,hp β=some hb/\hb.fz=false) w w')
  (nj:∀c,b'=some c->(C.w0.heap.size<=c∨C.Z0 c)/\c<w'.heap.size/\(w.heap.size<=c∨(ρ β=some c/\∃hb,hp β=some hb/\hb.fz=false)))
  (he:0<ax.e) (hl:∀(i:Nat)(x:PV),ax.xs[i]? =some x->x.cells.length=ax.e/\x.aE=true)
  (AY:b'=none->ax.xs=[]) (bb:∀c,b'=some c->∃(cur:Array Value) (cap:Nat),w'.heap[c]? =some (.cells cur ax.ty (0,0))/\cur.size=cap*ax.e/\ax.xs.length<=cap/\cap<=maxLen/\
   ∀(i:Nat)(x:PV),ax.xs[i]? =some x->∀(j:Nat)(y:PV),x.cells[j]? =some y->Qu w (aH C ρ hp) y (cur.getD (i*ax.e+j) undef)):
  aI C (rb ρ β b') (cK β fr) (Qy hp β ax) tmps w':=h.yW β b' ax (vu hB) (C7 hB) hx nj he hl AY bb
theorem aI.store{w':World}(h:aI C ρ fr hp tmps w)(β b:Nat)(hb ax:HB)(al:hp β=some hb)(l5:hb.fz=false)(aO:hb.xs≠[])(bB:ρ β=some b)
  (hx:Ext (fun c=>c=b) w w') (e1:ax.e=hb.e) (e3:ax.xs.length=hb.xs.length) (e4:ax.fz=false)
  (hl:∀(i:Nat)(x:PV),ax.xs[i]? =some x->x.cells.length=ax.e/\x.aE=true)
  (dR:∀e cap,dt w b e cap->dt w' b e cap)
  (bb:∃(cur:Array Value) (cap:Nat),w'.heap[b]? =some (.cells cur ax.ty (0,0))/\cur.size=cap*ax.e/\ax.xs.length<=cap/\cap<=maxLen/\
   ∀(i:Nat)(x:PV),ax.xs[i]? =some x->∀(j:Nat)(y:PV),x.cells[j]? =some y->Qu w (aH C ρ hp) y (cur.getD (i*ax.e+j) undef)):aI C ρ fr (Qy hp β ax) tmps w':=by
 have Ma:∀c,aH C ρ (Qy hp β ax) c↔aH C ρ hp c:=by
  intro c;constructor
  ·rintro(hx|⟨γ,hg,h1,h2,h3⟩)
   ·exact .inl hx
   ·unfold Qy at h1;by_cases ak:γ=β
    ·subst ak;exact .inr ⟨γ,hb,al,l5,h3⟩
    ·rw[if_neg ak]at h1;exact .inr ⟨γ,hg,h1,h2,h3⟩
  ·rintro(hx|⟨γ,hg,h1,h2,h3⟩)
   ·exact .inl hx
   ·by_cases ak:γ=β
    ·subst ak;exact .inr ⟨γ,ax,by simp[Qy],e4,h3⟩
    ·exact .inr ⟨γ,hg,by simp[Qy,ak,h1],h2,h3⟩
 have hXf:aH C ρ (Qy hp β ax)=aH C ρ hp:=funext fun c=>propext (Ma c);have EL:aH C ρ hp b:=.inr ⟨β,hb,al,l5,bB⟩;have Fh:jc β=false:=by
  cases hq:jc β with
  |false=>rfl
  |true=>have:=(h.own β hb al).ro hq;rw[l5]at this;cases this
 have gC:nX w w' (aH C ρ hp) (aH C ρ (Qy hp β ax)):=by rw[hXf];exact⟨fun c hc hn=>hx.block c hc (fun e=>hn (e▸EL)),fun _ _ hn=>hn,hx.size⟩
 have hc:=gC.rc;have bm:=(h.own β hb al).dV;rw[bB]at bm;have qZ:Ext C.Y0 C.w0 w':=by refine h.ext.trans' (Y':=fun c=>c=b) hx ?_;intro c hc he;subst he;exact(Ctx.LK bm.1 Fh).resolve_left (by omega)
 have Bh:∀β c,C.fx β=some c->∀e cap,dt C.w0 c e cap->dt w' c e cap:=fun b0 c gC e cap gj=>by
  have h1:=h.gY b0 c gC e cap gj;by_cases iF:c=b
  ·subst iF;exact dR e cap h1
  ·exact mD (hx.block c (mF h1) iF) h1
 refine⟨h.sz,qZ,Bh,fun γ hg ak=>?_,fun γ δ c h1 h2 h3 h4=>?_,fun i=>?_⟩
 ·unfold Qy at ak;by_cases ry:γ=β
  ·subst ry;rw[if_pos rfl]at ak;cases ak;refine⟨by rw[e1];exact(h.own γ hb al).lV,hl,?_,(h.own γ hb al).fix,fun hq=>by rw[Fh]at hq;cases hq⟩;rw[bB];obtain⟨cur,cap,c1,c2,c3,c4,c5⟩:=bb;exact⟨bm.1,KaN bm.2.1 hx.size,cur,cap,c1,c2,c3,c4,fun i x hi j y hy=>hc _ _ (c5 i x hi j y hy)⟩
  ·rw[if_neg ry]at ak;obtain⟨p1,p2,p3,p4,p5⟩:=h.own γ hg ak;refine⟨p1,p2,?_,p4,p5⟩;cases hr:ρ γ with
   |none=>rw[hr]at p3;exact p3
   |some c=>rw[hr]at p3;exact⟨p3.1,KaN p3.2.1 hx.size,p3.2.2.move (hx.block c p3.2.1 (fun e=>ry (h.inj γ β b (by simp[ak]) (by simp[al]) (e▸hr) bB))) rfl rfl rfl hc⟩
 ·have f1:∀γ,Qy hp β ax γ≠none->hp γ≠none:=fun γ hn=>by
   unfold Qy at hn;by_cases ak:γ=β
   ·subst ak;simp[al]
   ·rwa[if_neg ak]at hn
  exact h.inj γ δ c (f1 γ h1) (f1 δ h2) h3 h4
 ·have key:∀γ,qw ρ ρ hp (Qy hp β ax) w w' γ:=fun γ=>⟨rfl,fun hg gF=>by
   by_cases ak:γ=β
   ·subst ak;rw[al]at gF;cases gF;exact⟨ax,by simp[Qy],e1,by rw[e3];exact Kac _,fun c cap hr gj=>by rw[bB]at hr;cases hr;exact dR _ cap gj,fun he=>absurd he aO⟩
   ·have oz:∀c,ρ γ=some c->¬c=b:=fun c hr e=>ak (h.inj γ β b (by simp[gF]) (by simp[al]) (e▸hr) bB);refine⟨hg,by simp[Qy,ak,gF],rfl,Kac _,fun c cap hr gj=>mD (hx.block c (mF gj) (oz c hr)) gj,fun he=>⟨he,rfl,fun c hr=>hx.block c ?_ (oz c hr)⟩⟩;have:=(h.own γ hg gF).dV;rw[hr]at this;exact this.2.1⟩
  exact(h.eZ i).qo gC (fun γ _=>(key γ).o) (fun γ _=>key γ)
end Go.FW
namespace Go.FW
open Go
variable {C : Ctx} {ρ : Nat -> Option Nat} {fr : Fr} {hp : HP} {w : World} {a : Act} {K : Qg}
theorem RX{X:Nat->Prop}{v:Value}{p:PV}(h:zQ v=some p):Qu w X p v:=by unfold zQ at h;split at h<;>simp at h<;>subst h<;>constructor
theorem oE{α β:Type}{f:α->Option β}:∀ {l:List α} {r:List β},l.mapM f=some r->r.length=l.length/\∀(i:Nat)(y:β),r[i]? =some y->∃x,l[i]? =some x/\f x=some y
 | [],r,h=>by simp at h;subst h;simp
 |x::l,r,h=>by
  rw[KcS]at h;simp only[Kcy,KcX,Kab,KaB]at h;obtain⟨y,hy,r',hr,rfl⟩:=h;obtain⟨h1,h2⟩:=oE hr;refine⟨by simp[h1],fun i z hz=>?_⟩;cases i with
  |zero=>simp at hz;subst hz;exact⟨x,by simp,hy⟩
  |succ i=>simp at hz;simpa using h2 i z hz
theorem Cz(cs:Array Value)(i:Nat)(x:Value)(h:cs.toList[i]? =some x):cs.getD i undef=x:=by simp only[Array.getElem?_toList]at h;simp[KaZ,h]
theorem rG{X:Nat->Prop}{v:Value}{p:PV}(h:rR v=some p):a9 w X p v:=by
 unfold rR at h;split at h
 ·rename_i cs;simp only[Kaa]at h;obtain⟨l,h1,rfl⟩:=h;obtain⟨g1,g2⟩:=oE h1;refine⟨cs,rfl,by simpa using g1.symm,fun i x hx=>?_⟩;obtain⟨u,hu,hc⟩:=g2 i x hx;rw[Cz cs i u hu];exact RX hc
 ·exact a9.qu (RX h)
theorem Cv{v:Value}{p:PV}(h:rR v=some p):p.aE=true/\p.refs=[]/\(∀f first cap,p≠ .fn f first cap):=by
 unfold rR at h;split at h
 ·simp only[Kaa]at h;obtain⟨l,h1,rfl⟩:=h;simp[PV.aE,PV.refs]
 ·unfold zQ at h;split at h<;>simp at h<;>subst h<;>simp[PV.aE,PV.refs]
theorem Qt.W1{p:PV}{v:Value}(h:a9 w (aH C ρ hp) p v)(hn:∀f first cap,p≠ .fn f first cap):Qt C ρ hp w p v:=by
 cases p with
 |fn f first cap=>exact absurd rfl (hn _ _ _)
 |undef=>trivial
 |mp=>cases h
 |ay=>cases h
 |rb=>cases h
 |aM=>cases h
 |np=>cases h
 |aU=>cases h
 |eX=>cases h
 |eY=>cases h
 |aN=>cases h
 |aw=>cases h
 |agg cs=>exact h
 |_=>exact h
theorem Qt.lE{p:PV}{v:Value}(h:a9 w (aH C ρ hp) p v):Qt C ρ hp w p v:=by
 by_cases hf:∃f first cap,p= .fn f first cap
 ·obtain⟨f,first,cap,rfl⟩:=hf;cases h with
  |fn _ _ _ fv cv h1 h2 h3 h4=>
   refine⟨fv,cv,rfl,h1,h2,fun i x hi=>?_,fun i x hi=>?_⟩
   ·have:=h3 i x hi;cases x<;>first|exact this|cases this
   ·have:=h4 i x hi;cases x<;>first|exact this|cases this
 ·exact Qt.W1 h (fun f first cap e=>hf ⟨f,first,cap,e⟩)
theorem cG{x:Operand}{y:aP}(h:aI C ρ fr hp a.tmps w)(ho:b7 x=some y):Qt C ρ hp w (ev fr y) (a.eval x):=by
 cases x with
 |tmp t=>simp[b7]at ho;subst ho;exact h.eZ t
 |const v=>simp only[b7,Kaa]at ho;obtain⟨p,an,rfl⟩:=ho;exact Qt.W1 (rG an) (Cv an).2.2
 |global g=>simp[b7]at ho
 |func f=>simp[b7]at ho;subst ho;exact⟨#[],#[],rfl,rfl,rfl,by simp,by simp⟩
theorem Qt.kf{k:IntKind}{n:Int}{v:Value}(h:Qt C ρ hp w (.int k n) v):v= .int k n:=by cases h;rfl
theorem Qt.ye{b:Bool}{v:Value}(h:Qt C ρ hp w (.bool b) v):v= .bool b:=by cases h;rfl
theorem Qt.wJ{v:Value}(h:Qt C ρ hp w .aa v):v= .slice none 0 0:=by cases h;rfl
theorem Qt.mkInt(k:IntKind)(n:Int):Qt C ρ hp w (.int k n) (.int k n):=Qu.int k n
theorem Qt.uG(b:Bool):Qt C ρ hp w (.bool b) (.bool b):=Qu.bool b
theorem Qt.Xk:Qt C ρ hp w (.aw []) undef:=⟨#[],rfl,rfl,by simp⟩
def bj(C:Ctx)(ρ:Nat->Option Nat)(o:Oper)(a:Act)(w:World)(K:Qg):Prop:=
 ∃v,(∀w',(execOp a.eval o).run C.P w'= .ok (.value v) w')/\∃az an,aI C ρ az an (a.put o.dst v).tmps w/\K az an
theorem bj.mk{o:Oper}{d:Nat}{p:PV}{v:Value}(hd:o.dst=some d)(ar:d<C.N)(h:aI C ρ fr hp a.tmps w)
  (bo:∀w',(execOp a.eval o).run C.P w'= .ok (.value v) w') (hr:Qt C ρ hp w p v) (hK:K (af fr d p) hp):bj C ρ o a w K:=
 ⟨v,bo,af fr d p,hp,by rw[hd];exact h.af hr ar,hK⟩
theorem iv{P:Program}{t:TypeId}{d:TypeDesc}(h:P.underlying t=some d)(w:World):(underlying t).run P w= .ok d w:=run_underlying h w
theorem kS{P:Program}{t:TypeId}{n:Nat}(h:ep P t=some n)(w:World):(sizeOf t).run P w= .ok n w:=by simp only[ep,Kaa]at h;obtain⟨i,hi,rfl⟩:=h;simp[sizeOf,typeInfo,hi]
theorem zD{P:Program}{t:TypeId}{ag:Bool}(h:lS P t=some ag)(w:World):(isAgg t).run P w= .ok ag w:=by simp only[lS,Kaa]at h;obtain⟨d,hd,rfl⟩:=h;simp only[isAgg,Kao,iv hd,Kaj];cases d<;>rfl
theorem RF{P:Program}{T:TypeId}(hu:P.underlying T=some .bool)(n m:Bool)(w:World):(Op.equal T (.bool n) (.bool m)).run P w= .ok (n==m) w:=by show(Op.equalIn (9999+1) T (.bool n) (.bool m)).run P w=_;unfold Op.equalIn;rw[Kao,iv hu,Kaj];rfl
theorem XQ{P:Program}{T:TypeId}(hu:P.underlying T=some .bool)(n m:Bool)(w:World):(binOp .eql T (.bool n) (.bool m)).run P w= .ok (.bool (n==m)) w:=by show(do pure (Value.bool (<-Op.equal T (.bool n) (.bool m))):Sem Value).run P w=_;rw[Kao,RF hu,Kaj];rfl
theorem XR{P:Program}{T:TypeId}(hu:P.underlying T=some .bool)(n m:Bool)(w:World):(binOp .neq T (.bool n) (.bool m)).run P w= .ok (.bool (!(n==m))) w:=by show(do pure (Value.bool (!(<-Op.equal T (.bool n) (.bool m)))):Sem Value).run P w=_;rw[Kao,RF hu,Kaj];rfl
theorem pj{o:Oper}{op:BinOp}{T T2:TypeId}{x y:Operand}(ho:o.op= .binOp op T x y T2){vx vy v:Value}(ex:a.eval x=vx)(ey:a.eval y=vy)
  (hg:∀w,(eqGuard op T x y vx vy).run C.P w= .ok () w) (hr:∀w,(binOp op T vx vy).run C.P w= .ok v w):∀w,(execOp a.eval o).run C.P w= .ok (.value v) w:=by
 intro w;unfold execOp;simp only[ho,ex,ey,Kao,hg,hr,Kaj];rfl
theorem Q9k{o:Oper}{op:BinOp}{T T2:TypeId}{x y:Operand}{px py:PV}{d:Nat}(ho:o.op= .binOp op T x y T2)(hd:o.dst=some d)(ar:d<C.N)(h:aI C ρ fr hp a.tmps w)
    (hx:Qt C ρ hp w px (a.eval x)) (hy:Qt C ρ hp w py (a.eval y)) {bt:Bool} (iS:bt=true->C.P.underlying T=some .bool)
    (hv:cm op bt px py d fr hp K):bj C ρ o a w K:=by
  unfold cm at hv;split at hv
  · rename_i k n k' m
    have ex:=hx.kf;have ey:=hy.kf;have eB:∀w',(eqGuard op T x y (.int k n) (.int k' m)).run C.P w'= .ok () w':=by intro w';unfold eqGuard;cases op<;>rfl
    split at hv
    · obtain⟨h0,hv⟩:=hv
      have Es:¬m<0:=by omega
      exact bj.mk hd ar h (pj ho ex ey eB (fun w'=>by simp[binOp,Op.shift,Es])) (Qt.mkInt _ _) hv
    · obtain⟨h0,hv⟩:=hv
      have Es:¬m<0:=by omega
      exact bj.mk hd ar h (pj ho ex ey eB (fun w'=>by simp[binOp,Op.shift,Es])) (Qt.mkInt _ _) hv
    all_goals first
      |exact hv.elim
      | (obtain⟨rfl,h0,hv⟩:=hv
         exact bj.mk hd ar h (pj ho ex ey eB (fun w'=>by simp[binOp,Op.intDiv,h0])) (Qt.mkInt _ _) hv)
      | (obtain⟨rfl,hv⟩:=hv
         exact bj.mk hd ar h (pj ho ex ey eB (fun w'=>by simp[binOp,Op.intArith,Op.intBits])) (Qt.mkInt _ _) hv)
      | (obtain⟨rfl,hv⟩:=hv
         refine bj.mk hd ar h (pj ho ex ey eB ?_) (Qt.uG _) hv;intro w';simp[binOp,Op.intCmp]<;>rfl)
  · rename_i n m
    have ex:=hx.ye;have ey:=hy.ye;have eB:∀w',(eqGuard op T x y (.bool n) (.bool m)).run C.P w'= .ok () w':=by intro w';unfold eqGuard;cases op<;>rfl
    split at hv
    · obtain⟨hb,hv⟩:=hv
      exact bj.mk hd ar h (pj ho ex ey eB (XQ (iS hb) n m)) (Qt.uG _) hv
    · obtain⟨hb,hv⟩:=hv
      exact bj.mk hd ar h (pj ho ex ey eB (XR (iS hb) n m)) (Qt.uG _) hv
    · exact hv.elim
  · exact hv.elim
theorem Qt.Xe{e:Nat}{xs:List PV}{v:Value}(h:Qt C ρ hp w (.sl e xs) v):∃ad cap,v= .slice ad xs.length cap/\xs.length<=cap/\cap<=maxLen:=by
 cases h with
 |gK _ ad cap hc=>exact⟨ad,cap,rfl,Kbx _,hc⟩
 |sl _ _ b off cap vs hX hb hl hc=>exact⟨_,cap,rfl,hl,hc⟩
theorem Qt.Nc{β o n:Nat}{v:Value}(h:Qt C ρ hp w (.ay β o n) v):∃ad cap,v= .slice ad n cap:=by
 obtain⟨hb,_,_,⟨_,rfl,rfl,rfl⟩|⟨b,cap,_,rfl,_⟩⟩:=h
 ·exact⟨_,_,rfl⟩
 ·exact⟨_,_,rfl⟩
theorem Qt.apk{γ o n:Nat}{v:Value}(h:Qt C ρ hp w (.aM γ o n) v):∃ad cap,v= .slice ad n cap:=by obtain⟨_,hb,b,cap,_,_,rfl,_⟩:=h;exact⟨_,_,rfl⟩
theorem Qt.Nh{γ i o:Nat}{v:Value}(h:Qt C ρ hp w (.np γ i o) v):cd γ=true/\∃b hb,ρ γ=some b/\hp γ=some hb/\v= .pointer (some ⟨b,i*hb.e+o,none⟩):=h
theorem Qt.WZ{p:PV}{v:Value}(h:cV C ρ hp w p v):Qt C ρ hp w p v:=by
 cases p with
 |undef=>trivial
 |ay β o n=>exact h.2
 |aM γ o n=>exact h
 |_=>exact Qt.lE (a9.qu h)
theorem cV.toC{p:PV}{v:Value}(h:cV C ρ hp w p v)(hr:p.oB=false):Qu w (aH C ρ hp) p v:=by
 cases p with
 |undef=>cases hr
 |ay=>cases hr
 |aM=>cases hr
 |_=>exact h
theorem cV.WY{p:PV}{v:Value}(h:Qu w (aH C ρ hp) p v):cV C ρ hp w p v:=by
 cases p with
 |ay=>cases h
 |aM=>cases h
 |undef=>trivial
 |_=>exact h
theorem cV.rA{p:PV}{v:Value}(h:cV C ρ hp w p v)(hu:p≠ .undef):v.oneCell'=true/\v.cells= #[v]:=by
 cases p with
 |undef=>exact absurd rfl hu
 |ay β o n=>obtain⟨_,hb,_,_,⟨_,rfl,_⟩|⟨b,cap,_,rfl,_⟩⟩:=h<;>exact⟨rfl,rfl⟩
 |aM γ o n=>obtain⟨_,hb,b,cap,_,_,rfl,_⟩:=h;exact⟨rfl,rfl⟩
 |_=>exact⟨(Qu.rA h).1,(Qu.rA h).2.1⟩
theorem Yc(cs:List PV):(nP cs).bl=cs:=by unfold nP;split<;>rfl
theorem Q9l{cs:List PV}{vs:Array Value}(hs:vs.size=cs.length)(h:∀(i:Nat)(x:PV),cs[i]? =some x->cV C ρ hp w x (vs.getD i undef)):Qt C ρ hp w (nP cs) (.agg vs):=by
 unfold nP;split
 ·exact⟨vs,rfl,hs,h⟩
 ·rename_i hn;refine⟨vs,rfl,hs,fun i x hi=>(h i x hi).toC ?_⟩;have hm:=Kai hi;cases hq:x.oB with
  |false=>rfl
  |true=>exact absurd (Ka4.2 ⟨x,hm,hq⟩) hn
theorem Pd{ag:Bool}{n off:Nat}{x:PV}{vs:Array Value}(hs:vs.size=n)(hle:off+n<=x.bl.length)(h1:ag=false->n=1)
  (hr:∀j y,j<n->x.bl[off+j]? =some y->cV C ρ hp w y (vs.getD j undef)):Qt C ρ hp w (rz ag n off x) (if ag then .agg vs else vs.getD 0 undef):=by
 cases ag with
 | true=>
  refine Q9l (by simp[hs];omega) (fun i y hy=>?_);have hi:i<n:=by have:=(Kad.1 hy).1;simp at this;omega
  rw[KaL hi,Ka9]at hy;exact hr i y hi hy
 | false=>
  have hn:=h1 rfl;subst hn;have ar:off<x.bl.length:=by omega
  have e:x.bl[off+0]? =some (x.bl[off]):=by simp[Kam ar]
  have:=hr 0 _ (by omega) e;simp only[rz,KaK,if_false];have e2:(x.bl.drop off).headD .undef=x.bl[off]:=by rw[KbE,Kcu,Kam ar];rfl
  rw[e2];exact Qt.WZ this
theorem Cq{o:Oper}{b:Builtin}{args:Array Operand}{ts:Array TypeId}(ho:o.op= .call { callee:=.builtin b,args:=args,argTypes:=ts }){v:Value}
  (hr:∀w,(builtin b ts o.type (args.map fun| .const _=>true|_=>false) (args.map a.eval)).run C.P w= .ok (.value v) w):∀w,(execOp a.eval o).run C.P w= .ok (.value v) w:=by
 intro w;unfold execOp;simp only[ho,resolve,Kao,Ka0,Kaj,invoke];exact hr w
theorem Q9m{o:Oper}{x:Operand}{t:TypeId}{px:PV}{d:Nat}(ho:o.op= .call { callee:=.builtin .len,args:= #[x],argTypes:= #[t] })(hd:o.dst=some d)(ar:d<C.N)(h:aI C ρ fr hp a.tmps w)
  (hx:Qt C ρ hp w px (a.eval x)) {e:TypeId} (he:C.P.underlying t=some (.slice e)) (hv:oL px d fr hp K):bj C ρ o a w K:=by
 have key:∀ad n cap,a.eval x= .slice ad n cap->K (af fr d (.int .i64 n)) hp->bj C ρ o a w K:=fun ad n cap ex hK=>
  bj.mk hd ar h (Cq ho (fun w'=>by simp[builtin,Builtin.len_,ex,Kao,iv he,goInt])) (Qt.mkInt _ _) hK
 unfold oL at hv;split at hv
 ·exact key _ _ _ hx.wJ hv
 ·obtain⟨ad,cap,ex,_⟩:=hx.Xe;exact key _ _ _ ex hv
 ·obtain⟨ad,cap,ex⟩:=hx.Nc;exact key _ _ _ ex hv
 ·obtain⟨ad,cap,ex⟩:=hx.apk;exact key _ _ _ ex hv
 ·exact hv.elim
theorem Qt.FG{s:ByteArray}{v:Value}(h:Qt C ρ hp w (.str s) v):v= .string s:=by cases h;rfl
theorem N8{P:Program}{t:TypeId}(h:xQ P t=true):P.underlying t=some .string:=by
 unfold xQ at h;split at h
 ·assumption
 ·cases h
theorem Q9n{o:Oper}{x:Operand}{t:TypeId}{px:PV}{d:Nat}(ho:o.op= .call { callee:=.builtin .len,args:= #[x],argTypes:= #[t] })(hd:o.dst=some d)(ar:d<C.N)(h:aI C ρ fr hp a.tmps w)
  (hx:Qt C ρ hp w px (a.eval x)) (hs:xQ C.P t=true) (hv:vJ px d fr hp K):bj C ρ o a w K:=by
 have hu:=N8 hs;unfold vJ at hv;split at hv
 ·rename_i s;have ex:=hx.FG;exact bj.mk hd ar h (Cq ho (fun w'=>by simp[builtin,Builtin.len_,ex,Kao,iv hu,goInt])) (Qt.mkInt _ _) hv
 ·exact hv.elim
theorem Yd{P:Program}{T:TypeId}(hu:P.underlying T=some .string)(n m:ByteArray)(w:World):(binOp .eql T (.string n) (.string m)).run P w= .ok (.bool (n==m)) w:=by simp[binOp,Op.stringOp,beq_toListBytes]
theorem Ye{P:Program}{T:TypeId}(hu:P.underlying T=some .string)(n m:ByteArray)(w:World):(binOp .neq T (.string n) (.string m)).run P w= .ok (.bool (!(n==m))) w:=by simp[binOp,Op.stringOp,bne,beq_toListBytes]
theorem TP(x y:ByteArray):(x==y)=decide (x=y):=by
 by_cases h:x=y
 ·subst h;rw[decide_eq_true rfl];show(x.data==x.data)=true;simp
 ·rw[decide_eq_false h];have h':x.data≠y.data:=fun e=>h (by cases x;cases y;simp_all);show(x.data==y.data)=false;simpa using h'
theorem Q9o{o:Oper}{op:BinOp}{ng:Bool}{T T2:TypeId}{x y:Operand}{px py:PV}{d:Nat}(ho:o.op= .binOp op T x y T2)(hop:Cd op=some ng)(hs:xQ C.P T=true)(hd:o.dst=some d)(ar:d<C.N)(h:aI C ρ fr hp a.tmps w)
  (hx:Qt C ρ hp w px (a.eval x)) (hy:Qt C ρ hp w py (a.eval y)) (hv:qR ng px py d fr hp K):bj C ρ o a w K:=by
 have hu:=N8 hs;unfold qR at hv;split at hv
 ·rename_i n m;have ex:=hx.FG;have ey:=hy.FG;have eB:∀w',(eqGuard op T x y (.string n) (.string m)).run C.P w'= .ok () w':=by intro w';unfold eqGuard;cases op<;>rfl
  cases op<;>first|(cases hop;done)|skip
  ·cases hop;exact bj.mk hd ar h (pj ho ex ey eB (Yd hu n m)) (Qt.uG _) (by rw[TP];simpa using hv)
  ·cases hop;exact bj.mk hd ar h (pj ho ex ey eB (Ye hu n m)) (Qt.uG _) (by rw[TP];simpa using hv)
 ·exact hv.elim
theorem acE{o:Oper}{x y:Operand}{ts:Array TypeId}{px py:PV}{d:Nat}(ho:o.op= .call { callee:=.builtin .max,args:= #[x,y],argTypes:=ts })(hd:o.dst=some d)(ar:d<C.N)(h:aI C ρ fr hp a.tmps w)
  (hx:Qt C ρ hp w px (a.eval x)) (hy:Qt C ρ hp w py (a.eval y)) (hv:wH px py d fr hp K):bj C ρ o a w K:=by
 unfold wH at hv;split at hv
 ·rename_i k n k' m;have ex:=hx.kf;have ey:=hy.kf;refine bj.mk hd ar h (Cq ho (fun w'=>?_)) (Qt.mkInt _ _) hv;have e:(if m>n then m else n)=max n m:=by omega
  simp[builtin,Builtin.max_,ex,ey,Builtin.max2,e]
 ·exact hv.elim
theorem acF{o:Oper}{x y:Operand}{ts:Array TypeId}{px py:PV}{d:Nat}(ho:o.op= .call { callee:=.builtin .min,args:= #[x,y],argTypes:=ts })(hd:o.dst=some d)(ar:d<C.N)(h:aI C ρ fr hp a.tmps w)
  (hx:Qt C ρ hp w px (a.eval x)) (hy:Qt C ρ hp w py (a.eval y)) (hv:wG px py d fr hp K):bj C ρ o a w K:=by
 unfold wG at hv;split at hv
 ·rename_i k n k' m;have ex:=hx.kf;have ey:=hy.kf;refine bj.mk hd ar h (Cq ho (fun w'=>?_)) (Qt.mkInt _ _) hv;have e:(if m<n then m else n)=min n m:=by omega
  simp[builtin,Builtin.min_,ex,ey,Builtin.min2,e]
 ·exact hv.elim
theorem acG{o:Oper}{op:UnOp}{T:TypeId}{x:Operand}{px:PV}{d:Nat}(ho:o.op= .unOp op T x)(hd:o.dst=some d)(ar:d<C.N)(h:aI C ρ fr hp a.tmps w)
  (hx:Qt C ρ hp w px (a.eval x)) (hv:uK op px d fr hp K):bj C ρ o a w K:=by
 unfold uK at hv;split at hv
 ·have ex:=hx.ye;refine bj.mk hd ar h (fun w'=>?_) (Qt.uG _) hv;unfold execOp;simp only[ho,ex];rfl
 ·have ex:=hx.kf;refine bj.mk hd ar h (fun w'=>?_) (Qt.mkInt _ _) hv;unfold execOp;simp only[ho,ex];rfl
 ·exact hv.elim
theorem YV{o:Oper}{S T:TypeId}{x:Operand}{px:PV}{d:Nat}{ds:TypeDesc}{k:IntKind}(ho:o.op= .convert S T x)(hd:o.dst=some d)(ar:d<C.N)(h:aI C ρ fr hp a.tmps w)
  (hS:C.P.underlying S=some ds) (hT:C.P.underlying T=some (.int k)) (hx:Qt C ρ hp w px (a.eval x)) (hv:vB k px d fr hp K):bj C ρ o a w K:=by
 unfold vB at hv;split at hv
 ·have ex:=hx.kf;refine bj.mk hd ar h (fun w'=>?_) (Qt.mkInt _ _) hv;unfold execOp;simp only[ho,ex,Kao,convert,iv hS,iv hT,Kaj];rfl
 ·exact hv.elim
theorem Q9p{o:Oper}{i:Nat}{x:Operand}{px:PV}{d:Nat}(ho:o.op= .extract x i)(hd:o.dst=some d)(ar:d<C.N)(h:aI C ρ fr hp a.tmps w)
  (hx:Qt C ρ hp w px (a.eval x)) (hv:kC px i d fr hp K):bj C ρ o a w K:=by
 unfold kC at hv;split at hv
 ·rename_i ps;split at hv
  ·rename_i p iZ;obtain⟨iU,hv⟩:=hv;obtain⟨vs,ex,h1,h2⟩:=hx;have hi:i<vs.size:=by rw[h1];exact(Kad.1 iZ).1
   have hr:=h2 i p iZ;have hg:vs.getD i undef=vs[i]:=by simp[Array.getD,hi]
   rw[hg]at hr;refine bj.mk hd ar h (fun w'=>?_) (Qt.lE hr) hv;unfold execOp;simp only[ho,ex,Kao,Instr.extract,Kbh hi];rfl
  ·exact hv.elim
 ·rename_i ps;split at hv
  ·rename_i p iZ;obtain⟨vs,ex,h1,h2⟩:=hx;have hi:i<vs.size:=by rw[h1];exact(Kad.1 iZ).1
   have hr:=h2 i p iZ;have hg:vs.getD i undef=vs[i]:=by simp[Array.getD,hi]
   rw[hg]at hr;refine bj.mk hd ar h (fun w'=>?_) (Qt.WZ hr) hv;unfold execOp;simp only[ho,ex,Kao,Instr.extract,Kbh hi];rfl
  ·exact hv.elim
 ·rename_i cs q;obtain⟨vs,u,ex,h1,h2,h3⟩:=hx;split at hv
  ·refine bj.mk (p:=.aU cs) (v:=.agg vs) hd ar h (fun w'=>?_) ⟨vs,rfl,h1,h2⟩ hv;unfold execOp;simp only[ho,ex,Kao,Instr.extract];rfl
  ·refine bj.mk (v:=u) hd ar h (fun w'=>?_) (Qt.lE h3) hv;unfold execOp;simp only[ho,ex,Kao,Instr.extract];rfl
  ·exact hv.elim
 ·exact hv.elim
theorem N9{o:Oper}{x:Operand}{px:PV}{d:Nat}(ho:o.op= .move x∨o.op= .assign x)(hd:o.dst=some d)(ar:d<C.N)(h:aI C ρ fr hp a.tmps w)
  (hx:Qt C ρ hp w px (a.eval x)) (hv:K (af fr d px) hp):bj C ρ o a w K:=by
 refine bj.mk hd ar h (fun w'=>?_) hx hv;rcases ho with ho|ho<;>(unfold execOp;simp only[ho];rfl)
theorem YW{o:Oper}{c x y:Operand}{pc px py:PV}{d:Nat}(ho:o.op= .pick c x y)(hd:o.dst=some d)(ar:d<C.N)(h:aI C ρ fr hp a.tmps w)
  (hc:Qt C ρ hp w pc (a.eval c)) (hx:Qt C ρ hp w px (a.eval x)) (hy:Qt C ρ hp w py (a.eval y))
  (hv:rZ pc px py d fr hp K):bj C ρ o a w K:=by
 obtain⟨t,rfl,hv⟩:∃t,pc= .bool t/\((t=true->K (af fr d px) hp)/\(t=false->K (af fr d py) hp)):=by
  cases pc with
  |bool t=>exact⟨t,rfl,hv⟩
  |_=>exact hv.elim
 have ec:=hc.ye;cases t with
 |true=>refine bj.mk hd ar h (fun w'=>?_) hx (hv.1 rfl);unfold execOp;simp only[ho,ec];rfl
 |false=>refine bj.mk hd ar h (fun w'=>?_) hy (hv.2 rfl);unfold execOp;simp only[ho,ec];rfl
theorem Cm{P:Program}{T:TypeId}{k0:IntKind}(hu:P.underlying T=some (.int k0))(d:Nat)(k:IntKind)(n m:Int)(w:World):(Op.equalIn (d+1) T (.int k n) (.int k m)).run P w= .ok (n==m) w:=by unfold Op.equalIn;rw[Kao,iv hu,Kaj];simp
theorem zE{P:Program}{t:TypeId}{cs:Array Value}{off:Nat}{v:Value}(ha:lS P t=some false)(hv:cs[off]? =some v)(w:World):(part t cs off).run P w= .ok v w:=by unfold part;rw[Kao,zD ha,Kaj];simp[hv]
theorem XS {P : Program} {T : TypeId} {f g : Field} (hu : P.underlying T = some (.struct #[f, g])) (h1 : f.name ≠ "_") (h2 : g.name ≠ "_") (o1 : f.offset = 0) (o2 : g.offset = 1) {k1 k2 : IntKind} (t1 : P.underlying f.type = some (.int k1)) (t2 : P.underlying g.type = some (.int k2))
  (hs:P.stoodInHeld T=false) (k l:IntKind) (x y x' y':Int) (w:World):(Op.equal T (.agg #[.int k x,.int l y]) (.agg #[.int k x',.int l y'])).run P w= .ok (x==x'&&y==y') w:=by
 have a1:lS P f.type=some false:=by simp[lS,t1]
 have a2:lS P g.type=some false:=by simp[lS,t2]
 show(Op.equalIn (9998+1+1) T _ _).run P w=_;rw[Op.equalIn];rw[Kao,iv hu,Kaj];have hp:Sem.run P program w= .ok P w:=rfl;rw[Kao,hp,Kaj,hs];simp only[KaK,if_false];rw[<-Array.forIn_toList];simp only[List.forIn_cons,List.forIn_nil,Kao,o1,o2,h1,h2,ne_eq,not_false_eq_true,if_true,zE a1 (show(#[Value.int k x,Value.int l y])[0]? =some _ from rfl),zE a1 (show(#[Value.int k x',Value.int l y'])[0]? =some _ from rfl),
  zE a2 (show(#[Value.int k x,Value.int l y])[1]? =some _ from rfl),zE a2 (show(#[Value.int k x',Value.int l y'])[1]? =some _ from rfl),Cm t1,Cm t2,Kaj]
 have q1:∀n m w,(Op.equalIn 9999 f.type (.int k n) (.int k m)).run P w= .ok (n==m) w:=fun n m w=>Cm t1 9998 k n m w;have q2:∀n m w,(Op.equalIn 9999 g.type (.int l n) (.int l m)).run P w= .ok (n==m) w:=fun n m w=>Cm t2 9998 l n m w;have p2:∀u v w,(part g.type #[u,v] 1).run P w= .ok v w:=fun u v w=>zE a2 (show(#[u,v])[1]? =some _ from rfl) w;by_cases e1:x=x'<;>by_cases e2:y=y'<;>simp[e1,e2,q1,q2,p2]
theorem acH{P:Program}{T:TypeId}{b:Bool}{X Y:Array Value}(h:∀w,(Op.equal T (.agg X) (.agg Y)).run P w= .ok b w)(w:World):(binOp .eql T (.agg X) (.agg Y)).run P w= .ok (.bool b) w:=by show(do pure (Value.bool (<-Op.equal T (.agg X) (.agg Y))):Sem Value).run P w=_;rw[Kao,h,Kaj];rfl
theorem acI{P:Program}{T:TypeId}{b:Bool}{X Y:Array Value}(h:∀w,(Op.equal T (.agg X) (.agg Y)).run P w= .ok b w)(w:World):(binOp .neq T (.agg X) (.agg Y)).run P w= .ok (.bool !b) w:=by show(do pure (Value.bool (!(<-Op.equal T (.agg X) (.agg Y)))):Sem Value).run P w=_;rw[Kao,h,Kaj];rfl
theorem SP {P : Program} {T:TypeId} {op:BinOp} {x y:Operand} {X Y:Array Value} (h:P.eqGuardType P.depth T=false) (w:World):(eqGuard op T x y (.agg X) (.agg Y)).run P w= .ok () w:=by
  have hp:Sem.run P program w= .ok P w:=rfl
  have hg : (do if !(<-program).eqGuardType (<-program).depth T then return
                if <- Op.eqGuardIn Op.maxDepth T (.agg X) (.agg Y) then unsupported (.noEntry "binop/eql: two nil values of an interface type with methods, in a part of a struct or an array") : Sem Unit).run P w = .ok () w := by
    rw[Kao,hp,Kaj,Kao,hp,Kaj,h];rfl
  cases op<;>first|rfl|exact hg
theorem ag6 {P : Program} {T : TypeId} (h : FF P T = true) : ∃ f g k1 k2, P.underlying T = some (.struct #[f, g]) /\ f.name ≠ "_" /\ g.name ≠ "_" /\ f.offset = 0 /\ g.offset = 1 /\ P.underlying f.type = some (.int k1) /\ P.underlying g.type = some (.int k2) /\ P.stoodInHeld T = false /\ P.eqGuardType P.depth T = false := by
 unfold FF at h;split at h
 ·rename_i fs hu;split at h
  ·rename_i f g ot;simp only[Kat,bne_iff_ne,ne_eq,beq_iff_eq,Bool.not_eq_true']at h;obtain⟨⟨⟨⟨⟨⟨⟨h1,h2⟩,h3⟩,h4⟩,h5⟩,h6⟩,h7⟩,h8⟩:=h;have:fs= #[f,g]:=by rw[<-Array.toArray_toList (xs:=fs),ot]
   subst this;cases u1:P.underlying f.type with
   |none=>rw[u1]at h5;cases h5
   | some t1=>cases u2:P.underlying g.type with
    |none=>rw[u2]at h6;cases h6
    |some t2=>
     rw[u1]at h5;rw[u2]at h6;cases t1<;>first|(cases h5;done)|skip
     cases t2<;>first|(cases h6;done)|skip
     exact⟨f,g,_,_,hu,h1,h2,h3,h4,u1,u2,h7,h8⟩
  ·cases h
 ·cases h
theorem Oa{cs:List PV}{v:Value}{p q:PV}(jH:cs=[p,q])(h:Qt C ρ hp w (.agg cs) v):∃x y,v= .agg #[x,y]/\Qu w (aH C ρ hp) p x/\Qu w (aH C ρ hp) q y:=by
 subst jH;obtain⟨vs,rfl,h1,h2⟩:=h;have hs:vs.size=2:=h1;refine⟨vs.getD 0 undef,vs.getD 1 undef,?_,h2 0 p rfl,h2 1 q rfl⟩;congr 1;apply Array.ext
 ·simp[hs]
 ·intro i hi aC;have:i=0∨i=1:=by simp at aC;omega
  rcases this with rfl|rfl<;>simp[Array.getD,hs]
theorem Q9q{o:Oper}{op:BinOp}{ng:Bool}{T T2:TypeId}{x y:Operand}{px py:PV}{d:Nat}(ho:o.op= .binOp op T x y T2)(hop:Cd op=some ng)(fi:FF C.P T=true)(hd:o.dst=some d)(ar:d<C.N)(h:aI C ρ fr hp a.tmps w)
  (hx:Qt C ρ hp w px (a.eval x)) (hy:Qt C ρ hp w py (a.eval y)) (hv:qQ ng px py d fr hp K):bj C ρ o a w K:=by
 obtain⟨f,g,k1,k2,hu,h1,h2,h3,h4,u1,u2,h7,h8⟩:=ag6 fi;unfold qQ at hv;split at hv
 ·rename_i k n l m k' n' l' m';obtain⟨rfl,rfl,hv⟩:=hv;obtain⟨a1,b1,ex,r1,r2⟩:=Oa rfl hx;obtain⟨a2,b2,ey,r3,r4⟩:=Oa rfl hy;cases r1;cases r2;cases r3;cases r4;have heq:∀w,(Op.equal T (.agg #[.int k n,.int l m]) (.agg #[.int k n',.int l m'])).run C.P w= .ok (n==n'&&m==m') w:=fun w=>XS hu h1 h2 h3 h4 u1 u2 h7 k l n m n' m' w;have e:(n==n'&&m==m')=(decide (n=n')&&decide (m=m')):=rfl;rw[e]at heq;cases op<;>first|(cases hop;done)|skip
  ·cases hop;exact bj.mk hd ar h (pj ho ex ey (SP h8) (acH heq)) (Qt.uG _) (by simpa using hv)
  ·cases hop;exact bj.mk hd ar h (pj ho ex ey (SP h8) (acI heq)) (Qt.uG _) (by simpa using hv)
 ·exact hv.elim
end Go.FW
namespace Go.FW
open Go
variable {C : Ctx} {ρ : Nat -> Option Nat} {fr : Fr} {hp : HP} {w : World} {a : Act} {K : Qg}
theorem Yf{l:List PV}{n:Nat}(h:n<l.length):l[n]? =some (l[n]'h):=Kam h
theorem Gi{P:Program}{t e:TypeId}{n:Nat}{ad:Addr}{len cap:Nat}{k:IntKind}{i:Int}(hu:P.underlying t=some (.slice e))(hn:ep P e=some n)(h0:0<=i)(h1:i<len)(w:World):
  (Instr.indexAt t (.slice (some ad) len cap) (.int k i)).run P w= .ok (.pointer (some (ad.add (i.toNat*n)))) w:=by
 have h2:0<=i/\i<len:=⟨h0,h1⟩
 unfold Instr.indexAt;simp only[asIntOf,Kao,Ka0,Kaj,iv hu,if_pos h2,kS hn]
theorem RE{P:Program}{t e:TypeId}{n len:Nat}{ad:Addr}{k:IntKind}{i:Int}(hu:P.underlying t=some (.array len e))(hn:ep P e=some n)(h0:0<=i)(h1:i<len)(w:World):
  (Instr.indexAt t (.pointer (some ad)) (.int k i)).run P w= .ok (.pointer (some (ad.add (i.toNat*n)))) w:=by
 have h2:0<=i/\i<len:=⟨h0,h1⟩
 unfold Instr.indexAt;simp only[asIntOf,Kao,Ka0,Kaj,iv hu,Instr.sureAddr,if_pos h2,kS hn]
theorem Qt.yR{β i o:Nat}{v:Value}(h:Qt C ρ hp w (.mp β i o) v):∃b hb,ρ β=some b/\hp β=some hb/\v= .pointer (some ⟨b,i*hb.e+o,none⟩):=h
theorem Qt.Nb{β i o b:Nat}{hb:HB}(h1:ρ β=some b)(h2:hp β=some hb):Qt C ρ hp w (.mp β i o) (.pointer (some ⟨b,i*hb.e+o,none⟩)):=⟨b,hb,h1,h2,rfl⟩
theorem Q9r{o:Oper}{t e:TypeId}{n:Nat}{x i:Operand}{px pi:PV}{d:Nat}(ho:o.op= .indexAddr t x i)(hd:o.dst=some d)(ar:d<C.N)(h:aI C ρ fr hp a.tmps w)
  (hu:C.P.underlying t=some (.slice e)) (hn:ep C.P e=some n) (hx:Qt C ρ hp w px (a.eval x)) (hi:Qt C ρ hp w pi (a.eval i)) (hv:dM n px pi d fr hp K):bj C ρ o a w K:=by
 unfold dM at hv;split at hv
 ·rename_i e' xs k m;obtain⟨rfl,h0,h1,hK⟩:=hv;have ei:=hi.kf;have hlen:m<xs.length:=by omega
  generalize ev:a.eval x=vx at hx;cases hx with
  |gK=>simp at h1
  |sl _ _ b off cap vs hX hb hl hc he oA hr=>
   have fj:=Yf h1;have ff:=he _ _ fj;refine bj.mk hd ar h (v:=.pointer (some ⟨b,off+m.toNat*n,none⟩)) (fun w'=>?_) ?_ hK
   ·unfold execOp;simp only[ho,ei,ev,Kao,Gi hu hn h0 hlen,Kaj,Kbz];rfl
   ·exact Qu.pt _ b _ (vs m.toNat) hX hb (fun j hj=>oA m.toNat h1 j (by omega)) (fun j y hy=>hr m.toNat _ fj j y hy)
 ·rename_i β o' m k n';obtain⟨h0,h1,h2,hK⟩:=hv;have ei:=hi.kf;obtain⟨hb,g1,g2,⟨g3,_,g5,_⟩|⟨b,cap,g3,g4,g5,g6⟩⟩:=hx
  ·omega
  ·rw[g1]at h2;simp only[Kck,KaB]at h2;subst h2;have hm:n'<m:=by omega
   refine bj.mk hd ar h (fun w'=>?_) (Qt.Nb g3 g1) hK;unfold execOp;simp only[ho,ei,g4,Kao,Gi hu hn h0 hm,Kaj,Kbz,KaU,KaI];rfl
 ·rename_i γ o' m k n';obtain⟨h0,h1,h2,hK⟩:=hv;have ei:=hi.kf;obtain⟨hB,hb,b,cap,g1,g3,g4,g5,g6,g7⟩:=hx;rw[g1]at h2;simp only[Kck,KaB]at h2;subst h2;have hm:n'<m:=by omega
  refine bj.mk hd ar h (p:=.np γ (o'+n'.toNat) 0) (fun w'=>?_) (show cW C ρ hp w (.np γ (o'+n'.toNat) 0) _ from⟨hB,b,hb,g3,g1,rfl⟩) hK;unfold execOp;simp only[ho,ei,g4,Kao,Gi hu hn h0 hm,Kaj,Kbz,KaU,KaI];rfl
 ·exact hv.elim
theorem Qu.W7{X:Nat->Prop}{cs:List PV}{b off k:Nat}(h:Qu w X (.pt cs) (.pointer (some ⟨b,off,none⟩))):Qu w X (.pt (cs.drop k)) (.pointer (some ⟨b,off+k,none⟩)):=by
 cases h with
 |pt _ _ _ vs hX hb hv hr=>
  refine Qu.pt _ b _ (fun j=>vs (k+j)) hX hb (fun j hj=>?_) (fun j y hy=>?_)
  ·have:=hv (k+j) (by simp at hj;omega);rwa[<-Nat.add_assoc]at this
  ·rw[Ka9]at hy;exact hr _ _ hy
theorem Qt.FE{cs:List PV}{v:Value}(h:Qt C ρ hp w (.pt cs) v):∃b off,v= .pointer (some ⟨b,off,none⟩)/\Qu w (aH C ρ hp) (.pt cs) (.pointer (some ⟨b,off,none⟩)):=by
 have h':Qu w (aH C ρ hp) (.pt cs) v:=h;cases h' with
 |pt _ b off vs hX hb hv hr=>exact⟨b,off,rfl,.pt _ b off vs hX hb hv hr⟩
theorem YX{o:Oper}{t e:TypeId}{n len:Nat}{x i:Operand}{px pi:PV}{d:Nat}(ho:o.op= .indexAddr t x i)(hd:o.dst=some d)(ar:d<C.N)(h:aI C ρ fr hp a.tmps w)
  (hu:C.P.underlying t=some (.array len e)) (hn:ep C.P e=some n) (hx:Qt C ρ hp w px (a.eval x)) (hi:Qt C ρ hp w pi (a.eval i)) (hv:qM len n px pi d fr hp K):bj C ρ o a w K:=by
 unfold qM at hv;split at hv
 ·rename_i β j o' k m;obtain⟨h0,h1,hK⟩:=hv;have ei:=hi.kf;obtain⟨b,hb,g1,g2,g3⟩:=hx.yR;refine bj.mk hd ar h (fun w'=>?_) (Qt.Nb g1 g2) hK;unfold execOp;simp only[ho,ei,g3,Kao,RE hu hn h0 h1,Kaj,Kbz,Kcg];rfl
 ·rename_i cs k m;obtain⟨h0,h1,h2,hK⟩:=hv;have ei:=hi.kf;obtain⟨b,off,ex,an⟩:=hx.FE;refine bj.mk hd ar h (p:=.pt (cs.drop (m.toNat*n))) (v:=.pointer (some ⟨b,off+m.toNat*n,none⟩)) (fun w'=>?_) an.W7 hK;unfold execOp;simp only[ho,ei,ex,Kao,RE hu hn h0 h1,Kaj,Kbz];rfl
 ·exact hv.elim
theorem Gs{P:Program}{t:TypeId}{fs:Array Field}{j:Nat}{f:Field}{n b off:Nat}(hu:P.underlying t=some (.struct fs))(hf:fs[j]? =some f)(hn:ep P f.type=some n)(h0:n≠0)(w:World):
  (Instr.fieldAt t (.pointer (some ⟨b,off,none⟩)) j).run P w= .ok (.pointer (some ⟨b,off+f.offset,none⟩)) w:=by
 unfold Instr.fieldAt;simp only[Kao,iv hu,Kaj,hf,Instr.sureAddr,Ka0,fieldPlace,kS hn,if_neg h0,Kbz]
theorem Q9s{o:Oper}{t:TypeId}{fs:Array Field}{j n:Nat}{f:Field}{x:Operand}{px:PV}{d:Nat}(ho:o.op= .fieldAddr t x j)(hd:o.dst=some d)(ar:d<C.N)(h:aI C ρ fr hp a.tmps w)
  (hu:C.P.underlying t=some (.struct fs)) (hf:fs[j]? =some f) (hn:ep C.P f.type=some n) (l8:n≠0) (hx:Qt C ρ hp w px (a.eval x)) (hv:qS f.offset px d fr hp K):bj C ρ o a w K:=by
 unfold qS at hv;split at hv
 ·rename_i β i o';obtain⟨b,hb,g1,g2,g3⟩:=hx.yR;refine bj.mk hd ar h (fun w'=>?_) (Qt.Nb g1 g2) hv;unfold execOp;simp only[ho,g3,Kao,Gs hu hf hn l8,Kaj,Kcg];rfl
 ·rename_i γ i o';obtain⟨hB,b,hb,g1,g2,g3⟩:=hx.Nh;refine bj.mk hd ar h (p:=.np γ i (o'+f.offset)) (fun w'=>?_) (show cW C ρ hp w (.np γ i (o'+f.offset)) _ from⟨hB,b,hb,g1,g2,rfl⟩) hv;unfold execOp;simp only[ho,g3,Kao,Gs hu hf hn l8,Kaj,Kcg];rfl
 ·rename_i cs;obtain⟨_,hK⟩:=hv;obtain⟨b,off,ex,an⟩:=hx.FE;refine bj.mk hd ar h (p:=.pt (cs.drop f.offset)) (v:=.pointer (some ⟨b,off+f.offset,none⟩)) (fun w'=>?_) an.W7 hK;unfold execOp;simp only[ho,ex,Kao,Gs hu hf hn l8,Kaj];rfl
 ·exact hv.elim
theorem wU(vs:Array Value)(off n j:Nat)(hj:j<n)(h:off+n<=vs.size):(vs.extract off (off+n)).getD j undef=vs.getD (off+j) undef:=by
 have h1:j<(vs.extract off (off+n)).size:=by simp;omega
 have h2:off+j<vs.size:=by omega
 simp only[KaZ,Kbh h1,Kbh h2,Array.getElem_extract]
theorem z'{X:Nat->Prop}{ag:Bool}{n off:Nat}{x:PV}{vs:Array Value}(hs:vs.size=n)(hle:off+n<=x.cells.length)(h1:ag=false->n=1)
  (hr:∀j y,j<n->x.cells[off+j]? =some y->Qu w X y (vs.getD j undef)):a9 w X (eM ag n off x) (if ag then .agg vs else vs.getD 0 undef):=by
 cases ag with
 | true=>
  refine⟨vs,rfl,by simp[hs];omega,fun i y hy=>?_⟩;have hi:i<n:=by have:=(Kad.1 hy).1;simp at this;omega
  rw[KaL hi,Ka9]at hy;exact hr i y hi hy
 | false=>
  have hn:=h1 rfl;subst hn;have ar:off<x.cells.length:=by omega
  have e:x.cells[off+0]? =some (x.cells[off]):=by simp[Kam ar]
  have:=hr 0 _ (by omega) e;simp only[eM,KaK,if_false];have e2:(x.cells.drop off).headD .undef=x.cells[off]:=by rw[KbE,Kcu,Kam ar];rfl
  rw[e2];exact a9.qu this
theorem YY{o:Oper}{t:TypeId}{fs:Array Field}{j n:Nat}{ag:Bool}{f:Field}{x:Operand}{px:PV}{d:Nat}(ho:o.op= .field t x j)(hd:o.dst=some d)(ar:d<C.N)(h:aI C ρ fr hp a.tmps w)
  (hu:C.P.underlying t=some (.struct fs)) (hf:fs[j]? =some f) (hn:ep C.P f.type=some n) (jX:lS C.P f.type=some ag) (hx:Qt C ρ hp w px (a.eval x)) (hv:qN f.offset n ag px d fr hp K):bj C ρ o a w K:=by
 unfold qN at hv;split at hv
 ·rename_i cs;obtain⟨h1,h2,hK⟩:=hv;obtain⟨vs,ex,g1,g2⟩:=hx;have hle:f.offset+n<=vs.size:=by omega
  have cN:=z' (X:=aH C ρ hp) (w:=w) (ag:=ag) (off:=f.offset) (x:=.agg cs) (vs:=vs.extract f.offset (f.offset+n)) (by simp;omega) h1 h2
   (fun j y hj hy=>by rw[wU vs _ _ _ hj hle];exact g2 _ y hy)
  refine bj.mk hd ar h (fun w'=>?_) (Qt.lE cN) hK;unfold execOp;simp only[ho,ex,Kao,Instr.field,iv hu,Kaj,hf,asAgg,Ka0,part,zD jX];cases ag with
  |true=>simp only[if_true,Kao,kS hn,Kaj,Ka0]
  |false=>
   have lu:=h2 rfl;subst lu;have ll:f.offset<vs.size:=by omega
   simp only[KaK,if_false,Kbh ll,Ka0,Kaj];rw[wU vs _ _ 0 (by omega) hle];simp[Array.getD,ll]
 ·rename_i cs;obtain⟨h1,h2,hK⟩:=hv;obtain⟨vs,ex,g1,g2⟩:=hx;have hle:f.offset+n<=vs.size:=by omega
  have cN:=Pd (C:=C) (ρ:=ρ) (hp:=hp) (w:=w) (ag:=ag) (off:=f.offset) (x:=.aU cs) (vs:=vs.extract f.offset (f.offset+n)) (by simp;omega) h1 h2
   (fun j y hj hy=>by rw[wU vs _ _ _ hj hle];exact g2 _ y hy)
  refine bj.mk hd ar h (fun w'=>?_) cN hK;unfold execOp;simp only[ho,ex,Kao,Instr.field,iv hu,Kaj,hf,asAgg,Ka0,part,zD jX];cases ag with
  |true=>simp only[if_true,Kao,kS hn,Kaj,Ka0]
  |false=>
   have lu:=h2 rfl;subst lu;have ll:f.offset<vs.size:=by omega
   simp only[KaK,if_false,Kbh ll,Ka0,Kaj];rw[wU vs _ _ 0 (by omega) hle];simp[Array.getD,ll]
 ·exact hv.elim
theorem Q9t{o:Oper}{t:TypeId}{x i:Operand}{px pi:PV}{d:Nat}(ho:o.op= .index t x i)(hd:o.dst=some d)(ar:d<C.N)(h:aI C ρ fr hp a.tmps w)
  (hu:C.P.underlying t=some .string) (hx:Qt C ρ hp w px (a.eval x)) (hi:Qt C ρ hp w pi (a.eval i)) (hv:tO px pi d fr hp K):bj C ρ o a w K:=by
 unfold tO at hv;split at hv
 ·rename_i s k m;obtain⟨h0,h1,hK⟩:=hv;have ei:=hi.kf;have ex:=hx.FG;have ll:m.toNat<s.size:=by omega
  have e0:s.get! m.toNat=s[m.toNat]'ll:=by simp[ByteArray.get!,getElem!_pos,ll];rfl
  have e1:(if 0<=m then s[m.toNat]? else none)=some (s.get! m.toNat):=by rw[if_pos h0,getElem?_pos s m.toNat ll,e0]
  refine bj.mk hd ar h (fun w'=>?_) (Qt.mkInt _ _) hK;unfold execOp;simp only[ho,ex,ei,Kao,Instr.index,asIntOf,iv hu,Kaj,Ka0,e1]
 ·exact hv.elim
theorem Q9u{o:Oper}{t e:TypeId}{len n:Nat}{ag:Bool}{x i:Operand}{px pi:PV}{d:Nat}(ho:o.op= .index t x i)(hd:o.dst=some d)(ar:d<C.N)(h:aI C ρ fr hp a.tmps w)
  (hu:C.P.underlying t=some (.array len e)) (hn:ep C.P e=some n) (jX:lS C.P e=some ag) (hx:Qt C ρ hp w px (a.eval x)) (hi:Qt C ρ hp w pi (a.eval i)) (hv:xS len n ag px pi d fr hp K):bj C ρ o a w K:=by
 unfold xS at hv;split at hv
 ·rename_i cs k m;obtain⟨h0,h00,h1,h2,hK⟩:=hv;have ei:=hi.kf;obtain⟨vs,ex,g1,g2⟩:=hx;have hle:m.toNat*n+n<=vs.size:=by omega
  have Bb:0<=m/\m<len:=⟨h0,h00⟩
  have cN:=z' (X:=aH C ρ hp) (w:=w) (ag:=ag) (off:=m.toNat*n) (x:=.agg cs) (vs:=vs.extract (m.toNat*n) (m.toNat*n+n)) (by simp;omega) h1 h2
   (fun j y hj hy=>by rw[wU vs _ _ _ hj hle];exact g2 _ y hy)
  refine bj.mk hd ar h (fun w'=>?_) (Qt.lE cN) hK;unfold execOp;simp only[ho,ex,ei,Kao,Instr.index,asIntOf,iv hu,Kaj,Ka0,if_pos Bb,kS hn,part,zD jX];cases ag with
  |true=>simp only[if_true,Kao,kS hn,Kaj,Ka0]
  |false=>
   have lu:=h2 rfl;subst lu;have ll:m.toNat*1<vs.size:=by omega
   simp only[KaK,if_false,Kbh ll,Ka0,Kaj];rw[wU vs _ _ 0 (by omega) hle];have we:m.toNat<vs.size:=by omega
   simp[Array.getD,we]
 ·exact hv.elim
end Go.FW
namespace Go.FW
open Go
variable {C : Ctx} {ρ : Nat -> Option Nat} {fr : Fr} {hp : HP} {w : World} {a : Act} {K : Qg}
def Aq(C:Ctx)(ρ:Nat->Option Nat)(o:Oper)(a:Act)(w:World)(K:Qg):Prop:=
 ∃v b,b<w.heap.size/\(∀w',w'.heap[b]? =w.heap[b]? ->(execOp a.eval o).run C.P w'= .ok (.value v) w')/\∃az an,aI C ρ az an (a.put o.dst v).tmps w/\K az an
theorem Cw{P:Program}{t:TypeId}{n b off:Nat}{ag:Bool}{vs:Array Value}(hn:ep P t=some n)(jX:lS P t=some ag)(h1:ag=false->n=1)(hs:vs.size=n)
  (w:World) (hc:∀j,j<n->w.cell? ⟨b,off+j,none⟩=some (vs.getD j undef)):
  (loadVar t ⟨b,off,none⟩).run P w= .ok (if ag then .agg vs else vs.getD 0 undef) w:=by
 unfold loadVar;simp only[Kao,zD jX,Kaj];cases ag with
 | true=>
  have hl:=run_loadCells_list (P:=P) w ⟨b,off,none⟩ vs.toList (fun j v hj=>by
   have fO:j<vs.size:=by simpa using(Kad.1 hj).1
   rw[Kbz,hc j (by omega),Cz vs j v hj])
  simp only[Array.length_toList,hs]at hl;simp only[if_true,Kao,kS hn,Kaj,hl,Ka0]
 |false=>have lu:=h1 rfl;subst lu;have h0:=hc 0 (by omega);simp only[KaU]at h0;simp only[KaK,if_false,run_load,h0]
theorem nO{i e o j n cap:Nat}(h1:i<cap)(h2:o+n<=e)(h3:j<n):i*e+o+j<cap*e:=by have:(i+1)*e<=cap*e:=Kaf e h1;rw[KaI,KcV]at this;omega
theorem lG{w:World}{b o:Nat}{cur:Array Value}{ty:TypeId}(h:w.heap[b]? =some (.cells cur ty (0,0)))(ho:o<cur.size):w.cell? ⟨b,o,none⟩=some (cur.getD o undef):=by simp[World.cell?,h,ho,Array.getD]
theorem tc{n:Nat}{f:Nat->Value}{j:Nat}(hj:j<n):(Array.ofFn (n:=n) fun i=>f i.val).getD j undef=f j:=by simp[Array.getD,hj]
theorem acJ{o:Oper}{t:TypeId}{n:Nat}{ag:Bool}{x:Operand}{px:PV}{d:Nat}(ho:o.op= .load t x)(hd:o.dst=some d)(ar:d<C.N)(h:aI C ρ fr hp a.tmps w)
  (hn:ep C.P t=some n) (jX:lS C.P t=some ag) (hx:Qt C ρ hp w px (a.eval x)) (hv:kP n ag px d fr hp K):Aq C ρ o a w K:=by
 have fin:∀(b off:Nat)(vs:Array Value)(p:PV),a.eval x= .pointer (some ⟨b,off,none⟩)->(ag=false->n=1)->b<w.heap.size->vs.size=n->
   (∀j,j<n->w.cell? ⟨b,off+j,none⟩=some (vs.getD j undef))->a9 w (aH C ρ hp) p (if ag then .agg vs else vs.getD 0 undef)->K (af fr d p) hp->Aq C ρ o a w K:=by
  intro b off vs p ex h1 hb hs hc hr hK;refine⟨_,b,hb,fun w' ru=>?_,af fr d p,hp,by rw[hd];exact h.af (Qt.lE hr) ar,hK⟩;have:=Cw (P:=C.P) hn jX h1 hs w' (fun j hj=>by rw[uV ru];exact hc j hj);unfold execOp;simp only[ho,ex,Kao,Instr.loadAt,Instr.sureAddr,Ka0,Kaj,this]
 unfold kP at hv;split at hv
 ·rename_i β i o';split at hv
  ·rename_i hb al;obtain⟨h1,h2,h3,hK⟩:=hv;obtain⟨b,fb,g1,g2,g3⟩:=hx.yR;rw[al]at g2;cases g2;have bm:=h.own β hb al;have bb:=bm.dV;rw[g1]at bb;obtain⟨_,ll,cur,cap,c1,c2,c3,c4,c5⟩:=bb;have gJ:=Kam h1;have ff:=(bm.len i _ gJ).1;have dR:i<cap:=by omega
   have m9:∀j,j<n->i*hb.e+o'+j<cur.size:=fun j hj=>by rw[c2];exact nO dR h2 hj
   refine fin b (i*hb.e+o') (Array.ofFn (n:=n) fun j=>cur.getD (i*hb.e+o'+j.val) undef) _ g3 h3 ll (by simp) (fun j hj=>?_) ?_ hK
   ·rw[tc (f:=fun j=>cur.getD (i*hb.e+o'+j) undef) hj];exact lG c1 (m9 j hj)
   ·refine z' (by simp) (by rw[ff];exact h2) h3 (fun j y hj hy=>?_);rw[tc (f:=fun j=>cur.getD (i*hb.e+o'+j) undef) hj,Kcg];exact c5 i _ gJ (o'+j) y hy
  ·exact hv.elim
 ·rename_i cs;obtain⟨h1,h3,hK⟩:=hv;obtain⟨b,off,ex,hpt⟩:=hx.FE;cases hpt with
  | pt _ _ _ vs hX hb ER hr=>
   refine fin b off (Array.ofFn (n:=n) fun j=>vs j.val) _ ex h3 hb (by simp) (fun j hj=>?_) ?_ hK
   ·rw[tc hj];exact ER j (by omega)
   ·refine z' (by simp) (by simpa[PV.cells]using h1) h3 (fun j y hj hy=>?_);rw[tc hj];exact hr j y (by simpa[PV.cells]using hy)
 ·rename_i β o' m;obtain⟨rfl,rfl,hK⟩:=hv;obtain⟨b,u,e1,e2,e3,e4,e5⟩:=hx;refine⟨_,b,e2,fun w' ru=>?_,af fr d (.ay β o' m),hp,by rw[hd];exact h.af (p:=.ay β o' m) (v:=u) e5 ar,hK⟩;have:=Cw (P:=C.P) (t:=t) (b:=b) (off:=0) (vs:= #[u]) hn jX (fun _=>rfl) rfl w' (fun j hj=>by
   obtain rfl:j=0:=by omega
   rw[uV ru];simpa using e4)
  unfold execOp;simp only[ho,e1,Kao,Instr.loadAt,Instr.sureAddr,Ka0,Kaj,this];rfl
 ·rename_i γ i o';split at hv
  ·rename_i bE e ty xs ak;obtain⟨rfl,h1,h2,h3,hK⟩:=hv;obtain⟨hB,b,hb,g1,g2,g3⟩:=hx.Nh;have cJ:=h.eZ bE;rw[ak]at cJ;obtain⟨_,v7,b',ax,cur,cap,q1,q2,q3,q4,q5,q6,q7,q8,q9,BV,iu⟩:=cJ;rw[g1]at q1;cases q1;rw[g2]at q2;cases q2;rw[q4]at g3;have ll:b<w.heap.size:=(KaH.1 q6).1;have gJ:=Kam h1;have ff:=BV i _ gJ;have dR:i<cap:=by omega
   have m9:∀j,j<n->i*e+o'+j<cur.size:=fun j hj=>by rw[q7];exact nO dR h2 hj
   have gI:∀j,j<n->w.cell? ⟨b,i*e+o'+j,none⟩=some ((Array.ofFn (n:=n) fun j=>cur.getD (i*e+o'+j.val) undef).getD j undef):=fun j hj=>by rw[tc (f:=fun j=>cur.getD (i*e+o'+j) undef) hj];exact lG q6 (m9 j hj)
   have cN:=Pd (C:=C) (ρ:=ρ) (hp:=hp) (w:=w) (ag:=ag) (n:=n) (off:=o') (x:=xs[i]) (vs:=Array.ofFn (n:=n) fun j=>cur.getD (i*e+o'+j.val) undef) (by simp) (by rw[ff];exact h2) h3 (fun j y hj hy=>by rw[tc (f:=fun j=>cur.getD (i*e+o'+j) undef) hj,Kcg];exact iu i _ gJ (o'+j) y hy);refine⟨_,b,ll,fun w' ru=>?_,af fr d _,hp,by rw[hd];exact h.af cN ar,hK⟩;have:=Cw (P:=C.P) (b:=b) (off:=i*e+o') (vs:=Array.ofFn (n:=n) fun j=>cur.getD (i*e+o'+j.val) undef) hn jX h3 (by simp) w' (fun j hj=>by rw[uV ru];exact gI j hj);unfold execOp;simp only[ho,g3,Kao,Instr.loadAt,Instr.sureAddr,Ka0,Kaj,this]
  ·exact hv.elim
 ·exact hv.elim
theorem Sh{tmps:Array Value}(h:aI C ρ fr hp tmps w){β b:Nat}{hb:HB}{l:List Nat}(_hB:bK β=false)(al:hp β=some hb)(hl:β∈l)(bB:ρ β=some b):¬aH C ρ (cf hp l) b:=by
 have bb:=(h.own β hb al).dV;rw[bB]at bb;rintro(hx|⟨γ,hg,h1,h2,h3⟩)
 ·exact Ctx.LJ bb.1 (Ed _hB) hx
 ·obtain⟨im,g1,_,_,_,_,g6⟩:=zf h1;have:=h.inj γ β b (by simp[g1]) (by simp[al]) h3 bB;subst this;exact g6 h2 hl
theorem C0{tmps:Array Value}(h:aI C ρ fr hp tmps w){p:PV}{v:Value}{l:List Nat}(hr:cW C ρ hp w p v)(hl:∀β∈p.bP,β∈l)(hu:cF hp p≠ .undef):Qu w (aH C ρ (cf hp l)) (cF hp p) v:=by
 cases p with
 | mp β i o=>
  obtain⟨b,hb,g1,g2,rfl⟩:=hr;have wC:=hl β (by simp[PV.bP]);have bm:=h.own β hb g2;have bb:=bm.dV;rw[g1]at bb;obtain⟨_,ar,cur,cap,c1,c2,c3,c4,c5⟩:=bb;have hB:bK β=false:=by
   cases hq:bK β with
   |false=>rfl
   |true=>simp[cF,hq]at hu
  simp only[cF,g2,hB]at hu⊢;cases hx:hb.xs[i]? with
  |none=>simp[hx]at hu
  | some x=>
   simp only[KaK,if_false];have hi:i<hb.xs.length:=(Kad.1 hx).1;have ff:=(bm.len i x hx).1;refine Qu.pt _ b _ (fun j=>cur.getD (i*hb.e+o+j) undef) (Sh h hB g2 wC g1) ar (fun j hj=>?_) (fun j y hy=>?_)
   ·have fO:o+(j+1)<=hb.e:=by simp[ff]at hj;omega
    exact lG c1 (by rw[c2];exact nO (by omega) fO (Kdc j))
   ·rw[Ka9]at hy;rw[Kcg];exact(c5 i x hx (o+j) y hy).freeze
 | ay β o n=>
  obtain⟨hb,g1,g2,g3⟩:=hr;have hB:bK β=false:=by
   cases hq:bK β with
   |false=>rfl
   |true=>simp[cF,hq]at hu
  simp only[cF,g1,hB];rcases g3 with⟨g3,rfl,rfl,rfl⟩|⟨b,cap,g3,rfl,g5,g6⟩
  ·simp only[Kb5];exact .gK _ _ _ (Kbx _)
  ·have wC:=hl β (by simp[PV.bP]);have bm:=h.own β hb g1;have bb:=bm.dV;rw[g3]at bb;obtain⟨_,ar,cur,eT,c1,c2,c3,c4,c5⟩:=bb;obtain⟨cur',ty',d1,d2⟩:=g5;rw[c1]at d1;cases d1;have gj:o+cap=eT:=by rw[c2]at d2;exact(KbB bm.lV d2).symm
   subst gj;have hlen:((hb.xs.drop o).take n).length=n:=by simp;omega
   have eV:∀(i:Nat)(x:PV),((hb.xs.drop o).take n)[i]? =some x->i<n/\hb.xs[o+i]? =some x:=fun i x hx=>by
    have hi:i<n:=by have:=(Kad.1 hx).1;omega
    rw[KaL hi,Ka9]at hx;exact⟨hi,hx⟩
   have:=Qu.sl (w:=w) (X:=aH C ρ (cf hp l)) hb.e ((hb.xs.drop o).take n) b (o*hb.e) cap (fun i j=>cur.getD ((o+i)*hb.e+j) undef) (Sh h hB g1 wC g3) ar (by omega) (by omega)
    (fun i x hx=>(bm.len _ x (eV i x hx).2).1)
    (fun i hi j hj=>by rw[hlen]at hi;have:=nO (i:=o+i) (e:=hb.e) (o:=0) (j:=j) (n:=hb.e) (cap:=o+cap) (by omega) (by omega) hj;rw[KaU]at this;rw[show o*hb.e+i*hb.e+j=(o+i)*hb.e+j by rw[KaI]];exact lG c1 (by rw[c2];exact this))
    (fun i x hx j y hy=>(c5 _ x (eV i x hx).2 j y hy).freeze)
   rwa[hlen]at this
 |undef=>simp[cF]at hu
 |rb=>simp[cF]at hu
 |aM=>simp[cF]at hu
 |np=>simp[cF]at hu
 |aU=>simp[cF]at hu
 |eX=>simp[cF]at hu
 |eY=>simp[cF]at hu
 |aN=>simp[cF]at hu
 |_=>exact Qu.freeze hr
theorem Pe{p:PV}(h:p.gZ=true):p≠ .undef:=by cases p<;>simp[PV.gZ]at h⊢
theorem TQ{p:PV}(h:p.aE=true):p≠ .undef:=by cases p<;>simp[PV.aE]at h⊢
theorem qF{tmps:Array Value}(h:aI C ρ fr hp tmps w){p:PV}{v:Value}{l:List Nat}(hr:Qt C ρ hp w p v)(hl:∀β∈p.refs,β∈l)(hd:(aK hp p).aE=true):a9 w (aH C ρ (cf hp l)) (aK hp p) v:=by
 cases p with
 | fn f first cap=>
  obtain⟨fv,cv,rfl,h1,h2,h3,h4⟩:=hr;simp only[aK,PV.aE,Kat,Kay,KaE,forall_exists_index,and_imp,forall_apply_eq_imp_iff₂]at hd;refine Qu.fn f _ _ fv cv (by simp[h1]) (by simp[h2]) (fun i x hx=>?_) (fun i x hx=>?_)
  ·simp only[Kax,Kaa]at hx;obtain⟨y,hy,rfl⟩:=hx;exact C0 h (h3 i y hy) (fun β al=>hl β (Gh hy β al)) (Pe (hd.1 y (Kai hy)))
  ·simp only[Kax,Kaa]at hx;obtain⟨y,hy,rfl⟩:=hx;exact C0 h (h4 i y hy) (fun β al=>hl β (Gr hy β al)) (Pe (hd.2 y (Kai hy)))
 |mp β i o=>exact a9.qu (C0 (p:=.mp β i o) h hr hl (TQ hd))
 |ay β o n=>exact a9.qu (C0 (p:=.ay β o n) h hr hl (TQ hd))
 |undef=>simp[aK,cF,PV.aE]at hd
 |rb=>simp[aK,cF,PV.aE]at hd
 |aM=>simp[aK,cF,PV.aE]at hd
 |np=>simp[aK,cF,PV.aE]at hd
 |aU=>simp[aK,cF,PV.aE]at hd
 |eX=>simp[aK,cF,PV.aE]at hd
 |eY=>simp[aK,cF,PV.aE]at hd
 |aN=>simp[aK,cF,PV.aE]at hd
 |aw ps=>simp[aK,cF,PV.aE]at hd
 |agg cs=>exact a9.mono (p:=.agg cs) hr (fun _ _ _=>rfl) (fun _ _ hn hx=>hn (GP hx)) (Kac _)
 |_=>exact Qu.freeze hr
end Go.FW
namespace Go.FW
open Go
variable {C : Ctx} {ρ : Nat -> Option Nat} {fr : Fr} {hp : HP} {w : World} {a : Act} {K : Qg}
theorem te{x:Option Operand}{y:Option aP}{UO n:Int}(h:aI C ρ fr hp a.tmps w)(ho:nU x=some y)(hb:ix UO (y.map (ev fr))=some n):
  (x=none/\y=none/\n=UO)∨∃z k,x=some z/\a.eval z= .int k n/\y.isSome=true:=by
 cases x with
 |none=>simp[nU]at ho;subst ho;simp[ix]at hb;exact .inl ⟨rfl,rfl,hb.symm⟩
 | some z=>
  simp only[nU,Kaa]at ho;obtain⟨u,hu,rfl⟩:=ho;have hr:=cG h hu;simp only[Kck]at hb;cases an:ev fr u with
  |int k m=>rw[an]at hb hr;simp[ix]at hb;subst hb;exact .inr ⟨z,k,rfl,hr.kf,rfl⟩
  |_=>rw[an]at hb;simp[ix]at hb
theorem uQ{P:Program}{k:IntKind}{i:Int}{y:Nat}{code:BoundsCode}(h0:0<=i)(h1:i<=y)(w:World):(Instr.sliceBound (.int k i) y code).run P w= .ok i.toNat w:=by
 unfold Instr.sliceBound;have:0<=i/\i<=y:=⟨h0,h1⟩
 simp only[asIntOf,Kao,Ka0,Kaj,if_pos this]
theorem CN{P:Program}{len cap:Nat}{lo hi mx:Option Operand}{L H M:Int}(eval:Operand->Value)
  (hL:(lo=none/\L=0)∨∃z k,lo=some z/\eval z= .int k L)
  (hH:(hi=none/\H=len)∨∃z k,hi=some z/\eval z= .int k H)
  (hM:(mx=none/\M=len)∨∃z k,mx=some z/\eval z= .int k M) (hm:mx.isSome=true->hi.isSome=true)
  (h0:0<=L) (h1:L<=H) (h2:H<=M) (h3:M<=len) (h4:len<=cap):
  ∃m,L.toNat<=m/\H.toNat<=m/\m<=cap/\(mx=none->m=cap)/\∀w,(Instr.sliceBounds true len cap (lo.map eval) (hi.map eval) (mx.map eval)).run P w= .ok (L.toNat,H.toNat,m) w:=by
 have c1:H<=(cap:Int):=by omega
 rcases hM with⟨rfl,hM⟩|⟨zm,km,rfl,hM⟩
 ·refine⟨cap,by omega,by omega,Kac _,fun _=>rfl,fun w=>?_⟩;rcases hH with⟨rfl,hH⟩|⟨zh,kh,rfl,hH⟩<;>rcases hL with⟨rfl,hL⟩|⟨zl,kl,rfl,hL⟩
  ·subst hH;subst hL;simp[Instr.sliceBounds,Kao]
  ·subst hH;have e:=uQ (P:=P) (k:=kl) (code:=.sliceB) (y:=len) h0 h1;simp[Instr.sliceBounds,Kao,hL,e]
  ·subst hL;have e:=uQ (P:=P) (k:=kh) (code:=.sliceAcap) (y:=cap) (by omega) c1;simp[Instr.sliceBounds,Kao,hH,e]
  ·have e:=uQ (P:=P) (k:=kh) (code:=.sliceAcap) (y:=cap) (by omega) c1;have e2:=uQ (P:=P) (k:=kl) (code:=.sliceB) (y:=H.toNat) h0 (by omega);simp[Instr.sliceBounds,Kao,hH,hL,e,e2]
 ·rcases hH with⟨rfl,hH⟩|⟨zh,kh,rfl,hH⟩
  ·simp at hm
  have e:=uQ (P:=P) (k:=km) (code:=.slice3Acap) (y:=cap) (i:=M) (by omega) (by omega);have e1:=uQ (P:=P) (k:=kh) (code:=.slice3B) (y:=M.toNat) (i:=H) (by omega) (by omega);refine⟨M.toNat,by omega,by omega,by omega,fun h=>by simp at h,fun w=>?_⟩;rcases hL with⟨rfl,hL⟩|⟨zl,kl,rfl,hL⟩
  ·subst hL;simp[Instr.sliceBounds,Kao,hH,hM,e,e1]
  ·have e2:=uQ (P:=P) (k:=kl) (code:=.slice3C) (y:=H.toNat) (i:=L) h0 (by omega);simp[Instr.sliceBounds,Kao,hH,hM,hL,e,e1,e2]
theorem Cx{P:Program}{t e:TypeId}{n len cap l h m:Nat}{ad:Option Addr}{lo hi mx:Option Value}(hu:P.underlying t=some (.slice e))(hn:ep P e=some n)(w:World)
  (hb:(Instr.sliceBounds true len cap lo hi mx).run P w= .ok (l,h,m) w):
  (Instr.sliceAt t (.slice ad len cap) lo hi mx).run P w= .ok (.slice (if m=l then ad else ad.map (·.add (l*n))) (h-l) (m-l)) w:=by
 unfold Instr.sliceAt Instr.slice;simp only[Kao,iv hu,Kaj,hb,kS hn,Ka0]
theorem RL{xs:List PV}{H L i:Nat}{x:PV}(hx:((xs.take H).drop L)[i]? =some x):xs[L+i]? =some x/\L+i<H:=by
 rw[Ka9]at hx;have hi:L+i<H:=by have:=(Kad.1 hx).1;simp at this;omega
 rw[KaL hi]at hx;exact⟨hx,hi⟩
theorem Qu.part{X:Nat->Prop}{e:Nat}{xs:List PV}{ad:Option Addr}{cap L H m:Nat}(h:Qu w X (.sl e xs) (.slice ad xs.length cap))(h1:L<=H)(h2:H<=xs.length)(h3:H<=m)(h4:m<=cap):
  Qu w X (.sl e ((xs.take H).drop L)) (.slice (if m=L then ad else ad.map (·.add (L*e))) (H-L) (m-L)):=by
 by_cases he:H=L
 ·subst he;have:(xs.take H).drop H=[]:=List.drop_eq_nil_of_le (by simp;omega);rw[this,KbP];refine .gK _ _ _ ?_;cases h with
  |gK _ _ _ hc=>omega
  |sl _ _ b off _ vs hX hb hl hc=>omega
 ·have hlen:((xs.take H).drop L).length=H-L:=by simp;omega
  cases h with
  |gK=>simp at h2;omega
  | sl _ _ b off _ vs hX hb hl hc he' hv hr=>
   have hm:¬m=L:=by omega
   rw[if_neg hm];simp only[Kck,Kbz];have:=Qu.sl (w:=w) (X:=X) e ((xs.take H).drop L) b (off+L*e) (m-L) (fun i j=>vs (L+i) j) hX hb (by omega) (by omega)
    (fun i x hx=>he' _ x (RL hx).1)
    (fun i hi j hj=>by have:=hv (L+i) (by omega) j hj;rw[show off+L*e+i*e+j=off+(L+i)*e+j by rw[KaI];omega];exact this)
    (fun i x hx j y hy=>hr _ x (RL hx).1 j y hy)
   rwa[hlen]at this
theorem acK{o:Oper}{t e:TypeId}{n:Nat}{x:Operand}{px:PV}{lo hi mx:Option Operand}{FD BS BT:Option aP}{d:Nat}(ho:o.op= .slice t x lo hi mx)(hd:o.dst=some d)(ar:d<C.N)(h:aI C ρ fr hp a.tmps w)
  (hu:C.P.underlying t=some (.slice e)) (hn:ep C.P e=some n) (hx:Qt C ρ hp w px (a.eval x)) (oZ:nU lo=some FD) (uq:nU hi=some BS) (wh:nU mx=some BT)
  (hv:iI n px (FD.map (ev fr)) (BS.map (ev fr)) (BT.map (ev fr)) d fr hp K):bj C ρ o a w K:=by
 have lD:∀ {x:Option Operand} {y:Option aP},nU x=some y->(x.isSome=true↔y.isSome=true):=by
  intro x y BE;cases x with
  |none=>simp[nU]at BE;subst BE;simp
  |some z=>simp only[nU,Kaa]at BE;obtain⟨u,_,rfl⟩:=BE;simp
 have common:∀(an:HP)(xs:List PV)(len cap:Nat)(ad:Option Addr)(L H M:Int),aI C ρ fr an a.tmps w->len=xs.length->a.eval x= .slice ad len cap->len<=cap->
   Qu w (aH C ρ an) (.sl n xs) (.slice ad xs.length cap)->ix 0 (FD.map (ev fr))=some L->ix len (BS.map (ev fr))=some H->ix len (BT.map (ev fr))=some M->
   0<=L->L<=H->H<=M->M<=len->((BT.map (ev fr)).isSome=true->(BS.map (ev fr)).isSome=true)->K (af fr d (.sl n ((xs.take H.toNat).drop L.toNat))) an->bj C ρ o a w K:=by
  intro an xs len cap ad L H M hs hl ex dR hr bL bH bM h0 h1 h2 h3 hm hK;have e1:=te h oZ bL;have e2:=te h uq bH;have e3:=te h wh bM;obtain⟨m,q1,q2,q3,_,q4⟩:∃m,L.toNat<=m/\H.toNat<=m/\m<=cap/\(mx=none->m=cap)/\∀w',(Instr.sliceBounds true len cap (lo.map a.eval) (hi.map a.eval) (mx.map a.eval)).run C.P w'= .ok (L.toNat,H.toNat,m) w':=by
   refine CN (P:=C.P) a.eval ?_ ?_ ?_ (fun hq=>(lD uq).2 (by simpa using hm (by simpa using(lD wh).1 hq))) h0 h1 h2 h3 dR
   ·rcases e1 with⟨q1,_,q3⟩|⟨z,k,q1,q2,_⟩
    ·exact .inl ⟨q1,q3⟩
    ·exact .inr ⟨z,k,q1,q2⟩
   ·rcases e2 with⟨q1,_,q3⟩|⟨z,k,q1,q2,_⟩
    ·exact .inl ⟨q1,q3⟩
    ·exact .inr ⟨z,k,q1,q2⟩
   ·rcases e3 with⟨q1,_,q3⟩|⟨z,k,q1,q2,_⟩
    ·exact .inl ⟨q1,q3⟩
    ·exact .inr ⟨z,k,q1,q2⟩
  have hp:=hr.part (L:=L.toNat) (H:=H.toNat) (m:=m) (by omega) (by omega) q2 q3;refine⟨_,fun w'=>?_,af fr d _,an,by rw[hd];exact hs.af (Qt.lE (a9.qu hp)) ar,hK⟩;unfold execOp;simp only[ho,ex,Kao,Cx hu hn w' (q4 w'),Kaj];rfl
 unfold iI at hv;split at hv
 ·
  split at hv
  ·rename_i L H M bL bH bM;obtain⟨rfl,rfl,rfl,hm,hK⟩:=hv;have ex:=hx.wJ;refine bj.mk hd ar h (p:=.aa) (v:=.slice none 0 0) (fun w'=>?_) Qu.aa hK;have e1:=te h oZ bL;have e2:=te h uq bH;have e3:=te h wh bM;obtain⟨m,q1,q2,q3,_,q4⟩:∃m,(0:Int).toNat<=m/\(0:Int).toNat<=m/\m<=0/\(mx=none->m=0)/\∀w',(Instr.sliceBounds true 0 0 (lo.map a.eval) (hi.map a.eval) (mx.map a.eval)).run C.P w'= .ok ((0:Int).toNat,(0:Int).toNat,m) w':=by
    refine CN (P:=C.P) a.eval ?_ ?_ ?_ (fun hq=>(lD uq).2 (by simpa using hm (by simpa using(lD wh).1 hq))) (KcI _) (KcI _) (KcI _) (by simp) (Kac _)
    ·rcases e1 with⟨q1,_,q3⟩|⟨z,k,q1,q2,_⟩
     ·exact .inl ⟨q1,q3⟩
     ·exact .inr ⟨z,k,q1,q2⟩
    ·rcases e2 with⟨q1,_,q3⟩|⟨z,k,q1,q2,_⟩
     ·exact .inl ⟨q1,by simp⟩
     ·exact .inr ⟨z,k,q1,q2⟩
    ·rcases e3 with⟨q1,_,q3⟩|⟨z,k,q1,q2,_⟩
     ·exact .inl ⟨q1,by simp⟩
     ·exact .inr ⟨z,k,q1,q2⟩
   obtain rfl:m=0:=by omega
   unfold execOp;simp only[ho,ex,Kao,Cx hu hn w' (q4 w'),Kaj];rfl
  ·exact hv.elim
 ·rename_i e' xs;split at hv
  ·rename_i L H M bL bH bM;obtain⟨rfl,h0,h1,h2,h3,hm,hK⟩:=hv;obtain⟨ad,cap,ex,oT,iT⟩:=hx.Xe;have aT:Qu w (aH C ρ hp) (.sl e' xs) (a.eval x):=hx;rw[ex]at aT;exact common hp xs _ cap ad L H M h rfl ex oT aT bL bH bM h0 h1 h2 h3 hm hK
  ·exact hv.elim
 ·rename_i β o' m;cases BT with
  |some zm=>revert hv;split<;>simp_all
  |none=>
  split at hv
  ·rename_i L H bL bH bM;obtain⟨he,h0,h1,h2,h3,hK⟩:=hv;have m0:mx=none:=by cases mx<;>simp[nU]at wh⊢
   subst m0;have e1:=te h oZ bL;have e2:=te h uq bH;obtain⟨hb,g1,g2,g3⟩:=hx;rw[g1]at he;simp only[Kck,KaB]at he;have hL:(lo=none/\L=0)∨∃z k,lo=some z/\a.eval z= .int k L:=by
    rcases e1 with⟨q1,_,q3⟩|⟨z,k,q1,q2,_⟩
    ·exact .inl ⟨q1,q3⟩
    ·exact .inr ⟨z,k,q1,q2⟩
   have hH:(hi=none/\H=(m:Int))∨∃z k,hi=some z/\a.eval z= .int k H:=by
    rcases e2 with⟨q1,_,q3⟩|⟨z,k,q1,q2,_⟩
    ·exact .inl ⟨q1,q3⟩
    ·exact .inr ⟨z,k,q1,q2⟩
   rcases g3 with⟨g3,ex,rfl,rfl⟩|⟨b,cap,g3,ex,g5,g6⟩
   ·obtain⟨m',q1,q2,q3,_,q4⟩:=CN (P:=C.P) (len:=0) (cap:=0) (mx:=none) (M:=0) a.eval hL hH (.inl ⟨rfl,rfl⟩) (by simp) h0 h1 h2 (by simp) (Kac _);have hH0:H.toNat=0:=by omega
    have hL0:L.toNat=0:=by omega
    have jY:m'=0:=by omega
    refine bj.mk hd ar h (v:=.slice none 0 0) (fun w'=>?_) ?_ hK
    ·unfold execOp;simp only[ho,ex,Kao,Cx hu hn w' (q4 w'),Kaj];simp[hH0,jY,hL0]
    ·exact⟨hb,g1,by omega,.inl ⟨g3,rfl,by omega,by omega⟩⟩
   ·have dR:m<=cap:=by have bb:=(h.own β hb g1).dV;rw[g3]at bb;obtain⟨_,_,cur,eT,c1,c2,c3,c4,c5⟩:=bb;obtain⟨cur',ty',d1,d2⟩:=g5;rw[c1]at d1;cases d1;rw[c2]at d2;have:=KbB (h.own β hb g1).lV d2;omega
    obtain⟨m',q1,q2,q3,q5,q4⟩:=CN (P:=C.P) (len:=m) (cap:=cap) (mx:=none) (M:=(m:Int)) a.eval hL hH (.inl ⟨rfl,rfl⟩) (by simp) h0 h1 h2 (KcI _) dR;obtain rfl:=q5 rfl;refine bj.mk hd ar h (v:=.slice (some ⟨b,(o'+L.toNat)*hb.e,none⟩) (H.toNat-L.toNat) (m'-L.toNat)) (fun w'=>?_) ?_ hK
    ·unfold execOp;simp only[ho,ex,Kao,Cx hu hn w' (q4 w'),Kaj];congr 1;by_cases hz:L=0
     ·subst hz;simp[Addr.add_zero']
     ·rw[if_neg (by omega)];simp[Kbz,he,KaI]
    ·exact⟨hb,g1,by omega,.inr ⟨b,m'-L.toNat,g3,rfl,by rw[show o'+L.toNat+(m'-L.toNat)=o'+m' by omega];exact g5,by omega⟩⟩
  ·exact hv.elim
 ·exact hv.elim
end Go.FW
namespace Go.FW
open Go
variable {C : Ctx} {ρ : Nat -> Option Nat} {fr : Fr} {hp : HP} {w : World} {a : Act} {K : Qg}
def pJ(Q:PV->Value->Prop)(ps:List PV)(vs:Array Value):Prop:=vs.size=ps.length/\∀(i:Nat)(x:PV),ps[i]? =some x->Q x (vs.getD i undef)
abbrev Rows(w:World)(X:Nat->Prop)(ps:List PV)(vs:Array Value):Prop:=pJ (Qu w X) ps vs
theorem Ob(off:Nat):∀(l:List Value)(s:Nat)(cs:Array Value),
  ((l.zipIdx s).foldl (fun cs (p:Value×Nat)=>cs.setIfInBounds (off+p.2) p.1) cs).size=cs.size/\
  ∀k,k<cs.size->((l.zipIdx s).foldl (fun cs (p:Value×Nat)=>cs.setIfInBounds (off+p.2) p.1) cs).getD k undef=if off+s<=k/\k<off+s+l.length then l.getD (k-off-s) undef else cs.getD k undef
 | [],s,cs=>by refine⟨rfl,fun k hk=>?_⟩;simp only[List.zipIdx_nil,List.foldl_nil,Kbk,KaU];rw[if_neg (by omega)]
 | c::l,s,cs=>by
  obtain⟨h1,h2⟩:=Ob off l (s+1) (cs.setIfInBounds (off+s) c);simp only[List.zipIdx_cons,KcJ];refine⟨by rw[h1];simp,fun k hk=>?_⟩;rw[h2 k (by simpa using hk)];by_cases hks:k=off+s
  ·subst hks;rw[if_neg (by omega),if_pos (by simp)];simp[Array.getD,hk]
  ·by_cases hr:off+(s+1)<=k/\k<off+(s+1)+l.length
   ·rw[if_pos hr,if_pos (by simp;omega)];have:k-off-s=(k-off-(s+1))+1:=by omega
    rw[this];simp
   ·rw[if_neg hr,if_neg (by simp;omega)];simp only[KaZ];rw[Kct (by omega)]
theorem XT(cs:Array Value)(v:Array Value)(off:Nat):
  v.zipIdx.foldl (fun cs (x:Value×Nat)=>match x with|(c,j)=>cs.setIfInBounds (off+j) c) cs=(v.toList.zipIdx).foldl (fun cs (p:Value×Nat)=>cs.setIfInBounds (off+p.2) p.1) cs:=by
 rw[<-Array.foldl_toList,Array.toList_zipIdx]
theorem pJ.amf{Q:PV->Value->Prop}{ps qs:List PV}{vs us:Array Value}{off:Nat}(h:pJ Q ps vs)(hq:pJ Q qs us)(hle:off+qs.length<=ps.length):
  pJ Q (ps.take off++qs++ps.drop (off+qs.length)) (us.zipIdx.foldl (fun cs (x:Value×Nat)=>match x with|(c,j)=>cs.setIfInBounds (off+j) c) vs):=by
 obtain⟨h1,h2⟩:=h;obtain⟨q1,q2⟩:=hq;rw[XT];obtain⟨f1,f2⟩:=Ob off us.toList 0 vs;refine⟨by rw[f1,h1];simp;omega,fun i x hx=>?_⟩;have hi:i<ps.length:=by have:=(Kad.1 hx).1;simp at this;omega
 rw[f2 i (by omega)];simp only[KaU,Array.length_toList,Kcm];rw[KbK,Ka1]at hx;by_cases c1:i<off
 ·rw[if_neg (by omega)];rw[if_pos (by simp;omega),KaL c1]at hx;exact h2 i x hx
 ·rw[if_neg (by simp;omega)]at hx;have ht:(ps.take off).length=off:=by simp;omega
  rw[ht,Ka1]at hx;by_cases c2:i-off<qs.length
  ·rw[if_pos c2]at hx;rw[if_pos (by omega)];have:=q2 _ _ hx
   rwa[show us.toList.getD (i-off) undef=us.getD (i-off) undef by simp[KaZ]]
  ·rw[if_neg c2,Ka9]at hx;rw[if_neg (by omega)];rw[show off+qs.length+(i-off-qs.length)=i by omega]at hx;exact h2 i x hx
theorem CO{Q:PV->Value->Prop}(place:Nat->Option (Nat×Nat)):∀(parts:List (Nat×Value))(qs:List (Nat×List PV))(ps:List PV)(vs:Array Value),pJ Q ps vs->parts.length=qs.length->
  (∀(i:Nat)(p:Nat×Value)(q:Nat×List PV),parts[i]? =some p->qs[i]? =some q->place p.1=some (q.1,q.2.length)/\pJ Q q.2 p.2.cells/\q.1+q.2.length<=ps.length)->
  ∃et,Instr.fill place vs parts=some et/\pJ Q (ij ps qs) et
 | [],[],ps,vs,h,_,_=>⟨vs,rfl,h⟩
 | [],q::qs,_,_,_,hl,_=>by simp at hl
 |p::parts,[],_,_,_,hl,_=>by simp at hl
 | (i,v)::parts,(off,xs)::qs,ps,vs,h,hl,hp=>by
  obtain⟨h1,h2,h3⟩:=hp 0 (i,v) (off,xs) rfl rfl;have fR:v.cells.size=xs.length:=h2.1;have hn:¬((v.cells.size≠xs.length||decide (off+v.cells.size>vs.size))=true):=by have:=h.1;simp only[KbS,decide_eq_true_eq,not_or];exact⟨by simp[fR],by rw[fR,this];simp only at h3;omega⟩
  have hlen:(ps.take off++xs++ps.drop (off+xs.length)).length=ps.length:=by simp;simp only at h3;omega
  obtain⟨et,g1,g2⟩:=CO place parts qs _ _ (h.amf h2 h3) (by simpa using hl) (fun j p q Bs hqj=>by obtain⟨k1,k2,k3⟩:=hp (j+1) p q (by simpa using Bs) (by simpa using hqj);exact⟨k1,k2,by rw[hlen];exact k3⟩);refine⟨et,?_,g2⟩;unfold Instr.fill;simp only[h1];rw[if_neg hn];exact g1
theorem a9.rows{X:Nat->Prop}{p:PV}{v:Value}(h:a9 w X p v):Rows w X p.cells v.cells:=h.cells
theorem rS{P:Program}{t:TypeId}{n by_:Nat}{z:PV}(h:jR P t=some (n,by_,z)):∃(i:TypeInfo)(zv:Value),P.info? t=some i/\i.zero=some zv/\i.size=n/\i.bytes=by_/\rR zv=some z:=by simp only[jR,Kab,Kaa,KcO]at h;obtain⟨i,h1,zv,h2,p,h3,h4,h5,h6⟩:=h;subst h6;exact⟨i,zv,h1,h2,h4,h5,h3⟩
theorem uS{P:Program}{t:TypeId}{i:TypeInfo}{zv:Value}(h1:P.info? t=some i)(h2:i.zero=some zv)(w:World):(zeroValue t).run P w= .ok zv w:=by simp[zeroValue,typeInfo,h1,h2]
theorem TR{parts:List (Nat×Operand)}{ps:List (Nat×Nat×aP)}{f:Nat×Operand->Option (Nat×Nat×aP)}(h:parts.mapM f=some ps){eval:Operand->Value}{i:Nat}{p:Nat×Value}{q:Nat×Nat×aP}
  (h1:(parts.map fun x=>(x.1,eval x.2))[i]? =some p) (h2:ps[i]? =some q):∃x,parts[i]? =some x/\f x=some q/\p=(x.1,eval x.2):=by
 obtain⟨x,hx,hf⟩:=(oE h).2 i q h2;refine⟨x,hx,hf,?_⟩;simp only[Kax,hx,Kck,KaB]at h1;exact h1.symm
theorem Q9v{o:Oper}{t:TypeId}{parts:Array (Nat×Operand)}{z:PV}{n by_:Nat}{ps:List (Nat×Nat×aP)}{d:Nat}(ho:o.op= .build t parts)(hd:o.dst=some d)(ar:d<C.N)(h:aI C ρ fr hp a.tmps w)
  (hz:jR C.P t=some (n,by_,z)) (fZ:Ap C.P t parts.toList=some ps)
  (hv:Au z.cells (ps.map fun p=>(p.1,p.2.1,ev fr p.2.2)) d fr hp K):bj C ρ o a w K:=by
 obtain⟨cz,hK⟩:=hv;obtain⟨ti,zv,i1,i2,i3,i4,i5⟩:=rS hz;have M7:Rows w (aH C ρ (cf hp ((ps.map fun p=>(p.1,p.2.1,ev fr p.2.2)).flatMap fun p=>p.2.2.refs))) z.cells zv.cells:=(rG i5).rows;have qY:(parts.map fun(x:Nat×Operand)=>(x.1,a.eval x.2)).toList=parts.toList.map fun x=>(x.1,a.eval x.2):=by simp
 have key:∀(f:Nat×Operand->Option (Nat×Nat×aP))(place:Nat->Option (Nat×Nat)),parts.toList.mapM f=some ps->(∀x q,f x=some q->place x.1=some (q.1,q.2.1)/\b7 x.2=some q.2.2)->
   ∃et,Instr.fill place zv.cells (parts.map fun(x:Nat×Operand)=>(x.1,a.eval x.2)).toList=some et/\
    Rows w (aH C ρ (cf hp ((ps.map fun p=>(p.1,p.2.1,ev fr p.2.2)).flatMap fun p=>p.2.2.refs))) (ij z.cells ((ps.map fun p=>(p.1,p.2.1,ev fr p.2.2)).map fun p=>(p.1,(aK hp p.2.2).cells))) et:=by
  intro f place hm hf;rw[qY];refine CO place _ _ _ _ M7 (by simp[(oE hm).1]) (fun i p q yH ux=>?_);simp only[Kc8,Kax,Kaa]at ux;obtain⟨q0,iH,rfl⟩:=ux;obtain⟨x,hx,oX,rfl⟩:=TR hm yH iH;obtain⟨f1,f2⟩:=hf x q0 oX;obtain⟨o1,o2,o3⟩:=cz (q0.1,q0.2.1,ev fr q0.2.2) (KaE.2 ⟨q0,Kai iH,rfl⟩);simp only[Function.comp]at o1 o2 o3⊢;refine⟨by rw[o2];exact f1,?_,by rw[o2];exact o3⟩;exact(qF h (cG h f2) (fun β al=>Kaq.2 ⟨_,KaE.2 ⟨q0,Kai iH,rfl⟩,al⟩) o1).rows
 have fin:∀et,(∀w',(Instr.build t (parts.map fun(x:Nat×Operand)=>(x.1,a.eval x.2))).run C.P w'= .ok (.agg et) w')->
   Rows w (aH C ρ (cf hp ((ps.map fun p=>(p.1,p.2.1,ev fr p.2.2)).flatMap fun p=>p.2.2.refs))) (ij z.cells ((ps.map fun p=>(p.1,p.2.1,ev fr p.2.2)).map fun p=>(p.1,(aK hp p.2.2).cells))) et->bj C ρ o a w K:=by
  intro et bo hr;refine⟨.agg et,fun w'=>?_,_,_,by rw[hd];exact(h.freeze _).af (p:=.agg _) ⟨et,rfl,hr.1,hr.2⟩ ar,hK⟩;unfold execOp;simp only[ho,Kao];have:=bo w';rw[show(parts.map fun(x:Nat×Operand)=>(x.1,a.eval x.2))=(parts.map fun x=>match x with|(i,x)=>(i,a.eval x))from rfl]at this;rw[this];rfl
 unfold Ap at fZ;split at fZ
 ·rename_i fs hu;simp only[Kab]at fZ;obtain⟨pl,gH,hm⟩:=fZ;obtain⟨et,g1,g2⟩:=key _ (fun i=>pl[i]?) hm (fun x q hq=>by simp only[Kab,Kaa]at hq;obtain⟨r,hr,y,hy,rfl⟩:=hq;exact⟨by simpa using hr,hy⟩);refine fin et (fun w'=>?_) g2;unfold Instr.build;have iZ:=run_places (P:=C.P) w' fs.toList pl gH;simp[Kao,uS i1 i2,iv hu,Kb6,iZ]at g1⊢;simp[g1]
 ·rename_i len e hu;simp only[Kab]at fZ;obtain⟨m,jY,hm⟩:=fZ;obtain⟨et,g1,g2⟩:=key _ (fun i=>some (i*m,m)) hm (fun x q hq=>by simp only[Kaa]at hq;obtain⟨y,hy,rfl⟩:=hq;exact⟨rfl,hy⟩);refine fin et (fun w'=>?_) g2;unfold Instr.build;simp only[Kao,uS i1 i2,iv hu,kS jY,Kaj,g1,Ka0]
 ·simp at fZ
theorem HH{xs:List Operand}{ys:List aP}(h:aI C ρ fr hp a.tmps w)(hm:xs.mapM b7=some ys):(ys.map (ev fr)).length=xs.length/\∀(i:Nat)(x:PV),(ys.map (ev fr))[i]? =some x->Qt C ρ hp w x ((xs.map a.eval).toArray.getD i undef):=by
 obtain⟨h1,h2⟩:=oE hm;refine⟨by simp[h1],fun i x hx=>?_⟩;simp only[Kax,Kaa]at hx;obtain⟨y,hy,rfl⟩:=hx;obtain⟨z,hz,ho⟩:=h2 i y hy;have e:((xs.map a.eval).toArray.getD i undef)=a.eval z:=by simp[KaZ,Kax,hz]
 rw[e];exact cG h ho
theorem Qt.Xg{p:PV}{v:Value}(h:Qt C ρ hp w p v)(hc:p.kM=true):cW C ρ hp w p v:=by cases p<;>first|exact h|simp[PV.kM]at hc
theorem acL{o:Oper}{f:FuncId}{first cap:Array Operand}{pf pc:List aP}{d:Nat}(ho:o.op= .makeFunc (.func f) first cap)(hd:o.dst=some d)(ar:d<C.N)(h:aI C ρ fr hp a.tmps w)
  (h1:first.toList.mapM b7=some pf) (h2:cap.toList.mapM b7=some pc)
  (hv:(pf.map (ev fr)++pc.map (ev fr)).all PV.kM=true/\K (af fr d (.fn f (pf.map (ev fr)) (pc.map (ev fr)))) hp):bj C ρ o a w K:=by
 obtain⟨hc,hK⟩:=hv;rw[Kay]at hc;obtain⟨f1,f2⟩:=HH h h1;obtain⟨c1,c2⟩:=HH h h2;refine bj.mk hd ar h (v:=.func (.func f) (first.map a.eval) (cap.map a.eval)) (fun w'=>?_) ?_ hK
 ·unfold execOp;simp only[ho,Kao,Instr.makeFunc,Ka0,Kaj]
 ·refine⟨_,_,rfl,by simpa using f1.symm,by simpa using c1.symm,fun i x hx=>?_,fun i x hx=>?_⟩
  ·have:=f2 i x hx;rw[show(first.toList.map a.eval).toArray=first.map a.eval from Array.ext' (by simp)]at this;exact this.Xg (hc x (KcR _ (Kai hx)))
  ·have:=c2 i x hx;rw[show(cap.toList.map a.eval).toArray=cap.map a.eval from Array.ext' (by simp)]at this;exact this.Xg (hc x (KbG _ (Kai hx)))
theorem YZ{o:Oper}{x:Operand}{px:PV}(ho:o.op= .nilCheck x)(ar:∀d,o.dst=some d->d<C.N)(h:aI C ρ fr hp a.tmps w)
  (hx:Qt C ρ hp w px (a.eval x)) (hv:Av px o.dst fr hp K):bj C ρ o a w K:=by
 have key:(∃b o',a.eval x= .pointer (some ⟨b,o',none⟩))∨(∃f fv cv,a.eval x= .func (.func f) fv cv)->(∀d,o.dst=some d->K (af fr d px) hp)->(o.dst=none->K fr hp)->bj C ρ o a w K:=by
  intro hsh k1 k2;have bo:∀w',(execOp a.eval o).run C.P w'= .ok (.value (a.eval x)) w':=by intro w';unfold execOp;rcases hsh with⟨b,o',e⟩|⟨f,fv,cv,e⟩<;>simp only[ho,e]<;>rfl
  cases hd:o.dst with
  |some d=>exact⟨_,bo,_,_,by rw[hd];exact h.af hx (ar d hd),k1 d hd⟩
  |none=>exact⟨_,bo,fr,hp,by rw[hd];exact h,k2 hd⟩
 cases px with
 |mp β i o'=>obtain⟨b,hb,_,_,e⟩:=hx.yR;refine key (.inl ⟨_,_,e⟩) (fun d hd=>?_) (fun hd=>?_)<;>(rw[hd]at hv;exact hv)
 |pt cs=>obtain⟨b,off,e,_⟩:=hx.FE;refine key (.inl ⟨_,_,e⟩) (fun d hd=>?_) (fun hd=>?_)<;>(rw[hd]at hv;exact hv)
 |fn f first cap=>obtain⟨fv,cv,e,_⟩:=hx;refine key (.inr ⟨_,_,_,e⟩) (fun d hd=>?_) (fun hd=>?_)<;>(rw[hd]at hv;exact hv)
 |_=>exact hv.elim
end Go.FW
namespace Go.FW
open Go
variable {C : Ctx} {ρ : Nat -> Option Nat} {fr : Fr} {hp : HP} {w : World} {a : Act} {K : Qg}
def cP(C:Ctx)(two:Bool)(w:World)(K:Qg)(a':Act)(w':World):Prop:=
 a'.defers=[]/\(∃az an,fa C az an a'.tmps w'/\K az an)/\(two=true->Ext bS w w')
theorem jy{P:Program}{o:Oper}{v:Value}{w w':World}{a:Act}{K':Act->World->Prop}{Q:Exit->Act->World->Prop}(hr:(execOp a.eval o).run P w= .ok (.value v) w')(hK:K' (a.put o.dst v) w'):o.wp P a w K' Q:=by unfold Oper.wp;rw[hr];exact hK
theorem u6{a:Act}{d:Option Nat}{v:Value}:(a.put d v).defers=a.defers:=by cases d<;>rfl
theorem CA(w:World)(o:Obj)(k:Nat)(h:k<w.heap.size):(w.alloc o).heap[k]? =w.heap[k]? :=by show(w.heap.push o)[k]? =_;rw[Array.getElem?_push,if_neg (by omega)]
theorem my(w:World)(o:Obj):(w.alloc o).heap[w.heap.size]? =some o:=by show(w.heap.push o)[w.heap.size]? =_;simp
theorem CC(w:World)(o:Obj):(w.alloc o).heap.size=w.heap.size+1:=by show(w.heap.push o).size=_;simp
theorem Ext.alloc(w:World)(o:Obj)(Y:Nat->Prop):Ext Y w (w.alloc o):=⟨rfl,rfl,rfl,by rw[CC];omega,fun b hb _=>CA w o b hb⟩
theorem Ext.drew(w:World)(Y:Nat->Prop):Ext Y w w.drew:=⟨rfl,rfl,rfl,Kac _,fun _ _ _=>rfl⟩
theorem xX{d:Nat}(h:d<C.N):cd d=false:=by have:=C.hN;simp[cd];omega
theorem aI.wI{tmps:Array Value}{az:Fr}(h:aI C ρ fr hp tmps w)(d:Nat)(hB:bK d=false)(pW:xW C ρ hp w d fr az)(ax:HB)(cur:Array Value)(cap:Nat)(w':World)(hw:w'=w.alloc (.cells cur ax.ty)∨w'=w.drew.alloc (.cells cur ax.ty))
  (hs:cur.size=cap*ax.e) (hle:ax.xs.length<=cap) (hm:cap<=maxLen) (he:0<ax.e) (hl:∀(i:Nat)(x:PV),ax.xs[i]? =some x->x.cells.length=ax.e/\x.aE=true)
  (hc:∀(i:Nat)(x:PV),ax.xs[i]? =some x->∀(j:Nat)(y:PV),x.cells[j]? =some y->Qu w (aH C ρ hp) y (cur.getD (i*ax.e+j) undef)):
  aI C (rb ρ d (some w.heap.size)) az (Qy hp d ax) tmps w'/\Ext bS w w':=by
 have qZ:∀Y,Ext Y w w':=fun Y=>by
  rcases hw with rfl|rfl
  ·exact Ext.alloc w _ Y
  ·exact(Ext.drew w Y).trans (Ext.alloc w.drew _ Y)
 have fR:w'.heap.size=w.heap.size+1:=by rcases hw with rfl|rfl<;>rw[CC]<;>rfl
 have aoF:w'.heap[w.heap.size]? =some (.cells cur ax.ty (0,0)):=by
  rcases hw with rfl|rfl
  ·exact my w _
  ·exact my w.drew _
 refine⟨h.yW d (some w.heap.size) ax hB pW (qZ _) (fun c gC=>?_) he hl (by simp) (fun c gC=>?_),qZ _⟩
 ·cases gC;exact⟨.inl h.ext.size,by omega,.inl (Kac _)⟩
 ·cases gC;exact⟨cur,cap,aoF,hs,hle,hm,hc⟩
theorem aI.FB{tmps:Array Value}(h:aI C ρ fr hp tmps w)(d:Nat)(hB:cd d=false)(ax:HB)(cur:Array Value)(cap:Nat)(w':World)(hw:w'=w.alloc (.cells cur ax.ty)∨w'=w.drew.alloc (.cells cur ax.ty))
  (hs:cur.size=cap*ax.e) (hle:ax.xs.length<=cap) (hm:cap<=maxLen) (he:0<ax.e) (hl:∀(i:Nat)(x:PV),ax.xs[i]? =some x->x.cells.length=ax.e/\x.aE=true)
  (hc:∀(i:Nat)(x:PV),ax.xs[i]? =some x->∀(j:Nat)(y:PV),x.cells[j]? =some y->Qu w (aH C ρ hp) y (cur.getD (i*ax.e+j) undef)):
  aI C (rb ρ d (some w.heap.size)) (cK d fr) (Qy hp d ax) tmps w'/\Ext bS w w':=
 h.wI d (vu hB) (C7 hB) ax cur cap w' hw hs hle hm he hl hc
theorem lI:maxLen=9223372036854775807:=rfl
theorem cP.kQ{two:Bool}{o:Oper}{d:Nat}{v:Value}{p:PV}{w':World}{az:Fr}{an:HP}{bf:Nat->Option Nat}(hd:o.dst=some d)(ar:d<C.N)(aV:a.defers=[])
  (h:aI C bf az an a.tmps w') (hx:two=true->Ext bS w w') (hv:Qt C bf an w' p v) (hK:K (af az d p) an):cP C two w K (a.put o.dst v) w':=by
 refine⟨by rw[u6];exact aV,⟨_,an,⟨bf,?_⟩,hK⟩,hx⟩;rw[hd];exact h.af hv ar
theorem a9.Xa{X:Nat->Prop}{p:PV}{v:Value}{n:Nat}(h:a9 w X p v)(hn:p.cells.length=n):v.cells.size=1*n/\∀(i:Nat)(x:PV),[p][i]? =some x->∀(j:Nat)(y:PV),x.cells[j]? =some y->Qu w X y (v.cells.getD (i*n+j) undef):=by
 obtain⟨h1,h2⟩:=h.cells;refine⟨by omega,fun i x hx j y hy=>?_⟩
 match i,hx with
 |0,hx=>simp at hx;subst hx;simpa using h2 j y hy
 |i+1,hx=>simp at hx
theorem Rn{d n ty:Nat}{x:PV}{w':World}:Qt C (rb ρ d (some w.heap.size)) (Qy hp d ⟨n,ty,[x],false⟩) w' (.mp d 0 0) (.pointer (some ⟨w.heap.size,0,none⟩)):=by refine⟨w.heap.size,⟨n,ty,[x],false⟩,gM _ _ _,by simp[Qy],by simp⟩
theorem Q9w{o:Oper}{t:TypeId}{n:Nat}{x:Operand}{px:PV}{d:Nat}{Q:Exit->Act->World->Prop}(ho:o.op= .box t x)(hd:o.dst=some d)(ar:d<C.N)(aV:a.defers=[])(h:aI C ρ fr hp a.tmps w)
  (hx:Qt C ρ hp w px (a.eval x)) (hN:∀cs,px= .aU cs->tP n t cs d fr hp K->o.wp C.P a w (cP C true w K) Q) (hv:fU n t px d fr hp K):o.wp C.P a w (cP C true w K) Q:=by
 unfold fU at hv;split at hv
 ·exact hN _ rfl hv
 split at hv
 ·rename_i β o' m hm;have wq:px= .ay β o' m:=by
   cases px with
   |ay β2 o2 m2=>
    simp only at hm;split at hm
    ·cases hm;rfl
    ·cases hm
   |_=>cases hm
  subst wq;have hs:=h.grow (w':=w.alloc (.cells (a.eval x).cells t)) (Ext.alloc w _ _);have aT:eQ ρ hp (w.alloc (.cells (a.eval x).cells t)) β o' m (a.eval x):=eQ.move hx ⟨rfl,fun hb al=>⟨hb,al,rfl,Kac _,fun b cap _ hc=>mD (CA w _ b (mF hc)) hc⟩⟩;have oT:(a.eval x).cells= #[a.eval x]:=by obtain⟨ad,cap,e⟩:=Qt.Nc hx;rw[e];rfl
  refine jy (v:=.pointer (some ⟨w.heap.size,0,none⟩)) (w':=w.alloc (.cells (a.eval x).cells t)) ?_ (cP.kQ (p:=.rb β o' m) hd ar aV hs (fun _=>Ext.alloc w _ _) ⟨w.heap.size,a.eval x,rfl,by rw[CC];omega,?_,?_,aT⟩ hv)
  ·unfold execOp;simp only[ho,Instr.box,newVar,newRow];simp
  ·rintro(hq|⟨γ,hg,g1,_,g3⟩)
   ·have:=C.EI _ hq;have:=h.ext.size;omega
   ·have:=(h.own γ hg g1).dV;rw[g3]at this;have:=this.2.1;omega
  ·have:=my w (.cells (a.eval x).cells t);rw[lG this (by rw[oT];simp),oT];rfl
 obtain⟨h1,h2,h3,hK⟩:=hv;have hr:=qF h hx (fun β al=>al) h1;obtain⟨r1,r2⟩:=hr.Xa h2;obtain⟨hs,he⟩:=(h.freeze px.refs).FB d (xX ar) ⟨n,t,[aK hp px],false⟩ (a.eval x).cells 1 _ (.inl rfl) r1 (by simp) (by rw[lI];omega) h3
  (fun i y hy=>by
   match i,hy with
   |0,hy=>simp at hy;subst hy;exact⟨h2,h1⟩
   |i+1,hy=>simp at hy) r2
 refine jy (v:=.pointer (some ⟨w.heap.size,0,none⟩)) (w':=w.alloc (.cells (a.eval x).cells t)) ?_ (cP.kQ hd ar aV hs (fun _=>he) Rn hK);unfold execOp;simp only[ho,Instr.box,newVar,newRow];simp
theorem Yt{o:Oper}{t:TypeId}{n:Nat}{ti:TypeInfo}{zv:Value}{z:PV}{d:Nat}{Q:Exit->Act->World->Prop}(ho:o.op= .alloc t)(hd:o.dst=some d)(ar:d<C.N)(aV:a.defers=[])(h:aI C ρ fr hp a.tmps w)
  (i1:C.P.info? t=some ti) (i2:ti.zero=some zv) (hz:rR zv=some z) (hv:fU n t z d fr hp K):o.wp C.P a w (cP C true w K) Q:=by
 unfold fU at hv;split at hv
 ·exact absurd (Cv hz).1 (by simp[PV.aE])
 split at hv
 ·rename_i β o' m hm;have hd:=(Cv hz).1;cases z with
  |ay=>simp[PV.aE]at hd
  |_=>cases hm
 obtain⟨h1,h2,h3,hK⟩:=hv;have hr:=qF (C:=C) (ρ:=ρ) (hp:=hp) h (Qt.lE (rG (w:=w) hz)) (fun β al=>al) h1;obtain⟨r1,r2⟩:=hr.Xa h2;obtain⟨hs,he⟩:=(h.freeze z.refs).FB d (xX ar) ⟨n,t,[aK hp z],false⟩ zv.cells 1 _ (.inl rfl) r1 (by simp) (by rw[lI];omega) h3
  (fun i y hy=>by
   match i,hy with
   |0,hy=>simp at hy;subst hy;exact⟨h2,h1⟩
   |i+1,hy=>simp at hy) r2
 refine jy (v:=.pointer (some ⟨w.heap.size,0,none⟩)) (w':=w.alloc (.cells zv.cells t)) ?_ (cP.kQ hd ar aV hs (fun _=>he) Rn hK);unfold execOp;simp only[ho,Instr.alloc,Kao,uS i1 i2,Kaj,newVar,newRow];simp
theorem Oc{i e j:Nat}(hj:j<e):(i*e+j)%e=j:=by rw[KbQ,Nat.add_mul_mod_self_right,KaR hj]
theorem acM{i e j:Nat}(hj:j<e):(i*e+j)/e=i:=by rw[KbQ,Nat.add_mul_div_right _ _ (by omega),Kcc hj,Kbd]
theorem Qxw{z:Array Value}{n k:Nat}(hk:k<n)(hz:0<z.size):(madeCells z n).getD k undef=z.getD (k%z.size) undef:=by have h1:k%z.size<z.size:=Kbv _ hz;simp[madeCells,Array.getD,hk,h1]
theorem Ro{d:Nat}{hb:HB}{n cap:Nat}{w':World}{cur:Array Value}(hle:n<=hb.xs.length)(anj:w'.heap[w.heap.size]? =some (.cells cur hb.ty (0,0)))(hs:cur.size=cap*hb.e)(hm:cap<=maxLen):
  Qt C (rb ρ d (some w.heap.size)) (Qy hp d hb) w' (.ms d n) (.slice (some ⟨w.heap.size,0,none⟩) n cap):=
 ⟨hb,by simp[Qy],by omega,.inr ⟨w.heap.size,cap,gM _ _ _,by simp,⟨cur,hb.ty,anj,by rw[Kbd];exact hs⟩,by omega⟩⟩
theorem acN{o:Oper}{t e:TypeId}{n by_:Nat}{z:PV}{l c:Operand}{pl pc:PV}{d:Nat}{Q:Exit->Act->World->Prop}(ho:o.op= .makeSlice t l c)(hd:o.dst=some d)(ar:d<C.N)(aV:a.defers=[])(h:aI C ρ fr hp a.tmps w)
  (hu:C.P.underlying t=some (.slice e)) (hz:jR C.P e=some (n,by_,z)) (hl:Qt C ρ hp w pl (a.eval l)) (hc:Qt C ρ hp w pc (a.eval c)) (hv:nv n by_ e z pl pc d fr hp K):o.wp C.P a w (cP C true w K) Q:=by
 unfold nv at hv;split at hv
 ·rename_i kl L kc Cc;obtain⟨h0,h1,h2,h3,h4,h5,hK⟩:=hv;obtain⟨ti,zv,i1,i2,i3,i4,i5⟩:=rS hz;have el:=hl.kf;have ec:=hc.kf;have fQ:=(rG (w:=w) (X:=aH C ρ hp) i5).cells;have sR:zv.cells.size=n:=by rw[fQ.1];exact h1
  have bo:=run_make (P:=C.P) w t e ti zv hu i1 i2 kl kc L Cc h2 h3 (by rw[i4];exact h4) h5;rw[i3]at bo;obtain⟨hs,he⟩:=h.FB d (xX ar) ⟨n,e,List.replicate L.toNat z,false⟩ (madeCells zv.cells (Cc.toNat*n)) Cc.toNat _ (.inl rfl) (size_madeCells _ _) (by simp;omega) (by rw[lI];omega) h0
   (fun i x hx=>by have aT:=Kai hx;obtain rfl:=(KcY.1 aT).2;exact⟨h1,(Cv i5).1⟩)
   (fun i x hx j y hy=>by
    have hi:i<L.toNat:=by have:=(Kad.1 hx).1;simpa using this
    obtain rfl:=(KcY.1 (Kai hx)).2;have hj:j<n:=by have:=(Kad.1 hy).1;omega
    have we:i*n+0+j<Cc.toNat*n:=nO (by omega) (by omega:0+n<=n) hj;rw[Qxw (by omega) (by omega),sR,Oc hj];exact fQ.2 j y hy)
  refine jy (v:=.slice (some ⟨w.heap.size,0,none⟩) L.toNat Cc.toNat) ?_ (cP.kQ hd ar aV hs (fun _=>he) (Ro (by simp) (my w _) (size_madeCells _ _) (by rw[lI];omega)) hK);unfold execOp;simp only[ho,el,ec,Kao,bo,Kaj];rfl
 ·exact hv.elim
end Go.FW
namespace Go.FW
open Go
variable {C : Ctx} {ρ : Nat -> Option Nat} {fr : Fr} {hp : HP} {w : World} {a : Act} {K : Qg}
theorem SQ(n:Nat):∀(xs:List (List PV))(s:Nat)(pre rest:List PV),(∀x∈xs,x.length=n)->pre.length=s*n->rest.length=xs.length*n->
  ij (pre++rest) ((xs.zipIdx s).map fun p=>(p.2*n,p.1))=pre++xs.flatten
 | [],s,pre,rest,_,_,hr=>by simp at hr;subst hr;simp[ij]
 | x::xs,s,pre,rest,hx,hp,hr=>by
  have Fs:=hx x (by simp);simp only[List.zipIdx_cons,Kba,ij];have e1:(pre++rest).take (s*n)=pre:=by rw[<-hp];exact List.take_left
  have e2:(pre++rest).drop (s*n+x.length)=rest.drop n:=by rw[Fs,<-hp,<-List.drop_drop,List.drop_left]
  rw[e1,e2];have hlen:(pre++x).length=(s+1)*n:=by simp[hp,Fs,KaI]
  have wu:(rest.drop n).length=xs.length*n:=by simp[hr,KaI]
  rw[SQ n xs (s+1) (pre++x) (rest.drop n) (fun y hy=>hx y (by simp[hy])) hlen wu];simp
theorem Od{n:Nat}(hn:0<n):∀(xs:List (List PV))(i j:Nat)(x:List PV)(y:PV),(∀x∈xs,x.length=n)->xs[i]? =some x->x[j]? =some y->xs.flatten[i*n+j]? =some y
 | [],i,j,x,y,_,h,_=>by simp at h
 |z::xs,0,j,x,y,hl,h,hy=>by simp at h;subst h;have hj:j<z.length:=(Kad.1 hy).1;simp only[List.flatten_cons,KbH,Kbd];rw[Kb7 hj];exact hy
 |z::xs,i+1,j,x,y,hl,h,hy=>by simp at h;have hz:=hl z (by simp);simp only[List.flatten_cons];rw[Kcl (by rw[hz,KaI];omega)];rw[show(i+1)*n+j-z.length=i*n+j by rw[hz,KaI];omega];exact Od hn xs i j x y (fun q hq=>hl q (by simp[hq])) h hy
theorem XF{parts:List (Nat×Operand)}{len i:Nat}{p:Nat×Operand}(h:parts.map (·.1)=List.range len)(hp:parts[i]? =some p):p.1=i:=by
 have h1:(parts.map (·.1))[i]? =some p.1:=by simp[hp]
 rw[h]at h1;have hi:i<len:=by have:=(Kad.1 h1).1;simpa using this
 rw[KcW hi]at h1;simp at h1;exact h1.symm
theorem Q9x{X:Nat->Prop}{e:TypeId}{n N by_:Nat}{z:PV}{zv:Value}(i5:rR zv=some z)(hz:z.cells.length=n)(hn:0<n):
  Rows w X ((List.range N).map fun k=>z.cells.getD (k%n) .undef) ((Array.range N).map (zv.cells[· %zv.cells.size]!)):=by
 have fQ:=(rG (w:=w) (X:=X) i5).cells;refine⟨by simp,fun i x hx=>?_⟩;have hi:i<N:=by have:=(Kad.1 hx).1;simpa using this
 simp only[Kax,KcW hi,Kck,KaB]at hx;have hm:i%n<z.cells.length:=by rw[hz];exact Kbv _ hn
 have aT:z.cells[i%n]? =some x:=by rw[<-hx];simp[hm]
 have:=fQ.2 _ x aT;have hs:zv.cells.size=n:=by rw[fQ.1];exact hz
 have nh:i%n<zv.cells.size:=by omega
 have e2:((Array.range N).map (zv.cells[· %zv.cells.size]!)).getD i undef=zv.cells.getD (i%n) undef:=by have hmn:i%n<n:=Kbv _ hn;simp[Array.getD,hi,hs,hmn,getElem!_def,Kbh nh]
 rw[e2];exact this
theorem acj{o:Oper}{t e:TypeId}{len n by_:Nat}{z:PV}{parts:Array (Nat×Operand)}{ps:List aP}{d:Nat}{Q:Exit->Act->World->Prop}(ho:o.op= .buildSlice t len parts)(hd:o.dst=some d)(ar:d<C.N)(aV:a.defers=[])(h:aI C ρ fr hp a.tmps w)
  (hu:C.P.underlying t=some (.slice e)) (hz:jR C.P e=some (n,by_,z)) (qf:parts.toList.map (·.1)=List.range len) (Wv:len*n<=16777216) (ke:z.cells.length=n) (fZ:(parts.toList.mapM fun p=>b7 p.2)=some ps)
  (hv:Em n e (ps.map (ev fr)) d fr hp K):o.wp C.P a w (cP C true w K) Q:=by
 obtain⟨h0,cz,hK⟩:=hv;obtain⟨ti,zv,i1,i2,i3,i4,i5⟩:=rS hz;obtain⟨m1,m2⟩:=oE fZ;have hlen:parts.toList.length=len:=by have:=congrArg List.length qf;simpa using this
 have gH:ps.length=len:=by omega
 let xs:List (List PV):=(ps.map (ev fr)).map fun p=>(aK hp p).cells
 have eo:∀x∈xs,x.length=n:=by intro x hx;simp only[xs,KaE]at hx;obtain⟨p,⟨q,hq,rfl⟩,rfl⟩:=hx;exact(cz _ (KaE.2 ⟨q,hq,rfl⟩)).2
 have M5:xs.length=len:=by simp[xs,gH]
 have qY:(parts.map fun(x:Nat×Operand)=>(x.1,a.eval x.2)).toList=parts.toList.map fun x=>(x.1,a.eval x.2):=by simp
 have Mg:Rows w (aH C ρ (cf hp ((ps.map (ev fr)).flatMap PV.refs))) ((List.range (len*n)).map fun k=>z.cells.getD (k%n) .undef) ((Array.range (len*n)).map ((if len*n=0 then(#[]:Array Value)else zv.cells)[· %(if len*n=0 then(#[]:Array Value)else zv.cells).size]!)):=by
  by_cases iq:len*n=0
  ·rw[if_pos iq,iq];exact⟨by simp,by simp⟩
  ·rw[if_neg iq];exact Q9x (e:=e) (by_:=by_) i5 ke h0
 obtain⟨et,g1,g2⟩:=CO (fun i=>some (i*n,n)) (parts.toList.map fun x=>(x.1,a.eval x.2)) ((xs.zipIdx 0).map fun p=>(p.2*n,p.1)) _ _ Mg (by simp[M5,hlen]) (fun i p q yH ux=>by
  simp only[Kax,Kaa]at yH ux;obtain⟨x,hx,rfl⟩:=yH;obtain⟨q0,iH,rfl⟩:=ux;rw[List.getElem?_zipIdx]at iH;simp only[Kaa]at iH;obtain⟨y,hy,rfl⟩:=iH;simp only[Kbd];have WN:=eo y (Kai hy);simp only[xs,Kax,Kaa]at hy;obtain⟨pv,⟨u,jb,rfl⟩,rfl⟩:=hy;obtain⟨x',aT,wm⟩:=m2 i u jb;rw[hx]at aT;cases aT;have hi:i<len:=by have:=(Kad.1 hx).1;omega
  obtain⟨o1,o2⟩:=cz (ev fr u) (KaE.2 ⟨u,Kai jb,rfl⟩);refine⟨by rw[XF qf hx,WN],(qF h (cG h wm) (fun β al=>Kaq.2 ⟨_,KaE.2 ⟨u,Kai jb,rfl⟩,al⟩) o1).rows,?_⟩;rw[WN];simp;have:(i+1)*n<=len*n:=Kaf n hi;rw[KaI]at this;omega)
 have Mu:=SQ n xs 0 [] ((List.range (len*n)).map fun k=>z.cells.getD (k%n) .undef) eo (by simp) (by simp[M5]);simp only[KaM]at Mu;rw[Mu]at g2;have pV:xs.flatten.length=len*n:=by
  have:=g2.1;have hb:=Mg.1;have h2:ij ((List.range (len*n)).map fun k=>z.cells.getD (k%n) .undef) ((xs.zipIdx 0).map fun p=>(p.2*n,p.1))=xs.flatten:=Mu;rw[List.length_flatten];have:xs.map List.length=List.replicate xs.length n:=by apply KcU (by simp);intro i h1 h2;simp only[KcB,List.getElem_replicate];exact eo _ (Kag _)
  rw[this,List.sum_replicate_nat,M5]
 have gI:et.size=len*n:=by rw[g2.1,pV]
 obtain⟨hs,he⟩:=(h.freeze ((ps.map (ev fr)).flatMap PV.refs)).FB d (xX ar) ⟨n,e,(ps.map (ev fr)).map (aK hp),false⟩ et len _ (.inl rfl) gI (by simp[gH]) (by rw[lI];have:len*1<=len*n:=Ka7 len h0;omega) h0
  (fun i x hx=>by simp only[Kax,Kaa]at hx;obtain⟨p,⟨u,jb,rfl⟩,rfl⟩:=hx;obtain⟨o1,o2⟩:=cz (ev fr u) (KaE.2 ⟨u,Kai jb,rfl⟩);exact⟨o2,o1⟩)
  (fun i x hx j y hy=>by refine g2.2 _ y (Od h0 xs i j x.cells y eo ?_ hy);simp only[Kax,Kaa,xs]at hx⊢;obtain⟨p,iZ,rfl⟩:=hx;exact⟨p,iZ,rfl⟩)
 refine jy (v:=.slice (some ⟨w.heap.size,0,none⟩) len len) ?_ (cP.kQ hd ar aV hs (fun _=>he) ?_ hK)
 ·unfold execOp;have sM:¬(len*n>2^24):=by omega
  have Br:(parts.map fun x=>match x with|(i,x)=>(i,a.eval x)).toList=parts.toList.map fun x=>(x.1,a.eval x.2):=qY;simp only[ho,Instr.buildSlice,Kao,iv hu,Kaj,kS (show ep C.P e=some n by simp[ep,i1,i3]),if_neg sM,Br];by_cases iq:len*n=0
  ·simp only[if_pos iq]at g1⊢;simp only[Ka0,Kaj,Kao,g1,newRow];simp
  ·simp only[if_neg iq]at g1⊢;simp only[Ka0,Kaj,Kao,uS i1 i2,g1,newRow];simp
 ·rw[show(ps.map (ev fr)).length=len by simp[gH]];exact Ro (by simp[gH]) (my w _) gI (by rw[lI];have:len*1<=len*n:=Ka7 len h0;omega)
theorem zt(w:World)(b:Nat)(cur:Array Value):Ext (fun c=>c=b) w (w.setRow b cur):=
 ⟨rfl,rfl,rfl,by simp,fun k hk hn=>setRow_other w b k _ hn⟩
theorem zg{cur:Array Value}{p:Nat}{cs:List Value}{k:Nat}(hle:p+cs.length<=cur.size)(hk:k<cur.size):
  ((cur.toList.take p++cs++cur.toList.drop (p+cs.length)).toArray).getD k undef=if p<=k/\k<p+cs.length then cs.getD (k-p) undef else cur.getD k undef:=by
 have dY:k<cur.toList.length:=by simpa using hk
 have ht:(cur.toList.take p).length=p:=by simp;omega
 simp only[KaZ,List.getElem?_toArray,KbK,Kap];rw[Ka1,ht];by_cases c1:k<p
 ·rw[if_pos c1,if_neg (by omega),KaL c1];simp
 ·rw[if_neg c1,Ka1];by_cases c2:k-p<cs.length
  ·rw[if_pos c2,if_pos (by omega)]
  ·rw[if_neg c2,if_neg (by omega),Ka9];rw[show p+cs.length+(k-p-cs.length)=k by omega];simp
theorem zj{cur:Array Value}{p:Nat}{cs:List Value}(hle:p+cs.length<=cur.size):((cur.toList.take p++cs++cur.toList.drop (p+cs.length)).toArray).size=cur.size:=by simp;omega
theorem RM{P:Program}{t:TypeId}{n b off:Nat}{ty:TypeId}{v:Value}{cur:Array Value}(hn:ep P t=some n)(hs:v.cells.size=n)(hg:w.heap[b]? =some (.cells cur ty (0,0)))(hle:off+n<=cur.size)(h1:∀u∈v.cells.toList,u.oneCell'=true):
  (storeVar t ⟨b,off,none⟩ v).run P w= .ok () (w.setRow b (cur.toList.take off++v.cells.toList++cur.toList.drop (off+n)).toArray):=by
 unfold storeVar;have aG:=run_storeCells_at P b off ty v.cells.toList 0 cur w hg (by simp[hs];omega) h1;simp only[KaU,Array.length_toList,hs]at aG;have aO:¬(v.cells.size≠n):=by simp[hs]
 simp only[Kao,kS hn,Kaj,if_neg aO];exact aG
theorem ack{x:PV}{o:Nat}{v:PV}{j:Nat}(hl:o+v.cells.length<=x.cells.length)(hj:j<x.cells.length):
  (rC x o v).cells[j]? =if o<=j/\j<o+v.cells.length then v.cells[j-o]? else x.cells[j]? :=by
 show(x.cells.take o++v.cells++x.cells.drop (o+v.cells.length))[j]? =_;rw[KbK];have ht:(x.cells.take o).length=o:=by simp;omega
 rw[Ka1,ht];by_cases c1:j<o
 ·rw[if_pos c1,if_neg (by omega),KaL c1]
 ·rw[if_neg c1,Ka1];by_cases c2:j-o<v.cells.length
  ·rw[if_pos c2,if_pos (by omega)]
  ·rw[if_neg c2,if_neg (by omega),Ka9];rw[show o+v.cells.length+(j-o-v.cells.length)=j by omega]
theorem ag7{x:PV}{o:Nat}{v:PV}(hl:o+v.cells.length<=x.cells.length):(rC x o v).cells.length=x.cells.length:=by show(List.take o x.cells++v.cells++List.drop (o+v.cells.length) x.cells).length=_;simp;omega
theorem Oe{e i j m k n:Nat}(hj:j<e)(hk:k+n<=e)(aO:i≠m):¬(m*e+k<=i*e+j/\i*e+j<m*e+k+n):=by
 intro⟨h1,h2⟩;rcases Nat.lt_or_gt_of_ne aO with h|h
 ·have:(i+1)*e<=m*e:=Kaf e h;rw[KaI]at this;omega
 ·have:(m+1)*e<=i*e:=Kaf e h;rw[KaI]at this;omega
theorem Aa{l:List PV}{i k:Nat}{nx x:PV}(h:(l.set i nx)[k]? =some x):(i=k/\x=nx)∨(i≠k/\l[k]? =some x):=by
 by_cases rh:i=k
 ·subst rh;have hi:i<l.length:=by have:=(Kad.1 h).1;simpa using this
  rw[List.getElem?_set_self hi]at h;cases h;exact .inl ⟨rfl,rfl⟩
 ·rw[List.getElem?_set_ne rh]at h;exact .inr ⟨rh,h⟩
theorem cV.bl{p:PV}{v:Value}(h:cV C ρ hp w p v):p.bl=[p]:=by
 cases p with
 |agg=>cases h
 |aU=>cases h
 |_=>rfl
theorem SR{l:List PV}(h:∀c∈l,c.bl=[c]):(gQ l).bl=l:=by
 unfold gQ;split
 ·exact h _ (by simp)
 ·exact Yc _
theorem Pf{py:PV}{v:Value}{cs:List PV}(h:Qt C ρ hp w py v)(hs:fw py=some cs):v.cells.size=cs.length/\(∀(j:Nat)(y:PV),cs[j]? =some y->cV C ρ hp w y (v.cells.getD j undef))/\∀u∈v.cells.toList,u.oneCell'=true:=by
 have one:∀ {p:PV},cV C ρ hp w p v->p≠ .undef->cs=[p]->v.cells.size=cs.length/\(∀(j:Nat)(y:PV),cs[j]? =some y->cV C ρ hp w y (v.cells.getD j undef))/\∀u∈v.cells.toList,u.oneCell'=true:=by
  rintro p hr hu rfl;obtain⟨h1,h2⟩:=hr.rA hu;rw[h2];refine⟨rfl,fun j y hy=>?_,fun u jb=>?_⟩
  ·match j,hy with
   |0,hy=>simp at hy;subst hy;exact hr
   |j+1,hy=>simp at hy
  ·simp at jb;subst jb;exact h1
 cases py with
 | aU cs'=>
  simp only[fw]at hs;split at hs
  ·rename_i cw;simp only[KaB]at hs;subst hs;obtain⟨vs,rfl,h1,h2⟩:=h;refine⟨h1,h2,fun u hu=>?_⟩;obtain⟨j,hj,rfl⟩:=Kbe hu;have fO:j<vs.size:=by simpa[Value.cells]using hj
   have hp:j<cs'.length:=by omega
   have h3:=h2 j cs'[j] (Kam hp);have h4:=Kay.1 cw cs'[j] (Kag hp);have:=(h3.rA (fun e=>by rw[e]at h4;cases h4)).1;simpa[Array.getD,fO,Value.cells]using this
  ·cases hs
 |aM γ o n=>simp only[fw,KaB]at hs;exact one (p:=.aM γ o n) h (by simp) hs.symm
 |ay β o n=>
  simp only[fw]at hs;split at hs
  ·rename_i hB;simp only[KaB]at hs;exact one (p:=.ay β o n) ⟨hB,h⟩ (by simp) hs.symm
  ·cases hs
 |int k n=>simp only[fw,KaB]at hs;exact one (p:=.int k n) h (by simp) hs.symm
 |bool b=>simp only[fw,KaB]at hs;exact one (p:=.bool b) h (by simp) hs.symm
 |aa=>simp only[fw,KaB]at hs;exact one (p:=.aa) h (by simp) hs.symm
 |sl e xs=>simp only[fw,KaB]at hs;exact one (p:=.sl e xs) h (by simp) hs.symm
 |pt cs'=>simp only[fw,KaB]at hs;exact one (p:=.pt cs') h (by simp) hs.symm
 |agg cs'=>simp only[fw,KaB]at hs;subst hs;have hr:a9 w (aH C ρ hp) (.agg cs') v:=h;obtain⟨h1,h2⟩:=hr.cells;exact⟨h1,fun j y hy=>cV.WY (h2 j y hy),hr.W5⟩
 |_=>cases hs
theorem aI.Ng{tmps:Array Value}{w':World}(h:aI C ρ fr hp tmps w){γ b e ty:Nat}{hb:HB}{xs':List PV}{cur':Array Value}{cap:Nat}(hB:cd γ=true)(he:0<e)(ak:hp γ=some hb)(l5:hb.fz=false)(bw:hb.xs=[])(Mt:hb.e=e)(ht:hb.ty=ty)(bB:ρ γ=some b)
  (hx:Ext (fun c=>c=b) w w') (dR:∀e cap,dt w b e cap->dt w' b e cap) (h1:w'.heap[b]? =some (.cells cur' ty (0,0))) (h2:cur'.size=cap*e) (h3:xs'.length<=cap) (h4:cap<=maxLen)
  (h5:∀(i:Nat)(x:PV),xs'[i]? =some x->x.bl.length=e) (h6:∀(i:Nat)(x:PV),xs'[i]? =some x->∀(j:Nat)(y:PV),x.bl[j]? =some y->cV C ρ hp w y (cur'.getD (i*e+j) undef)):
  aI C ρ (FW.af (iM γ fr) γ (.aN γ e ty xs')) hp tmps w':=by
 have EL:aH C ρ hp b:=.inr ⟨γ,hb,ak,l5,bB⟩;have Fh:jc γ=false:=by
  cases hq:jc γ with
  |false=>rfl
  |true=>have:=(h.own γ hb ak).ro hq;rw[l5]at this;cases this
 have gC:nX w w' (aH C ρ hp) (aH C ρ hp):=⟨fun c hc hn=>hx.block c hc (fun e=>hn (e▸EL)),fun _ _ hn=>hn,hx.size⟩
 have bm:=(h.own γ hb ak).dV;rw[bB]at bm;have qZ:Ext C.Y0 C.w0 w':=by refine h.ext.trans' (Y':=fun c=>c=b) hx ?_;intro c hc he;subst he;exact(Ctx.LK bm.1 Fh).resolve_left (by omega)
 have Bh:∀β c,C.fx β=some c->∀e cap,dt C.w0 c e cap->dt w' c e cap:=fun b0 c gC e cap gj=>by
  have lW:=h.gY b0 c gC e cap gj;by_cases iF:c=b
  ·rw[iF]at lW ⊢;exact dR e cap lW
  ·exact mD (hx.block c (mF lW) iF) lW
 have oz:∀β hg c,β≠γ->hp β=some hg->ρ β=some c->¬c=b:=fun β hg c aO gF hr e=>aO (h.inj β γ b (by simp[gF]) (by simp[ak]) (e▸hr) bB);have c0:∀β,xV ρ ρ hp hp w w' β:=fun β=>⟨rfl,fun hg gF=>⟨hg,gF,rfl,Kac _,fun c cap hr gj=>by
  by_cases aO:β=γ
  ·subst aO;rw[bB]at hr;cases hr;exact dR _ _ gj
  ·exact mD (hx.block c (mF gj) (oz β hg c aO gF hr)) gj⟩⟩
 refine⟨h.sz,qZ,Bh,fun β hg al=>?_,h.inj,fun i=>?_⟩
 ·obtain⟨p1,p2,p3,p4,p5⟩:=h.own β hg al;refine⟨p1,p2,?_,p4,p5⟩;by_cases aO:β=γ
  ·subst aO;rw[ak]at al;cases al;rw[bB]at p3⊢;exact⟨p3.1,KaN p3.2.1 hx.size,cur',cap,by rw[h1,ht],by rw[Mt];exact h2,by rw[bw];simp,h4,by rw[bw];simp⟩
  ·cases hr:ρ β with
   |none=>rw[hr]at p3;exact p3
   |some c=>rw[hr]at p3;exact⟨p3.1,KaN p3.2.1 hx.size,p3.2.2.move (hx.block c p3.2.1 (oz β hg c aO al hr)) rfl rfl rfl gC.rc⟩
 ·unfold FW.af;split
  ·exact⟨hB,he,b,hb,cur',cap,bB,ak,bw,Mt,ht,h1,h2,h3,h4,h5,fun i x hi j y hy=>(h6 i x hi j y hy).move gC (fun β _=>c0 β)⟩
  ·have cJ:=h.eZ i;unfold iM;generalize fr i=p at cJ;have mv:(∀bE e ty xs,p= .aN bE e ty xs->bE≠γ)->Qt C ρ hp w' p (tmps.getD i undef):=fun hq=>
    cJ.move gC (fun β _=>⟨(c0 β).r,(c0 β).h⟩) (fun β _=>c0 β) (fun bE e ty xs e1=>⟨rfl,fun hg gF=>by have aO:=hq bE e ty xs e1;refine⟨hg,gF,rfl,Kac _,fun c cap hr gj=>mD (hx.block c (mF gj) (oz bE hg c aO gF hr)) gj,fun he=>⟨he,rfl,fun c hr=>hx.block c ?_ (oz bE hg c aO gF hr)⟩⟩;have:=(h.own bE hg gF).dV;rw[hr]at this;exact this.2.1⟩)
   cases p with
   |aN bE e' ty' xs=>
    simp only[jf];split
    ·trivial
    ·rename_i aO;exact mv (fun _ _ _ _ e1=>by cases e1;exact aO)
   |_=>exact mv (fun _ _ _ _ e1=>by cases e1)
theorem Of{l cs:List PV}{o j:Nat}(hl:o+cs.length<=l.length)(hj:j<l.length):(pN l o cs)[j]? =if o<=j/\j<o+cs.length then cs[j-o]? else l[j]? :=by
 unfold pN;rw[KbK];have ht:(l.take o).length=o:=by simp;omega
 rw[Ka1,ht];by_cases c1:j<o
 ·rw[if_pos c1,if_neg (by omega),KaL c1]
 ·rw[if_neg c1,Ka1];by_cases c2:j-o<cs.length
  ·rw[if_pos c2,if_pos (by omega)]
  ·rw[if_neg c2,if_neg (by omega),Ka9];rw[show o+cs.length+(j-o-cs.length)=j by omega]
theorem HI{l cs:List PV}{o:Nat}(hl:o+cs.length<=l.length):(pN l o cs).length=l.length:=by unfold pN;simp;omega
theorem acm {o:Oper} {t:TypeId} {n:Nat} {x y:Operand} {px py:PV} {Q:Exit->Act->World->Prop} (ho:o.op= .store t x y) (hd:o.dst=none) (aV:a.defers=[]) (h:aI C ρ fr hp a.tmps w)
  (hn:ep C.P t=some n) (hx:Qt C ρ hp w px (a.eval x)) (hy:Qt C ρ hp w py (a.eval y)) (hv:o9 n px py fr hp K):o.wp C.P a w (cP C false w K) Q:=by
 unfold o9 at hv;split at hv
 ·rename_i β i o';split at hv
  ·rename_i hb al;obtain⟨h1,h2,h3,h4,h5,hK⟩:=hv;obtain⟨b,mZ,g1,g2,ex⟩:=hx.yR;obtain⟨oS,g3,e1,e2,e3,e4,_⟩:=Cy (l:=py.refs) g2;rw[al]at g3;cases g3;have Vt:=e4 h1;subst Vt;have hf:=h.freeze py.refs;have hr:=qF h hy (fun β al=>al) h2;have yL:=hr.cells;have bm:=hf.own β hb al;have bb:=bm.dV;rw[g1]at bb;obtain⟨b1,b2,cur,cap,c1,c2,c3,c4,c5⟩:=bb;have gJ:=Kam h4;have ff:=(bm.len i _ gJ).1;have gI:(a.eval y).cells.size=n:=by rw[yL.1,h3]
   have m9:i*hb.e+o'+n<=cur.size:=by rw[c2];have:(i+1)*hb.e<=cap*hb.e:=Kaf _ (by omega);rw[KaI]at this;omega
   have bo:=RM (P:=C.P) (w:=w) (off:=i*hb.e+o') hn gI c1 m9 hr.W5;have kd:(a.eval y).cells.toList.length=n:=by simp[gI]
   have gr:∀k,k<cur.size->((cur.toList.take (i*hb.e+o')++(a.eval y).cells.toList++cur.toList.drop (i*hb.e+o'+n)).toArray).getD k undef=if i*hb.e+o'<=k/\k<i*hb.e+o'+n then(a.eval y).cells.getD (k-(i*hb.e+o')) undef else cur.getD k undef:=by intro k hk;have:=zg (cur:=cur) (p:=i*hb.e+o') (cs:=(a.eval y).cells.toList) (k:=k) (by omega) hk;rw[kd]at this;rw[this];simp[KaZ,Kap]
   have kI:((cur.toList.take (i*hb.e+o')++(a.eval y).cells.toList++cur.toList.drop (i*hb.e+o'+n)).toArray).size=cur.size:=by
    have:=zj (cur:=cur) (p:=i*hb.e+o') (cs:=(a.eval y).cells.toList) (by omega)
    rwa[kd]at this
   have nj:(if n=hb.e then aK hp py else rC (hb.xs[i]'h4) o' (aK hp py)).cells.length=hb.e/\(if n=hb.e then aK hp py else rC (hb.xs[i]'h4) o' (aK hp py)).aE=true:=by
    by_cases hc:n=hb.e
    ·rw[if_pos hc];exact⟨by omega,h2⟩
    ·rw[if_neg hc];exact⟨by rw[ag7 (by omega)];exact ff,rfl⟩
   obtain⟨nx,Fi⟩:∃nx,nx=(if n=hb.e then aK hp py else rC (hb.xs[i]'h4) o' (aK hp py)):=⟨_,rfl⟩
   rw[<-Fi]at hK nj;have aG:=hf.store β b hb { hb with xs:=hb.xs.set i nx } al h1 (by intro e;rw[e]at h4;simp at h4) g1 (zt w b _) rfl (by simp) h1
    (fun k x hk=>by
     rcases Aa hk with⟨_,rfl⟩|⟨_,hk⟩
     ·exact nj
     ·exact bm.len k x hk)
    (fun e' eT dR=>by obtain⟨cur',ty',d1,d2⟩:=dR;rw[c1]at d1;cases d1;exact⟨_,_,setRow_heap w b cur _ hb.ty _ c1,by rw[kI];exact d2⟩)
    ⟨_, cap,setRow_heap w b cur _ hb.ty _ c1,by rw[kI];exact c2,by simpa using c3,c4,fun k x hk j z hz=>by
     have wb:k<hb.xs.length:=by have:=(Kad.1 hk).1;simpa using this
     have eo:x.cells.length=hb.e:=by
      rcases Aa hk with⟨_,rfl⟩|⟨_,hk⟩
      ·exact nj.1
      ·exact(bm.len k x hk).1
     have hj:j<hb.e:=by have:=(Kad.1 hz).1;omega
     have ar:k*hb.e+0+j<cap*hb.e:=nO (by omega) (by omega:0+hb.e<=hb.e) hj;show Qu w _ z (Array.getD _ (k*hb.e+j) undef);rw[gr _ (by omega)];rcases Aa hk with⟨wa,Fs⟩|⟨wa,hk⟩
     ·subst wa;subst Fs;by_cases hc:n=hb.e
      ·rw[Fi,if_pos hc]at hz;have ho0:o'=0:=by omega
       subst ho0;rw[if_pos (by omega)];rw[show i*hb.e+j-(i*hb.e+0)=j by omega];exact yL.2 j z hz
      ·rw[Fi,if_neg hc]at hz;rw[ack (by omega) (by omega),h3]at hz;by_cases VK:o'<=j/\j<o'+n
       ·rw[if_pos VK]at hz;rw[if_pos (by omega)];rw[show i*hb.e+j-(i*hb.e+o')=j-o' by omega];exact yL.2 _ z hz
       ·rw[if_neg VK]at hz;rw[if_neg (by omega)];exact c5 i _ gJ j z hz
     ·rw[if_neg (Oe hj (by omega) (fun e=>wa e.symm))];exact c5 k x hk j z hz⟩
   unfold Oper.wp;have hex:(execOp a.eval o).run C.P w= .ok .skip (w.setRow b (cur.toList.take (i*hb.e+o')++(a.eval y).cells.toList++cur.toList.drop (i*hb.e+o'+n)).toArray):=by unfold execOp;simp only[ho,ex,Kao,Instr.storeAt,Instr.sureAddr,Ka0,Kaj,bo]
   rw[hex];refine⟨by rw[u6];exact aV,⟨fr,_,⟨ρ,?_⟩,hK⟩,by simp⟩;rw[hd];exact aG
  ·exact hv.elim
 ·rename_i γ i o';split at hv
  ·rename_i bE e ty xs ak;obtain⟨rfl,⟨hb,k1,k2⟩,h1,h2,hv⟩:=hv;split at hv
   ·rename_i cs jH;obtain⟨h3,hK⟩:=hv;obtain⟨r1,r2,r3⟩:=Pf hy jH;obtain⟨hB,b,ax,g1,g2,ex⟩:=hx.Nh;rw[k1]at g2;cases g2;have cJ:=h.eZ bE;rw[ak]at cJ;obtain⟨_,v7,b',ax,cur,cap,q1,q2,q3,q4,q5,q6,q7,q8,q9,BV,iu⟩:=cJ;rw[g1]at q1;cases q1;rw[k1]at q2;cases q2;rw[q4]at ex;have gJ:=Kam h1;have ff:=BV i _ gJ;have gI:(a.eval y).cells.size=n:=by rw[r1,h3]
    have m9:i*e+o'+n<=cur.size:=by rw[q7];have:(i+1)*e<=cap*e:=Kaf _ (by omega);rw[KaI]at this;omega
    have bo:=RM (P:=C.P) (w:=w) (off:=i*e+o') hn gI q6 m9 r3;have kd:(a.eval y).cells.toList.length=n:=by simp[gI]
    have gr:∀k,k<cur.size->((cur.toList.take (i*e+o')++(a.eval y).cells.toList++cur.toList.drop (i*e+o'+n)).toArray).getD k undef=if i*e+o'<=k/\k<i*e+o'+n then(a.eval y).cells.getD (k-(i*e+o')) undef else cur.getD k undef:=by intro k hk;have:=zg (cur:=cur) (p:=i*e+o') (cs:=(a.eval y).cells.toList) (k:=k) (by omega) hk;rw[kd]at this;rw[this];simp[KaZ,Kap]
    have kI:((cur.toList.take (i*e+o')++(a.eval y).cells.toList++cur.toList.drop (i*e+o'+n)).toArray).size=cur.size:=by
     have:=zj (cur:=cur) (p:=i*e+o') (cs:=(a.eval y).cells.toList) (by omega)
     rwa[kd]at this
    generalize(cur.toList.take (i*e+o')++(a.eval y).cells.toList++cur.toList.drop (i*e+o'+n)).toArray=W at bo gr kI;have Bw:o'+cs.length<=(xs[i]).bl.length:=by rw[ff,h3];exact h2
    have pT:∀c∈pN (xs[i]).bl o' cs,c.bl=[c]:=by
     intro c hc;obtain⟨j,hj⟩:=KaG hc;have pZ:j<(xs[i]).bl.length:=by have:=(Kad.1 hj).1;rwa[HI Bw]at this
     rw[Of Bw pZ]at hj;split at hj
     ·exact(r2 _ c hj).bl
     ·exact(iu i _ gJ j c hj).bl
    have gE:=SR pT;have aG:=h.Ng (w':=w.setRow b W) (xs':=xs.set i (gQ (pN (xs[i]).bl o' cs))) (cur':=W) (cap:=cap) hB v7 k1 k2 q3 q4 q5 g1 (zt w b W)
     (fun e2 AI hcp=>by obtain⟨apZ,oC,d1,d2⟩:=hcp;rw[q6]at d1;cases d1;exact⟨_,_,setRow_heap w b cur _ ty _ q6,by rw[kI];exact d2⟩)
     (setRow_heap w b cur W ty _ q6) (by rw[kI];exact q7) (by simpa using q8) q9
     (fun k x hk=>by
      rcases Aa hk with⟨_,rfl⟩|⟨_,hk⟩
      ·rw[gE,HI Bw];exact ff
      ·exact BV k x hk)
     (fun k x hk j y' jK=>by
      rcases Aa hk with⟨rfl,rfl⟩|⟨aO,hk⟩
      ·rw[gE]at jK;have pZ:j<(xs[i]).bl.length:=by have:=(Kad.1 jK).1;rwa[HI Bw]at this
       have EY:j<e:=by omega
       have we:i*e+0+j<cap*e:=nO (n:=e) (by omega) (by omega) EY;rw[Of Bw pZ]at jK;rw[gr _ (by omega)];split at jK
       ·rename_i hr;rw[if_pos (by omega),show i*e+j-(i*e+o')=j-o' by omega];exact r2 _ y' jK
       ·rename_i hr;rw[if_neg (by omega)];exact iu i _ gJ j y' jK
      ·have wb:k<xs.length:=(Kad.1 hk).1;have EY:j<e:=by have:=(Kad.1 jK).1;have:=BV k x hk;omega
       have we:k*e+0+j<cap*e:=nO (n:=e) (by omega) (by omega) EY;rw[gr _ (by omega),if_neg (Oe EY h2 (fun e=>aO e.symm))];exact iu k x hk j y' jK)
    unfold Oper.wp;have hex:(execOp a.eval o).run C.P w= .ok .skip (w.setRow b W):=by unfold execOp;simp only[ho,ex,Kao,Instr.storeAt,Instr.sureAddr,Ka0,Kaj,bo]
    rw[hex];refine⟨by rw[u6];exact aV,⟨_,hp,⟨ρ,?_⟩,hK⟩,by simp⟩;rw[hd];exact aG
   ·exact hv.elim
  ·exact hv.elim
 ·exact hv.elim
end Go.FW
namespace Go.FW
open Go
variable {C : Ctx} {ρ : Nat -> Option Nat} {fr : Fr} {hp : HP} {w : World} {a : Act} {K : Qg}
theorem XU{X:Nat->Prop}{x:PV}{e:Nat}{f:Nat->Value}(he:x.cells.length=e)(h0:0<e)(hr:∀(j:Nat)(y:PV),x.cells[j]? =some y->Qu w X y (f j)):x.aE=true:=by
 by_cases ha:∃cs,x= .agg cs
 ·obtain⟨cs,rfl⟩:=ha;rfl
 ·have hc:x.cells=[x]:=by
   cases x with
   |agg cs=>exact absurd ⟨cs,rfl⟩ ha
   |_=>rfl
  have:=hr 0 x (by rw[hc];rfl);exact a9.data (a9.qu this)
theorem Hg{e:Nat}{px:PV}{v:Value}{ys:List PV}{e':Nat}(h:aI C ρ fr hp a.tmps w)(hx:Qt C ρ hp w px v)(hs:jA hp px=some (e',ys))(h0:0<e)(m7:e'=e∨ys=[]):
  ∃ad cap,v= .slice ad ys.length cap/\(ys≠[]->∃(b off:Nat)(f:Nat->Value),ad=some ⟨b,off,none⟩/\(∀k,k<ys.length*e->w.cell? ⟨b,off+k,none⟩=some (f k))/\
   ∀(i:Nat)(y:PV),ys[i]? =some y->y.cells.length=e/\y.aE=true/\∀(j:Nat)(z:PV),y.cells[j]? =some z->Qu w (aH C ρ hp) z (f (i*e+j))):=by
 cases px with
 |aa=>simp[jA]at hs;obtain⟨rfl,rfl⟩:=hs;exact⟨none,0,hx.wJ,fun hn=>absurd rfl hn⟩
 | sl e2 xs=>
  simp[jA]at hs;obtain⟨rfl,rfl⟩:=hs;have aT:Qu w (aH C ρ hp) (.sl e2 xs) v:=hx;cases aT with
  |gK _ ad cap hc=>exact⟨ad,cap,rfl,fun hn=>absurd rfl hn⟩
  | sl _ _ b off cap vs hX hb hl hc he hv hr=>
   refine⟨_,cap,rfl,fun hn=>?_⟩;obtain rfl:e2=e:=m7.resolve_right hn;refine⟨b,off,fun k=>vs (k/e2) (k%e2),rfl,fun k hk=>?_,fun i y hy=>?_⟩
   ·have h1:k/e2<xs.length:=(Kbn h0).2 hk;have h2:=Kbv k h0;have:=hv _ h1 _ h2;rw[Kcg,KaS,Kbr]at this;exact this
   ·have ff:=he i y hy;refine⟨ff,XU ff h0 (hr i y hy),fun j z hz=>?_⟩;have hj:j<e2:=by have:=(Kad.1 hz).1;omega
    show Qu w _ z (vs ((i*e2+j)/e2) ((i*e2+j)%e2));rw[acM hj,Oc hj];exact hr i y hy j z hz
 | ay β o n=>
  simp only[jA,Kaa,KcO]at hs;obtain⟨hb,al,Mt,rfl⟩:=hs;obtain⟨fb,g1,g2,g3⟩:=hx;rw[al]at g1;cases g1;have hlen:((hb.xs.drop o).take n).length=n:=by simp;omega
  rcases g3 with⟨g3,rfl,rfl,rfl⟩|⟨b,cap,g3,rfl,g5,g6⟩
  ·exact⟨none,0,by simp,fun hn=>absurd (by simp) hn⟩
  ·refine⟨_,cap,by rw[hlen],fun hn=>?_⟩;have bm:=h.own β hb al;have bb:=bm.dV;rw[g3]at bb;obtain⟨_,ar,cur,eT,c1,c2,c3,c4,c5⟩:=bb;have VE:hb.e=e:=by
    rcases m7 with m7|m7
    ·omega
    ·exact absurd m7 hn
   refine⟨b,o*hb.e,fun k=>cur.getD (o*hb.e+k) undef,rfl,fun k hk=>?_,fun i y hy=>?_⟩
   ·rw[hlen]at hk;have:(o+n)*e<=eT*e:=Kaf e (by omega);rw[KaI]at this;exact lG c1 (by rw[c2,VE];omega)
   ·have hi:i<n:=by have:=(Kad.1 hy).1;omega
    rw[KaL hi,Ka9]at hy;obtain⟨l1,l2⟩:=bm.len _ y hy;refine⟨by omega,l2,fun j z hz=>?_⟩;have:=c5 _ y hy j z hz;rw[KaI,Kcg]at this
    rwa[VE]at this⊢
 |_=>simp[jA]at hs
theorem RC{P:Program}{t ty e:TypeId}{i:TypeInfo}(ht:P.underlying t=some (.slice e))(hi:P.info? e=some i){base ad:Option Addr}{n cap c:Nat}(hle:n<=cap)(w:World):
  (Builtin.append_ #[t,t] ty #[.slice base n cap,.slice ad 0 c]).run P w= .ok (.slice base n cap) w:=by
 cases ad<;>cases base<;>simp[Builtin.append_,run_underlying ht,sizeOf,typeInfo,hi,Builtin.lenOf,Builtin.firstCells,hle,storeCells,loadCells,loadCellsFrom]
theorem sY{P:Program}{o:Oper}{s x:Operand}{t:TypeId}(ho:o.op= .call { callee:=.builtin .append,args:= #[s,x],argTypes:= #[t,t] }){vs vx v:Value}{w w':World}(es:a.eval s=vs)(ex:a.eval x=vx)
  (hr:(Builtin.append_ #[t,t] o.type #[vs,vx]).run P w= .ok v w'):(execOp a.eval o).run P w= .ok (.value v) w':=by
 unfold execOp;simp only[ho,resolve,Kao,Ka0,Kaj,invoke,builtin];simp[es,ex,hr]
def fT(f:Nat->Value)(n:Nat):List Value:=(List.range n).map f
theorem wS(f:Nat->Value)(n:Nat):(fT f n).length=n:=by simp[fT]
theorem zu{f:Nat->Value}{n j:Nat}{u:Value}(h:(fT f n)[j]? =some u):j<n/\u=f j:=by
 have hj:j<n:=by have:=(Kad.1 h).1;simpa[fT]using this
 simp only[fT,Kax,KcW hj,Kck,KaB]at h;exact⟨hj,h.symm⟩
theorem CE{f:Nat->Value}{n j:Nat}(h:j<n):(fT f n).getD j undef=f j:=by simp[fT,Kap,h]
theorem uW(l:List Value)(k:Nat):l.toArray.getD k undef=l.getD k undef:=by simp[KaZ,Kap]
theorem kT(xs ys:Array Value)(k:Nat):(xs++ys).getD k undef=if k<xs.size then xs.getD k undef else ys.getD (k-xs.size) undef:=by simp only[KaZ,Array.getElem?_append];split<;>rfl
theorem vf{n m e i j:Nat}(h0:i<m)(hj:j<e):i*e+j<m*e/\(n+i)*e+j=n*e+(i*e+j):=by
 constructor
 ·have:(i+1)*e<=m*e:=Kaf e h0;rw[KaI]at this;omega
 ·rw[KaI];omega
theorem rI{β:Nat}{p:PV}{v:Value}(h:cV C ρ hp w p v):cV C ρ hp w (iz β p) v/\∀γ∈(iz β p).dT,γ≠β:=by
 cases p with
 | ay dA o n=>
  simp only[iz];split
  ·exact⟨trivial,fun γ ak=>by cases ak⟩
  ·rename_i aO;exact⟨h,fun γ ak=>by simp[PV.dT]at ak;subst ak;exact aO⟩
 | aM bE o n=>
  simp only[iz];split
  ·exact⟨trivial,fun γ ak=>by cases ak⟩
  ·rename_i aO;exact⟨h,fun γ ak=>by simp[PV.dT]at ak;subst ak;exact aO⟩
 |np=>cases h
 |_=>exact⟨h,fun γ ak=>by cases ak⟩
theorem pB{l:List PV}{f:PV->PV}{i:Nat}{y:PV}(h:(l.map f)[i]? =some y):∃x,l[i]? =some x/\y=f x:=by simp only[Kax,Kaa]at h;obtain⟨x,h1,h2⟩:=h;exact⟨x,h1,h2.symm⟩
theorem xd{β:Nat}:xW C ρ hp w β fr (fK β fr):=by
 intro i v h;unfold fK;generalize fr i=p at h;have kill:de β p=bZ β p->(∀γ∈p.bT,γ≠β)->Qt C ρ hp w (de β p) v/\(∀γ∈(de β p).refs,γ≠β)/\∀γ∈(de β p).bT,γ≠β:=fun e hs=>by
  rw[e];refine⟨Qt.kill h,fun γ ak=>(SO γ ak).1,fun γ ak=>?_⟩;unfold bZ at ak;split at ak
  ·cases ak
  ·exact hs γ ak
 cases p with
 | aN γ e ty xs=>
  simp only[de];split
  ·exact⟨trivial,fun γ ak=>(by cases ak),fun γ ak=>by cases ak⟩
  ·rename_i aO;obtain⟨h0,he,b,hb,cur,cap,h1,h2,h3,h4,h5,h6,h7,h8,h9,bI,ct⟩:=h;have pT:∀(i:Nat)(x:PV),xs[i]? =some x->(gQ (x.bl.map (iz β))).bl=x.bl.map (iz β):=fun i x hi=>SR fun c hc=>by obtain⟨d,hd,rfl⟩:=KaE.1 hc;obtain⟨j,hj⟩:=KaG hd;exact(rI (ct i x hi j d hj)).1.bl
   refine⟨⟨h0,he,b,hb,cur,cap,h1,h2,h3,h4,h5,h6,h7,by simpa using h8,h9,fun i x hi=>?_,fun i x hi j y hy=>?_⟩,fun γ ak=>(by cases ak),fun bE ak=>?_⟩
   ·obtain⟨x0,bw,rfl⟩:=pB hi;rw[pT i x0 bw,KaT];exact bI i x0 bw
   ·obtain⟨x0,bw,rfl⟩:=pB hi;rw[pT i x0 bw]at hy;obtain⟨y0,cX,rfl⟩:=pB hy;exact(rI (ct i x0 bw j y0 cX)).1
   ·rcases KaQ.1 ak with rfl|ak
    ·exact aO
    ·obtain⟨x,hx,ak⟩:=Kaq.1 ak;obtain⟨y,hy,ak⟩:=Kaq.1 ak;obtain⟨i,hi⟩:=KaG hx;obtain⟨x0,bw,rfl⟩:=pB hi;rw[pT i x0 bw]at hy;obtain⟨j,hj⟩:=KaG hy;obtain⟨y0,cX,rfl⟩:=pB hj;exact(rI (ct i x0 bw j y0 cX)).2 bE ak
 | aU cs=>
  obtain⟨vs,rfl,h1,h2⟩:=h;refine⟨⟨vs,rfl,by simpa using h1,fun i x hi=>?_⟩,fun γ ak=>(by cases ak),fun γ ak=>?_⟩
  ·obtain⟨x0,bw,rfl⟩:=pB hi;exact(rI (h2 i x0 bw)).1
  ·obtain⟨x,hx,ak⟩:=Kaq.1 ak;obtain⟨i,hi⟩:=KaG hx;obtain⟨x0,bw,rfl⟩:=pB hi;exact(rI (h2 i x0 bw)).2 γ ak
 | eX cs=>
  obtain⟨vs,rfl,h1,h2⟩:=h;refine⟨⟨vs,rfl,by simpa using h1,fun i x hi=>?_⟩,fun γ ak=>(by cases ak),fun γ ak=>?_⟩
  ·obtain⟨x0,bw,rfl⟩:=pB hi;exact(rI (h2 i x0 bw)).1
  ·obtain⟨x,hx,ak⟩:=Kaq.1 ak;obtain⟨i,hi⟩:=KaG hx;obtain⟨x0,bw,rfl⟩:=pB hi;exact(rI (h2 i x0 bw)).2 γ ak
 | eY cs q=>
  obtain⟨vs,u,rfl,h1,h2,h3⟩:=h;refine⟨⟨vs,u,rfl,by simpa using h1,fun i x hi=>?_,h3⟩,fun γ ak=>(by cases ak),fun γ ak=>?_⟩
  ·obtain⟨x0,bw,rfl⟩:=pB hi;exact(rI (h2 i x0 bw)).1
  ·obtain⟨x,hx,ak⟩:=Kaq.1 ak;obtain⟨i,hi⟩:=KaG hx;obtain⟨x0,bw,rfl⟩:=pB hi;exact(rI (h2 i x0 bw)).2 γ ak
 |aM γ o n=>
  simp only[de];split
  ·exact⟨trivial,fun γ ak=>(by cases ak),fun γ ak=>by cases ak⟩
  ·rename_i aO;exact⟨h,fun γ ak=>(by cases ak),fun bE ak=>by simp[PV.bT]at ak;subst ak;exact aO⟩
 |np γ o n=>
  simp only[de];split
  ·exact⟨trivial,fun γ ak=>(by cases ak),fun γ ak=>by cases ak⟩
  ·rename_i aO;exact⟨h,fun γ ak=>(by cases ak),fun bE ak=>by simp[PV.bT]at ak;subst ak;exact aO⟩
 | fn f first cap=>
  by_cases hc:(first.flatMap PV.eD++cap.flatMap PV.eD).contains β=true
  ·simp only[de,hc,if_true];exact⟨trivial,fun γ ak=>(by cases ak),fun γ ak=>by cases ak⟩
  ·exact kill (by simp only[de,hc];rfl) (fun γ ak e=>hc (by subst e;exact List.contains_iff_mem.2 ak))
 |_=>exact kill rfl (fun γ ak=>by cases ak)
end Go.FW
namespace Go.FW
open Go
variable {C : Ctx} {ρ : Nat -> Option Nat} {fr : Fr} {hp : HP} {w : World} {a : Act} {K : Qg}
theorem Pg{o:Oper}{s x:Operand}{t e:TypeId}{n by_:Nat}{z:PV}{px:PV}{ys:List PV}{e' d:Nat}{β:Nat}{az:Fr}{Q:Exit->Act->World->Prop}
  (ho:o.op= .call { callee:=.builtin .append,args:= #[s,x],argTypes:= #[t,t] }) (hd:o.dst=some d) (ar:d<C.N) (aV:a.defers=[]) (h:aI C ρ fr hp a.tmps w)
  (hu:C.P.underlying t=some (.slice e)) (hz:jR C.P e=some (n,by_,z)) (hx:Qt C ρ hp w px (a.eval x)) (o4:jA hp px=some (e',ys)) (h0:0<n) (ke:z.cells.length=n) (m7:e'=n∨ys=[])
  (es:a.eval s= .slice none 0 0) (hb:ys.length*by_<=140737488355328) (hm:ys.length<=9223372036854775807)
  (pW:xW C ρ hp w β fr az) (hB:bK β=false)
  (hK:K (af az d (.ms β ys.length)) (Qy hp β ⟨n,e,ys,false⟩)):o.wp C.P a w (cP C false w K) Q:=by
 obtain⟨ti,zv,i1,i2,i3,i4,i5⟩:=rS hz;obtain⟨ad,cap,ex,Ba⟩:=Hg h hx o4 h0 m7;by_cases ql:ys=[]
 ·subst ql;have bo:=RC (P:=C.P) (ty:=o.type) (ad:=ad) (c:=cap) hu i1 (base:=none) (n:=0) (cap:=0) (Kac 0) w;have hs:=h.yW (w':=w) β none ⟨n,e,[],false⟩ hB pW (Ext.refl _ _) (by simp) h0 (by simp) (by simp) (by simp);refine jy (sY ho es ex bo) (cP.kQ hd ar aV hs (by simp) ?_ hK);exact⟨⟨n,e,[],false⟩,by simp[Qy],by simp,.inl ⟨gM _ _ _,rfl,rfl,rfl⟩⟩
 ·obtain⟨b,off,f,rfl,hf,gE⟩:=Ba ql;have iq:0<ys.length:=Kbf.2 ql;have bo:=run_append_nil (P:=C.P) w t o.type e ti zv hu i1 i2 ⟨b,off,none⟩ ys.length cap (fT f (ys.length*n)) (by rw[wS,i3])
   (fun j v hj=>by obtain⟨fO,rfl⟩:=zu hj;rw[Kbz];exact hf j fO) iq (by omega) (by rw[i4];omega)
  have fX:=grownCap_ge w ys.length 0 e;have gV:=grownCap_le_maxLen w ys.length 0 e (by rw[lI];exact hm);generalize grownCap w ys.length 0 e=G at bo fX gV;have sR:zv.cells.size=n:=by have:=(rG (w:=w) (X:=aH C ρ hp) i5).cells.1;omega
  obtain⟨hs,qZ⟩:=h.wI β hB pW ⟨n,e,ys,false⟩ ((fT f (ys.length*n)).toArray++Builtin.zeroCells zv.cells (G-ys.length)) G _ (.inr rfl)
   (by simp[wS,size_zeroCells,sR,<-Nat.add_mul];congr 1;omega) fX gV h0 (fun i y hy=>⟨(gE i y hy).1,(gE i y hy).2.1⟩)
   (fun i y hy j z hz=>by
    have hi:i<ys.length:=(Kad.1 hy).1;have hj:j<n:=by have:=(Kad.1 hz).1;have:=(gE i y hy).1;omega
    obtain⟨q1,_⟩:=vf (n:=0) hi hj;show Qu w _ z (Array.getD _ (i*n+j) undef);rw[kT,if_pos (by simpa[wS]using q1)];have:=(gE i y hy).2.2 j z hz;rw[uW,CE q1];exact this)
  refine jy (sY ho es ex bo) (cP.kQ hd ar aV hs (by simp) ?_ hK);exact⟨⟨n,e,ys,false⟩,by simp[Qy],by simp,.inr ⟨w.heap.size,G,gM _ _ _,by simp,⟨_,e,my w.drew _,by simp[wS,size_zeroCells,sR,<-Nat.add_mul];congr 1;omega⟩,by omega⟩⟩
theorem Ph{o:Oper}{s x:Operand}{t e:TypeId}{n by_:Nat}{z:PV}{px:PV}{ys:List PV}{e' d:Nat}{β m:Nat}{hb:HB}{az:Fr}{Q:Exit->Act->World->Prop}
  (ho:o.op= .call { callee:=.builtin .append,args:= #[s,x],argTypes:= #[t,t] }) (hd:o.dst=some d) (ar:d<C.N) (aV:a.defers=[]) (h:aI C ρ fr hp a.tmps w)
  (hu:C.P.underlying t=some (.slice e)) (hz:jR C.P e=some (n,by_,z)) (hx:Qt C ρ hp w px (a.eval x)) (o4:jA hp px=some (e',ys)) (h0:0<n) (ke:z.cells.length=n) (m7:e'=n∨ys=[])
  (hs:Qt C ρ hp w (.ms β m) (a.eval s)) (pW:xW C ρ hp w β fr az) (hB:bK β=false) (al:hp β=some hb) (l5:hb.fz=false) (AW:hb.e=n) (iS:hb.ty=e) (ov:m<=hb.xs.length)
  (Ml:(m+ys.length)*by_<=140737488355328) (Bn:m+ys.length<=9223372036854775807)
  (hK:K (af az d (.ms β (m+ys.length))) (Qy hp β ⟨n,e,hb.xs.take m++ys,false⟩)):o.wp C.P a w (cP C false w K) Q:=by
 obtain⟨fb,g1,g2,g3⟩:=hs;rw[al]at g1;cases g1;have qj:(hb.xs.take m).length=m:=by simp;omega
 rw[Kbd]at g2;rcases g3 with⟨g3,es,rfl,_⟩|⟨b,cap,g3,es,g5,g6⟩
 ·simp only[Kbd,Kb5,KaM]at hK Ml Bn;exact Pg ho hd ar aV h hu hz hx o4 h0 ke m7 es Ml Bn pW hB hK
 rw[KbH]at es;rw[Kbd]at g5 g6;obtain⟨ti,zv,i1,i2,i3,i4,i5⟩:=rS hz;obtain⟨ad,BX,ex,Ba⟩:=Hg h hx o4 h0 m7;have bm:=h.own β hb al;have bb:=bm.dV;rw[g3]at bb;obtain⟨b1,b2,cur,eT,c1,c2,c3,c4,c5⟩:=bb;replace b1:=Ctx.Eo b1 hB;obtain⟨cur',ty',d1,d2⟩:=g5;rw[c1]at d1;cases d1;obtain rfl:eT=cap:=KbB bm.lV (by omega);subst iS;subst AW;have Be:aH C ρ hp b:=.inr ⟨β,hb,al,l5,g3⟩;have yD:∀(i:Nat)(x:PV),(hb.xs.take m++ys)[i]? =some x->(i<m/\hb.xs[i]? =some x)∨(m<=i/\ys[i-m]? =some x):=by
  intro i x aT;rw[Ka1,qj]at aT;by_cases hi:i<m
  ·rw[if_pos hi,KaL hi]at aT;exact .inl ⟨hi,aT⟩
  ·rw[if_neg hi]at aT;exact .inr ⟨by omega,aT⟩
 by_cases ql:ys=[]
 ·subst ql;have bo:=RC (P:=C.P) (ty:=o.type) (ad:=ad) (c:=BX) hu i1 (base:=some ⟨b,0,none⟩) (n:=m) (cap:=eT) (by omega) w;have hr:=h.yW (w':=w) β (some b) ⟨hb.e,hb.ty,hb.xs.take m++[],false⟩ hB pW (Ext.refl _ _) (fun c hc=>by cases hc;exact⟨b1,b2,.inr ⟨g3,hb,al,l5⟩⟩) bm.lV
   (fun i x aT=>by
    rcases yD i x aT with⟨_,hq⟩|⟨_,hq⟩
    ·exact bm.len i x hq
    ·simp at hq) (by simp)
   (fun c hc=>by
    cases hc;refine⟨cur,eT,c1,c2,by simp;omega,c4,fun i x aT j y hy=>?_⟩;rcases yD i x aT with⟨_,hq⟩|⟨_,hq⟩
    ·exact c5 i x hq j y hy
    ·simp at hq)
  refine jy (sY ho es ex bo) (cP.kQ hd ar aV hr (by simp) ?_ hK);exact⟨⟨hb.e,hb.ty,hb.xs.take m++[],false⟩,by simp[Qy],by simp;omega,.inr ⟨b,eT,gM _ _ _,by simp,⟨cur,hb.ty,c1,by rw[Kbd];exact c2⟩,by omega⟩⟩
 obtain⟨sb,off,f,rfl,hf,gE⟩:=Ba ql;have iq:0<ys.length:=Kbf.2 ql;have yF:∀(j:Nat)(v:Value),(fT f (ys.length*hb.e))[j]? =some v->w.cell? ((⟨sb,off,none⟩:Addr).add j)=some v:=fun j v hj=>by obtain⟨fO,rfl⟩:=zu hj;rw[Kbz];exact hf j fO
 have jJ:∀u∈fT f (ys.length*hb.e),u.oneCell'=true:=by
  intro u jb;obtain⟨k,hk⟩:=KaG jb;obtain⟨dY,rfl⟩:=zu hk;have hi:k/hb.e<ys.length:=(Kbn h0).2 dY;have hj:=Kbv k h0;obtain⟨l1,l2,l3⟩:=gE _ _ (Kam hi);have pZ:k%hb.e<(ys[k/hb.e]'hi).cells.length:=by omega
  have:=l3 _ _ (Kam pZ);rw[KaS,Kbr]at this;exact this.rA.1
 have l9:=wS f (ys.length*hb.e);have hmc:m*hb.e+(fT f (ys.length*hb.e)).length=(m+ys.length)*hb.e:=by rw[l9,KaI]
 by_cases yJ:m+ys.length<=eT
 ·have oW:m*hb.e+(fT f (ys.length*hb.e)).length<=cur.size:=by rw[hmc,c2];exact Kaf _ yJ
  have bo:=run_append_room (P:=C.P) w t o.type hb.ty ti hu i1 b m eT cur c1 ⟨sb,off,none⟩ ys.length BX (fT f (ys.length*hb.e)) (by rw[l9,i3]) yF jJ yJ (by rw[i3];exact oW);rw[i3]at bo;have kI:=zj (cur:=cur) (p:=m*hb.e) (cs:=fT f (ys.length*hb.e)) oW;have gr:=fun k hk=>zg (cur:=cur) (p:=m*hb.e) (cs:=fT f (ys.length*hb.e)) (k:=k) oW hk;generalize hW:(cur.toList.take (m*hb.e)++fT f (ys.length*hb.e)++cur.toList.drop (m*hb.e+(fT f (ys.length*hb.e)).length)).toArray=W at bo kI gr;have hr:=h.yW (w':=w.setRow b W) β (some b) ⟨hb.e,hb.ty,hb.xs.take m++ys,false⟩ hB pW ((zt w b W).mono (fun i _ hi=>⟨hi▸g3,hb,al,l5⟩))
   (fun c hc=>by cases hc;exact⟨b1,by simpa using b2,.inr ⟨g3,hb,al,l5⟩⟩) bm.lV
   (fun i x aT=>by
    rcases yD i x aT with⟨_,hq⟩|⟨_,hq⟩
    ·exact bm.len i x hq
    ·exact⟨(gE _ x hq).1,(gE _ x hq).2.1⟩) (by simp)
   (fun c hc=>by
    cases hc;refine⟨W,eT,setRow_heap w b cur W hb.ty _ c1,by rw[kI];exact c2,by simp;omega,c4,fun i x aT j y hy=>?_⟩;show Qu w _ y (Array.getD W (i*hb.e+j) undef);rcases yD i x aT with⟨hi,hq⟩|⟨hi,hq⟩
    ·have hj:j<hb.e:=by have:=(Kad.1 hy).1;have:=(bm.len i x hq).1;omega
     have q1:=(vf (n:=0) hi hj).1;have q2:m*hb.e<=eT*hb.e:=Kaf _ (by omega);rw[gr _ (by omega),if_neg (by omega)];exact c5 i x hq j y hy
    ·have iG:i-m<ys.length:=(Kad.1 hq).1;have hj:j<hb.e:=by have:=(Kad.1 hy).1;have:=(gE _ x hq).1;omega
     obtain⟨q1,q2⟩:=vf (n:=m) iG hj;rw[show m+(i-m)=i by omega]at q2;rw[gr _ (by omega),if_pos (by omega),q2,show m*hb.e+((i-m)*hb.e+j)-m*hb.e=(i-m)*hb.e+j by omega,CE q1];exact(gE _ x hq).2.2 j y hy)
  refine jy (sY ho es ex bo) (cP.kQ hd ar aV hr (by simp) ?_ hK);exact⟨⟨hb.e,hb.ty,hb.xs.take m++ys,false⟩,by simp[Qy],by simp;omega,.inr ⟨b,eT,gM _ _ _,by simp,⟨W,hb.ty,setRow_heap w b cur W hb.ty _ c1,by rw[kI,Kbd];exact c2⟩,by omega⟩⟩
 ·have aqw:m*hb.e<=cur.size:=by rw[c2];exact Kaf _ (by omega)
  have fE:(cur.toList.take (m*hb.e)).length=m*hb.e:=by simp;omega
  have holds:∀(j:Nat)(v:Value),(cur.toList.take (m*hb.e))[j]? =some v->w.cell? ((⟨b,0,none⟩:Addr).add j)=some v:=fun j v hj=>by
   have fO:j<m*hb.e:=by have:=(Kad.1 hj).1;omega
   rw[KaL fO]at hj;rw[Kbz,Kbd,lG c1 (by omega),Cz cur j v hj]
  have bo:=run_append_grow (P:=C.P) w t o.type hb.ty ti zv hu i1 i2 ⟨b,0,none⟩ m eT (cur.toList.take (m*hb.e)) (by rw[fE,i3]) holds ⟨sb,off,none⟩ ys.length BX (fT f (ys.length*hb.e)) (by rw[l9,i3]) yF
   (by omega) (by omega) (growslice_fits (by omega) (by rw[i4];exact Ml))
  have fX:=grownCap_ge w (m+ys.length) eT hb.ty;have gV:=grownCap_le_maxLen w (m+ys.length) eT hb.ty (by rw[lI];exact Bn);generalize grownCap w (m+ys.length) eT hb.ty=G at bo fX gV;have sR:zv.cells.size=hb.e:=by have:=(rG (w:=w) (X:=aH C ρ hp) i5).cells.1;omega
  have jH:((cur.toList.take (m*hb.e)).toArray++(fT f (ys.length*hb.e)).toArray++Builtin.zeroCells zv.cells (G-(m+ys.length))).size=G*hb.e:=by simp only[Kcj,KbL,fE,l9,size_zeroCells,sR,<-Nat.add_mul];congr 1;omega
  obtain⟨hr,qZ⟩:=h.wI β hB pW ⟨hb.e,hb.ty,hb.xs.take m++ys,false⟩ _ G _ (.inr rfl) jH (by simp;omega) gV bm.lV
   (fun i x aT=>by
    rcases yD i x aT with⟨_,hq⟩|⟨_,hq⟩
    ·exact bm.len i x hq
    ·exact⟨(gE _ x hq).1,(gE _ x hq).2.1⟩)
   (fun i x aT j y hy=>by
    show Qu w _ y (Array.getD _ (i*hb.e+j) undef);rcases yD i x aT with⟨hi,hq⟩|⟨hi,hq⟩
    ·have hj:j<hb.e:=by have:=(Kad.1 hy).1;have:=(bm.len i x hq).1;omega
     have q1:=(vf (n:=0) hi hj).1;rw[kT,if_pos (by simp only[Kcj,KbL,fE];omega),kT,if_pos (by simp only[KbL,fE];omega),uW,
      Kap,KaL q1]
     have:=c5 i x hq j y hy;simpa[KaZ]using this
    ·have iG:i-m<ys.length:=(Kad.1 hq).1;have hj:j<hb.e:=by have:=(Kad.1 hy).1;have:=(gE _ x hq).1;omega
     obtain⟨q1,q2⟩:=vf (n:=m) iG hj;rw[show m+(i-m)=i by omega]at q2;rw[q2,kT,if_pos (by simp only[Kcj,KbL,fE,l9];omega),kT,if_neg (by simp only[KbL,fE];omega),uW];simp only[KbL,fE];rw[show m*hb.e+((i-m)*hb.e+j)-m*hb.e=(i-m)*hb.e+j by omega,CE q1];exact(gE _ x hq).2.2 j y hy)
  refine jy (sY ho es ex bo) (cP.kQ hd ar aV hr (by simp) ?_ hK);exact⟨⟨hb.e,hb.ty,hb.xs.take m++ys,false⟩,by simp[Qy],by simp;omega,.inr ⟨w.heap.size,G,gM _ _ _,by simp,⟨_,hb.ty,my w.drew _,by rw[Kbd];exact jH⟩,by omega⟩⟩
theorem Q9y{o:Oper}{s x:Operand}{t e:TypeId}{n by_:Nat}{z:PV}{ps px:PV}{d:Nat}{Q:Exit->Act->World->Prop}
  (ho:o.op= .call { callee:=.builtin .append,args:= #[s,x],argTypes:= #[t,t] }) (hd:o.dst=some d) (ar:d<C.N) (aV:a.defers=[]) (h:aI C ρ fr hp a.tmps w)
  (hu:C.P.underlying t=some (.slice e)) (hz:jR C.P e=some (n,by_,z)) (ke:z.cells.length=n) (hs:Qt C ρ hp w ps (a.eval s)) (hx:Qt C ρ hp w px (a.eval x))
  (aoh:jA hp px=none->xT n by_ e ps px d fr hp K->o.wp C.P a w (cP C false w K) Q) (hv:iO n by_ e ps px d fr hp K):o.wp C.P a w (cP C false w K) Q:=by
 unfold iO at hv;split at hv
 ·exact aoh (by assumption) hv
 ·rename_i e' ys o4;obtain⟨h0,m7,hv⟩:=hv;cases ps with
  |aa=>obtain⟨k1,k2,hK⟩:=hv;exact Pg (β:=d) ho hd ar aV h hu hz hx o4 h0 ke m7 hs.wJ k1 k2 (C7 (xX ar)) (vu (xX ar)) hK
  | ay β o' m=>
   cases o' with
   |succ o'=>exact hv.elim
   |zero=>
   simp only at hv;split at hv
   ·rename_i hb al;rcases hv with⟨k0,k1,k2,k3,k4,k5,k6,hK⟩|⟨k0,kY,⟨_,k1,k2,k3,k4,k5,k6⟩,hK⟩
    ·exact Ph ho hd ar aV h hu hz hx o4 h0 ke m7 hs (C7 k0) (vu k0) al k1 k2 k3 k4 k5 k6 hK
    ·exact Ph ho hd ar aV h hu hz hx o4 h0 ke m7 hs xd kY al k1 k2 k3 k4 k5 k6 hK
   ·exact hv.elim
  |_=>exact hv.elim
theorem XG{P:Program}{t ty e:TypeId}{n:Nat}(ht:P.underlying t=some (.slice e))(hn:ep P e=some n){base ad:Option Addr}{dl dc sl sc:Nat}(hz:Nat.min sl dl=0)(w:World):
  (Builtin.copy_ #[t,t] ty #[.slice base dl dc,.slice ad sl sc]).run P w= .ok (goInt 0) w:=by
 have hs:=kS hn;cases ad<;>cases base<;>simp[Builtin.copy_,run_underlying ht,hs,Builtin.lenOf,Builtin.firstCells,hz,storeCells,loadCells,loadCellsFrom]
theorem Si{P:Program}{o:Oper}{s x:Operand}{t:TypeId}(ho:o.op= .call { callee:=.builtin .copy,args:= #[s,x],argTypes:= #[t,t] }){vs vx v:Value}{w w':World}(es:a.eval s=vs)(ex:a.eval x=vx)
  (hr:(Builtin.copy_ #[t,t] o.type #[vs,vx]).run P w= .ok v w'):(execOp a.eval o).run P w= .ok (.value v) w':=by
 unfold execOp;simp only[ho,resolve,Kao,Ka0,Kaj,invoke,builtin];simp[es,ex,hr]
theorem XH{P:Program}(w:World)(t ty elem:TypeId)(g o LO alZ n:Nat)(a:Addr)(Nw apB:Nat)(cur:Array Value)(ty':TypeId)(cs:List Value)
  (hu:P.underlying t=some (.slice elem)) (hs:ep P elem=some n)
  (hg:w.heap[g]? =some (.cells cur ty' (0,0))) (hn:cs.length=Nat.min Nw LO*n)
  (o4:∀j v,cs[j]? =some v->w.cell? (a.add j)=some v) (oW:o+cs.length<=cur.size) (h1:∀v∈cs,v.oneCell'=true):
  (Builtin.copy_ #[t,t] ty #[.slice (some ⟨g,o,none⟩) LO alZ,.slice (some a) Nw apB]).run P w=
   .ok (goInt (Nat.min Nw LO)) (w.setRow g (cur.toList.take o++cs++cur.toList.drop (o+cs.length)).toArray):=by
 have hl:=run_loadCells_list (P:=P) w a cs o4;have aG:=run_storeCells_at P g o ty' cs 0 cur w hg (by simpa using oW) h1;have hz:=kS hs;simp[Builtin.copy_,run_underlying hu,hz,Builtin.lenOf,Builtin.firstCells,<-hn,hl,aG]
theorem Q9z{o:Oper}{s x:Operand}{t e:TypeId}{n:Nat}{ps px:PV}{d:Nat}{Q:Exit->Act->World->Prop}
  (ho:o.op= .call { callee:=.builtin .copy,args:= #[s,x],argTypes:= #[t,t] }) (hd:o.dst=some d) (ar:d<C.N) (aV:a.defers=[]) (h:aI C ρ fr hp a.tmps w)
  (hu:C.P.underlying t=some (.slice e)) (hn:ep C.P e=some n) (hs:Qt C ρ hp w ps (a.eval s)) (hx:Qt C ρ hp w px (a.eval x))
  (hv:tQ n ps px d fr hp K):o.wp C.P a w (cP C false w K) Q:=by
 unfold tQ at hv;split at hv
 ·rename_i e' ys β m o4;split at hv
  ·rename_i hb al;obtain⟨k0,k1,k2,k3,k4,hK⟩:=hv;obtain⟨fb,g1,g2,g3⟩:=hs;rw[al]at g1;cases g1;obtain⟨ad,BX,ex,Ba⟩:=Hg (e:=n) h hx o4 k0 k3;have bm:=h.own β hb al;have zero:Nat.min ys.length m=0->o.wp C.P a w (cP C false w K) Q:=by
    intro h0;have bo:∀base cap,a.eval s= .slice base m cap->(execOp a.eval o).run C.P w= .ok (.value (goInt 0)) w:=fun base cap es=>
     Si ho es ex (XG (P:=C.P) (ty:=o.type) hu hn h0 w)
    have e2:({ hb with xs:=ys.take m++hb.xs.drop ys.length }:HB)=hb:=by
     have:ys.take m++hb.xs.drop ys.length=hb.xs:=by
      rcases Nat.min_eq_zero_iff.1 h0 with hq|hq
      ·have:ys=[]:=Kcd hq;subst this;simp
      ·have:hb.xs=[]:=Kcd (by omega);subst hq;simp[this]
     rw[this]
    have e3:Qy hp β hb=hp:=by
     funext γ;unfold Qy;split
     ·rename_i he;rw[he,al]
     ·rfl
    rw[e2,e3,show(min (ys.length:Int) (m:Int))=0 by have:min ys.length m=0:=h0;omega]at hK;obtain⟨ad',eT,es⟩:=Qt.Nc (C:=C) (ρ:=ρ) (hp:=hp) (w:=w) ⟨hb,al,g2,g3⟩;exact jy (bo _ _ es) (cP.kQ hd ar aV h (by simp) (Qt.mkInt _ _) hK)
   by_cases Ff:Nat.min ys.length m=0
   ·exact zero Ff
   rcases g3 with⟨g3,es,jY,_⟩|⟨b,cap,g3,es,g5,g6⟩
   ·exact(Ff (by rw[jY];simp)).elim
   rw[KbH]at es;have ql:ys≠[]:=by rintro rfl;exact Ff (by simp)
   obtain⟨sb,off,f,rfl,hf,gE⟩:=Ba ql;have bb:=bm.dV;rw[g3]at bb;obtain⟨b1,b2,cur,eT,c1,c2,c3,c4,c5⟩:=bb;obtain⟨k,hk⟩:∃k,k=min ys.length m:=⟨_,rfl⟩
   have l9:=wS f (k*n);have MG:k*n<=ys.length*n:=Kaf _ (by omega);have jJ:∀u∈fT f (k*n),u.oneCell'=true:=by
    intro u jb;obtain⟨q,hq⟩:=KaG jb;obtain⟨kH,rfl⟩:=zu hq;have hi:q/n<ys.length:=(Kbn k0).2 (by omega);have hj:=Kbv q k0;obtain⟨l1,l2,l3⟩:=gE _ _ (Kam hi);have pZ:q%n<(ys[q/n]'hi).cells.length:=by omega
    have:=l3 _ _ (Kam pZ);rw[KaS,Kbr]at this;exact this.rA.1
   have hkc:k*n<=eT*n:=Kaf _ (by omega);have oW:0+(fT f (k*n)).length<=cur.size:=by rw[l9,c2,k2];omega
   have bo:=XH (P:=C.P) w t o.type e b 0 m cap n ⟨sb,off,none⟩ ys.length BX cur hb.ty (fT f (k*n)) hu hn c1 (by rw[l9,hk])
    (fun j v hj=>by obtain⟨fO,rfl⟩:=zu hj;rw[Kbz];exact hf j (by omega)) oW jJ
   have kI:=zj (cur:=cur) (p:=0) (cs:=fT f (k*n)) oW;have gr:=fun q hq=>zg (cur:=cur) (p:=0) (cs:=fT f (k*n)) (k:=q) oW hq;generalize hW:(cur.toList.take 0++fT f (k*n)++cur.toList.drop (0+(fT f (k*n)).length)).toArray=W at bo kI gr;have eo:(ys.take m++hb.xs.drop ys.length).length=hb.xs.length:=by simp;omega
   have eV:∀(i:Nat)(x:PV),(ys.take m++hb.xs.drop ys.length)[i]? =some x->(i<k/\ys[i]? =some x)∨(k<=i/\hb.xs[i]? =some x):=by
    intro i x aT;rw[Ka1]at aT;have ht:(ys.take m).length=k:=by simp;omega
    rw[ht]at aT;by_cases hi:i<k
    ·rw[if_pos hi,KaL (by omega)]at aT;exact .inl ⟨hi,aT⟩
    ·rw[if_neg hi,Ka9]at aT;refine .inr ⟨by omega,?_⟩;have dp:ys.length+(i-k)<hb.xs.length:=(Kad.1 aT).1
     rwa[show ys.length+(i-k)=i by omega]at aT
   have aG:=h.store β b hb { hb with xs:=ys.take m++hb.xs.drop ys.length } al k1 (by intro e;rw[e]at k4;simp at k4;exact Ff (by simp[k4])) g3 (zt w b W) rfl eo k1
    (fun i x aT=>by
     rcases eV i x aT with⟨_,hq⟩|⟨_,hq⟩
     ·exact⟨by rw[(gE _ x hq).1];exact k2.symm,(gE _ x hq).2.1⟩
     ·exact bm.len i x hq)
    (fun e' AI dR=>by obtain⟨cur',ty',d1,d2⟩:=dR;rw[c1]at d1;cases d1;exact⟨_,_,setRow_heap w b cur _ hb.ty _ c1,by rw[kI];exact d2⟩)
    ⟨W,eT,setRow_heap w b cur W hb.ty _ c1,by rw[kI];exact c2,by rw[eo];exact c3,c4,fun i x aT j y hy=>by
     show Qu w _ y (Array.getD W (i*hb.e+j) undef);rcases eV i x aT with⟨hi,hq⟩|⟨hi,hq⟩
     ·have hj:j<n:=by have:=(Kad.1 hy).1;have:=(gE _ x hq).1;omega
      have q1:=(vf (n:=0) hi hj).1;rw[k2,gr _ (by rw[c2,k2];omega),if_pos (by omega),Kcm,CE q1];exact(gE _ x hq).2.2 j y hy
     ·have dp:i<hb.xs.length:=(Kad.1 hq).1;have hj:j<hb.e:=by have:=(Kad.1 hy).1;have:=(bm.len i x hq).1;omega
      have:=c5 i x hq j y hy;have q2:k*n<=i*n:=Kaf _ hi;have q3:=(vf (n:=0) (show i<eT by omega) (show j<n by omega)).1;rw[gr _ (by rw[c2,k2];omega),if_neg (by rw[k2];omega)];exact this⟩
   rw[show(min (ys.length:Int) (m:Int))=((Nat.min ys.length m:Nat):Int)by have:Nat.min ys.length m=min ys.length m:=rfl;omega]at hK;exact jy (Si ho es ex bo) (cP.kQ hd ar aV aG (by simp) (Qt.mkInt _ _) hK)
  ·exact hv.elim
 ·exact hv.elim
theorem Za{o:Oper}{t:TypeId}{parts:Array (Nat×Operand)}{z:PV}{n by_:Nat}{ps:List (Nat×Nat×aP)}{d:Nat}(ho:o.op= .build t parts)(hd:o.dst=some d)(ar:d<C.N)(h:aI C ρ fr hp a.tmps w)
  (hz:jR C.P t=some (n,by_,z)) (fZ:Ap C.P t parts.toList=some ps)
  (hv:tC z.cells.length (ps.map fun p=>(p.1,p.2.1,ev fr p.2.2))/\K (af fr d (.aU (ij z.cells ((ps.map fun p=>(p.1,p.2.1,ev fr p.2.2)).map fun p=>(p.1,(fw p.2.2).getD []))))) hp):bj C ρ o a w K:=by
 obtain⟨cz,hK⟩:=hv;obtain⟨ti,zv,i1,i2,i3,i4,i5⟩:=rS hz;have M7:pJ (cV C ρ hp w) z.cells zv.cells:=by have h0:Rows w (aH C ρ hp) z.cells zv.cells:=(rG i5).rows;exact⟨h0.1,fun i x hx=>cV.WY (h0.2 i x hx)⟩
 have qY:(parts.map fun(x:Nat×Operand)=>(x.1,a.eval x.2)).toList=parts.toList.map fun x=>(x.1,a.eval x.2):=by simp
 have key:∀(f:Nat×Operand->Option (Nat×Nat×aP))(place:Nat->Option (Nat×Nat)),parts.toList.mapM f=some ps->(∀x q,f x=some q->place x.1=some (q.1,q.2.1)/\b7 x.2=some q.2.2)->
   ∃et,Instr.fill place zv.cells (parts.map fun(x:Nat×Operand)=>(x.1,a.eval x.2)).toList=some et/\
    pJ (cV C ρ hp w) (ij z.cells ((ps.map fun p=>(p.1,p.2.1,ev fr p.2.2)).map fun p=>(p.1,(fw p.2.2).getD []))) et:=by
  intro f place hm hf;rw[qY];refine CO place _ _ _ _ M7 (by simp[(oE hm).1]) (fun i p q yH ux=>?_);simp only[Kc8,Kax,Kaa]at ux;obtain⟨q0,iH,rfl⟩:=ux;obtain⟨x,hx,oX,rfl⟩:=TR hm yH iH;obtain⟨f1,f2⟩:=hf x q0 oX;obtain⟨cs,o1,o2,o3⟩:=cz (q0.1,q0.2.1,ev fr q0.2.2) (KaE.2 ⟨q0,Kai iH,rfl⟩);simp only[Function.comp]at o1 o2 o3⊢;simp only[o1,KbT];obtain⟨r1,r2,_⟩:=Pf (cG h f2) o1;exact⟨by rw[o2];exact f1,⟨r1,r2⟩,by rw[o2];exact o3⟩
 have fin:∀et,(∀w',(Instr.build t (parts.map fun(x:Nat×Operand)=>(x.1,a.eval x.2))).run C.P w'= .ok (.agg et) w')->
   pJ (cV C ρ hp w) (ij z.cells ((ps.map fun p=>(p.1,p.2.1,ev fr p.2.2)).map fun p=>(p.1,(fw p.2.2).getD []))) et->bj C ρ o a w K:=by
  intro et bo hr;refine⟨.agg et,fun w'=>?_,_,_,by rw[hd];exact h.af (p:=.aU _) ⟨et,rfl,hr.1,hr.2⟩ ar,hK⟩;unfold execOp;simp only[ho,Kao];have:=bo w';rw[show(parts.map fun(x:Nat×Operand)=>(x.1,a.eval x.2))=(parts.map fun x=>match x with|(i,x)=>(i,a.eval x))from rfl]at this;rw[this];rfl
 unfold Ap at fZ;split at fZ
 ·rename_i fs hu;simp only[Kab]at fZ;obtain⟨pl,gH,hm⟩:=fZ;obtain⟨et,g1,g2⟩:=key _ (fun i=>pl[i]?) hm (fun x q hq=>by simp only[Kab,Kaa]at hq;obtain⟨r,hr,y,hy,rfl⟩:=hq;exact⟨by simpa using hr,hy⟩);refine fin et (fun w'=>?_) g2;unfold Instr.build;have iZ:=run_places (P:=C.P) w' fs.toList pl gH;simp[Kao,uS i1 i2,iv hu,Kb6,iZ]at g1⊢;simp[g1]
 ·rename_i len e hu;simp only[Kab]at fZ;obtain⟨m,jY,hm⟩:=fZ;obtain⟨et,g1,g2⟩:=key _ (fun i=>some (i*m,m)) hm (fun x q hq=>by simp only[Kaa]at hq;obtain⟨y,hy,rfl⟩:=hq;exact⟨rfl,hy⟩);refine fin et (fun w'=>?_) g2;unfold Instr.build;simp only[Kao,uS i1 i2,iv hu,kS jY,Kaj,g1,Ka0]
 ·simp at fZ
end Go.FW
namespace Go.FW
open Go
variable {C : Ctx} {ρ : Nat -> Option Nat} {fr : Fr} {hp : HP} {tmps : Array Value} {w : World} {a : Act} {K : Qg}
theorem GQ{x:PV}(h:lL x=true):∃β n,x= .ay β 0 n/\5000000<=β:=by
 unfold lL at h;split at h
 ·exact⟨_,_,rfl,by simpa using h⟩
 ·cases h
theorem Ud{γ:Nat}:iM γ (fK γ fr)=fK γ fr:=by
 funext i;unfold iM fK;generalize fr i=p;cases p with
 |aN bE e ty xs=>
  simp only[de];split
  ·rfl
  ·rename_i aO;simp[jf,aO]
 |aM bE o n=>simp only[de];split<;>rfl
 |np bE o n=>simp only[de];split<;>rfl
 |fn f first cap=>
  simp only[de];split
  ·rfl
  ·unfold bZ;split<;>rfl
 |aU cs=>rfl
 |eX cs=>rfl
 |eY cs q=>rfl
 |_=>simp only[de,bZ];split<;>rfl
theorem xo{γ β o n:Nat}{b':Option Nat}{ax:HB}{w':World}{v:Value}(h:aI C ρ fr hp tmps w)(hx:Ext (fun b=>ρ γ=some b/\∃hb,hp γ=some hb/\hb.fz=false) w w')(aO:β≠γ)
  (hr:eQ ρ hp w β o n v):eQ (rb ρ γ b') (Qy hp γ ax) w' β o n v:=
 eQ.move hr ⟨oJ aO,fun hb al=>⟨hb,by simp[Qy,aO,al],rfl,Kac _,fun b cap h1 h2=>
  mD (hx.block b (mF h2) (fun⟨e1,mZ,e2,_⟩=>aO (h.inj β γ b (by simp[al]) (by simp[e2]) h1 e1))) h2⟩⟩
theorem eQ.slice{β o n:Nat}{v:Value}(h:eQ ρ hp w β o n v):∃ad m c,v= .slice ad m c:=by
 obtain⟨_,_,_,⟨_,e,_⟩|⟨_,_,_,e,_⟩⟩:=h
 ·exact⟨_,_,_,e⟩
 ·exact⟨_,_,_,e⟩
theorem Ee{β:Nat}(h:1000000<=β):cd β=true:=by simp[cd];omega
theorem Ik{β:Nat}(h:2000000<=β):bK β=false:=by simp[bK];omega
theorem aI.FA{γ b ty cap:Nat}{cur:Array Value}{xs:List PV}(h:aI C ρ (fK γ fr) hp tmps w)(hB:cd γ=true)(ak:hp γ=some ⟨1,ty,[],false⟩)(bB:ρ γ=some b)
  (h1:w.heap[b]? =some (.cells cur ty (0,0))) (h2:cur.size=cap) (h3:xs.length<=cap) (h4:cap<=maxLen) (hr:xs.all lL=true)
  (h6:∀(i β n:Nat),xs[i]? =some (.ay β 0 n)->eQ ρ hp w β 0 n (cur.getD i undef)):aI C ρ (FW.af (fK γ fr) γ (.aN γ 1 ty xs)) hp tmps w:=by
 have fQ:∀(i:Nat)(x:PV),xs[i]? =some x->∃β n,x= .ay β 0 n/\5000000<=β:=fun i x hx=>GQ (Kay.1 hr _ (Kai hx));have:=h.Ng (w':=w) (γ:=γ) (b:=b) (e:=1) (ty:=ty) (xs':=xs) (cur':=cur) (cap:=cap) hB (by omega) ak rfl rfl rfl rfl bB (Ext.refl _ _) (fun _ _ h=>h) h1 (by omega) h3 h4
  (fun i x hx=>by obtain⟨β,n,rfl,_⟩:=fQ i x hx;rfl)
  (fun i x hx j y hy=>by
   obtain⟨β,n,rfl,al⟩:=fQ i x hx;rw[show(PV.ay β 0 n).bl=[.ay β 0 n]from rfl]at hy;have hj:j<1:=by have:=(Kad.1 hy).1;simpa using this
   obtain rfl:j=0:=by omega
   simp at hy;subst hy;rw[KbF,KaU];exact⟨Ee (by omega),h6 i β n hx⟩)
 rwa[Ud]at this
theorem Ef{γ k cap:Nat}{bf:Nat->Option Nat}{an:HP}{b ty:Nat}{cur:Array Value}(hB:cd γ=true)(h1:an γ=some ⟨1,ty,[],false⟩)(h2:bf γ=some b)(h3:w.heap[b]? =some (.cells cur ty (0,0)))(h4:cur.size=cap)(h5:cap<=maxLen)(h6:k<=cap):
  Qt C bf an w (.aM γ 0 k) (.slice (some ⟨b,0,none⟩) k cap):=
 ⟨hB,⟨1,ty,[],false⟩,b,cap,h1,h2,by simp,⟨cur,ty,h3,by simp[h4]⟩,by omega,h6⟩
theorem Q90{o:Oper}{t e:TypeId}{len n by_:Nat}{z:PV}{parts:Array (Nat×Operand)}{ps:List aP}{d:Nat}{Q:Exit->Act->World->Prop}(ho:o.op= .buildSlice t len parts)(hd:o.dst=some d)(ar:d<C.N)(aV:a.defers=[])(h:aI C ρ fr hp a.tmps w)
  (hu:C.P.underlying t=some (.slice e)) (hz:jR C.P e=some (n,by_,z)) (qf:parts.toList.map (·.1)=List.range len) (ke:z.cells.length=n) (fZ:(parts.toList.mapM fun p=>b7 p.2)=some ps)
  (Vu:oM (ps.map (ev fr))=true) (hv:UK n e (ps.map (ev fr)) d fr hp K):o.wp C.P a w (cP C true w K) Q:=by
 obtain⟨rfl,hK⟩:=hv;obtain⟨ti,zv,i1,i2,i3,i4,i5⟩:=rS hz;obtain⟨m1,m2⟩:=oE fZ;obtain⟨u,rfl⟩:∃u,ps=[u]:=by
  match ps,Vu with
  | [],hb=>simp[oM]at hb
  | [u],_=>exact⟨u,rfl⟩
  |u::v::ps,hb=>simp[oM]at hb
 have fQ:lL (ev fr u)=true:=by simpa[oM]using Vu
 obtain⟨β,m,qY,al⟩:=GQ fQ;obtain⟨⟨i,x⟩,wq⟩:∃p,parts.toList=[p]:=by
  match hq:parts.toList with
  | []=>rw[hq]at m1;simp at m1
  | [p]=>exact⟨p,rfl⟩
  |p::q::r=>rw[hq]at m1;simp at m1
 rw[wq]at qf m2;obtain rfl:len=1:=by have:=congrArg List.length qf;simpa using this.symm
 obtain rfl:i=0:=by simpa using qf
 have hxu:b7 x=some u:=by obtain⟨x',aT,wm⟩:=m2 0 u rfl;simp at aT;subst aT;exact wm
 have hx:=cG h hxu;rw[qY]at hx;have uy:eQ ρ hp w β 0 m (a.eval x):=hx;obtain⟨ad,m',c',hvx⟩:=uy.slice;have hN:=C.hN;have sA:c8 d<5000000:=by unfold c8;omega
 have hB:cd (c8 d)=true:=Ee (by unfold c8;omega);have hY:bK (c8 d)=false:=Ik (by unfold c8;omega);obtain⟨hs,he⟩:=h.wI (c8 d) hY xd ⟨1,e,[],false⟩ #[a.eval x] 1 _ (.inl rfl) (by simp) (by simp) (by rw[lI];omega) (by simp) (by simp) (by simp);have fi:=hs.FA (cur:= #[a.eval x]) (cap:=1) (xs:=[.ay β 0 m]) hB (by simp[Qy]) (gM _ _ _) (my w _) (by simp) (by simp) (by rw[lI];omega) (by simp[lL,al]) (fun i dA n' hi=>by
  match i,hi with
  |0,hi=>simp at hi;obtain⟨rfl,rfl⟩:=hi;exact xo h (Ext.alloc w _ _) (by omega) uy
  |i+1,hi=>simp at hi)
 rw[Kba,Kbt,qY]at hK;refine jy (v:=.slice (some ⟨w.heap.size,0,none⟩) 1 1) ?_ (cP.kQ hd ar aV fi (fun _=>he) (Ef hB (by simp[Qy]) (gM _ _ _) (my w _) (by simp) (by rw[lI];omega) (by omega)) hK);unfold execOp;have Br:(parts.map fun x=>match x with|(i,x)=>(i,a.eval x)).toList=[(0,a.eval x)]:=by simp[wq]
 simp only[ho,Instr.buildSlice,Kao,iv hu,Kaj,kS (show ep C.P e=some 1 by simp[ep,i1,i3]),Br];simp[Ka0,Kao,uS i1 i2,Instr.fill,hvx,Value.cells,newRow,show Array.range 1= #[0]from rfl]
theorem Zd{o:Oper}{t:TypeId}{n:Nat}{x:Operand}{cs:List PV}{d:Nat}{Q:Exit->Act->World->Prop}(ho:o.op= .box t x)(hd:o.dst=some d)(ar:d<C.N)(aV:a.defers=[])(h:aI C ρ fr hp a.tmps w)
  (hx:Qt C ρ hp w (.aU cs) (a.eval x)) (hv:tP n t cs d fr hp K):o.wp C.P a w (cP C true w K) Q:=by
 obtain⟨⟨hlen,hn,hU,rn⟩,hK⟩:=hv;obtain⟨vs,ex,fR,jH⟩:=hx;have hN:=C.hN;have hB:cd (c8 d)=true:=Ee (by unfold c8;omega);have hY:bK (c8 d)=false:=Ik (by unfold c8;omega);obtain⟨hs,he⟩:=h.wI (c8 d) hY xd ⟨n,t,[],false⟩ vs 1 _ (.inl rfl) (by simp;omega) (by simp) (by rw[lI];omega) hn (by simp) (by simp);have cJ:∀(i:Nat)(y:PV),cs[i]? =some y->cV C (rb ρ (c8 d) (some w.heap.size)) (Qy hp (c8 d) ⟨n,t,[],false⟩) (w.alloc (.cells vs t)) y (vs.getD i undef):=fun i y hi=>by
  have hm:=Kai hi;have We:∀β∈y.dT,β≠c8 d:=fun β al e=>by have:=Kay.1 rn y hm;subst e;simp[al]at this
  refine(jH i y hi).move ⟨fun b hb _=>CA w _ b hb,fun b hb hX=>?_,by rw[CC];omega⟩ (fun β al=>⟨oJ (We β al),fun hb hh=>⟨hb,by simp[Qy,We β al,hh],rfl,Kac _,fun b cap _ hc=>mD (CA w _ b (mF hc)) hc⟩⟩);rintro(bw|⟨γ,hg,h1,h2,h3⟩)
  ·exact hX (.inl bw)
  ·by_cases ak:γ=c8 d
   ·subst ak;rw[gM]at h3;cases h3;omega
   ·refine hX (.inr ⟨γ,hg,?_,h2,by rwa[oJ ak]at h3⟩);simpa[Qy,ak]using h1
 have:=hs.Ng (w':=w.alloc (.cells vs t)) (γ:=c8 d) (b:=w.heap.size) (e:=n) (ty:=t) (xs':=[.aU cs]) (cur':=vs) (cap:=1) hB hn (show Qy hp (c8 d) ⟨n,t,[],false⟩ (c8 d)=some ⟨n,t,[],false⟩by simp[Qy]) rfl rfl rfl rfl (gM _ _ _) (Ext.refl _ _) (fun _ _ h=>h) (my w _) (by omega) (by simp) (by rw[lI];omega)
  (fun i x hx=>by
   match i,hx with
   |0,hx=>simp at hx;subst hx;exact hlen
   |i+1,hx=>simp at hx)
  (fun i x hx j y hy=>by
   match i,hx with
   |0,hx=>simp at hx;subst hx;rw[KbH,Kbd];exact cJ j y hy
   |i+1,hx=>simp at hx)
 rw[Ud]at this;refine jy (v:=.pointer (some ⟨w.heap.size,0,none⟩)) (w':=w.alloc (.cells vs t)) ?_ (cP.kQ (p:=.np (c8 d) 0 0) hd ar aV this (fun _=>he) ⟨hB,w.heap.size,⟨n,t,[],false⟩,gM _ _ _,by simp[Qy],by simp⟩ hK);unfold execOp;simp only[ho,Instr.box,newVar,newRow,ex,Value.cells];simp
theorem Ze{o:Oper}{t:TypeId}{n:Nat}{x:Operand}{px:PV}{d:Nat}{Q:Exit->Act->World->Prop}(ho:o.op= .box t x)(hd:o.dst=some d)(ar:d<C.N)(aV:a.defers=[])(h:aI C ρ fr hp a.tmps w)
  (hx:Qt C ρ hp w px (a.eval x)) (hv:fU n t px d fr hp K):o.wp C.P a w (cP C true w K) Q:=
 Q9w ho hd ar aV h hx (fun _ e hb=>Zd ho hd ar aV h (e▸hx) hb) hv
theorem Zj {o:Oper} {s x:Operand} {t e:TypeId} {n by_:Nat} {z:PV} {ps px:PV} {d:Nat} {Q:Exit->Act->World->Prop}
  (ho:o.op= .call { callee:=.builtin .append,args:= #[s,x],argTypes:= #[t,t] }) (hd:o.dst=some d) (ar:d<C.N) (aV:a.defers=[]) (h:aI C ρ fr hp a.tmps w)
  (hu:C.P.underlying t=some (.slice e)) (hz:jR C.P e=some (n,by_,z)) (ke:z.cells.length=n) (hs:Qt C ρ hp w ps (a.eval s)) (hx:Qt C ρ hp w px (a.eval x))
  (hv:xT n by_ e ps px d fr hp K):o.wp C.P a w (cP C false w K) Q:=by
 obtain⟨ti,zv,i1,i2,i3,i4,i5⟩:=rS hz;have hN:=C.hN;have sA:c8 d<5000000:=by unfold c8;omega
 have UT:cd (c8 d)=true:=Ee (by unfold c8;omega);have hYd:bK (c8 d)=false:=Ik (by unfold c8;omega);unfold xT at hv;split at hv
 ·rename_i δ;split at hv
  ·rename_i NA ty' y anI;obtain⟨rfl,hyr,rfl,hv⟩:=hv;obtain⟨β,m,rfl,al⟩:=GQ hyr;obtain⟨_,aqc,b,cap,gδ,rδ,ex,_,_,_⟩:=hx;have Bc:=h.eZ NA;rw[anI]at Bc;obtain⟨_,_,b2,fb,cur,AI,q1,q2,q3,q4,q5,q6,q7,q8,q9,_,iu⟩:=Bc;rw[gδ]at q2;cases q2;rw[rδ]at q1;cases q1;rw[KbH]at ex;have ft:=iu 0 _ rfl 0 (.ay β 0 m) rfl;simp only[KbH,Kbd]at ft;have uy:eQ ρ hp w β 0 m (cur.getD 0 undef):=ft.2;obtain⟨ad,m',c',ER⟩:=uy.slice;have h0s:0<cur.size:=by simp at q8;omega
   have pT:w.cell? ⟨b,0,none⟩=some (cur.getD 0 undef):=lG q6 h0s;obtain⟨u,Bz⟩:∃u,cur.getD 0 undef=u:=⟨_,rfl⟩
   rw[Bz]at uy ER pT;have yF:∀(j:Nat)(v:Value),[u][j]? =some v->w.cell? ((⟨b,0,none⟩:Addr).add j)=some v:=fun j v hj=>by
    have hj0:j<1:=by have:=(Kad.1 hj).1;simpa using this
    obtain rfl:j=0:=by omega
    simp at hj;subst hj;rw[Kbz,KaU];exact pT
   have sR:zv.cells.size=1:=by have:=(rG (w:=w) (X:=aH C ρ hp) i5).cells.1;omega
   split at hv
   ·obtain⟨hb,hK⟩:=hv;have es:=hs.wJ;have bo:=run_append_nil (P:=C.P) w t o.type e ti zv hu i1 i2 ⟨b,0,none⟩ 1 cap [u] (by simp[i3]) yF (by omega) (by omega) (by rw[i4];omega);have fX:=grownCap_ge w 1 0 e;have gV:=grownCap_le_maxLen w 1 0 e (by rw[lI];omega);generalize grownCap w 1 0 e=G at bo fX gV;have jH:([u].toArray++Builtin.zeroCells zv.cells (G-1)).size=G:=by simp[size_zeroCells,sR];omega
    have ani:([u].toArray++Builtin.zeroCells zv.cells (G-1)).size=G*1:=by omega
    have im:([u].toArray++Builtin.zeroCells zv.cells (G-1)).getD 0 undef=u:=by rw[kT,if_pos (by simp),uW];rfl
    obtain⟨gq,_⟩:=h.wI (c8 d) hYd xd ⟨1,e,[],false⟩ ([u].toArray++Builtin.zeroCells zv.cells (G-1)) G _ (.inr rfl) ani (by simp) gV (by simp) (by simp) (by simp);have fi:=gq.FA (cap:=G) (xs:=[.ay β 0 m]) UT (by simp[Qy]) (gM _ _ _) (my w.drew _) jH (by simpa using fX) gV (by simp[lL,al]) (fun i dA n' hi=>by
     match i,hi with
     |0,hi=>simp at hi;obtain⟨rfl,rfl⟩:=hi;rw[im];exact xo h ((Ext.drew w _).trans (Ext.alloc w.drew _ _)) (by omega) uy
     |i+1,hi=>simp at hi)
    exact jy (sY ho es ex bo) (cP.kQ hd ar aV fi (by simp) (Ef UT (by simp[Qy]) (gM _ _ _) (my w.drew _) jH gV fX) hK)
   ·rename_i γ k;split at hv
    ·rename_i bE oC xs anH;obtain⟨⟨rfl,aqR,hY,rfl,rfl,Fu,Mj,Bn⟩,⟨hb,ak,l5⟩,hK⟩:=hv;obtain⟨hB,Mi,b1,En,g1,g2,es,g4,g5,g6⟩:=hs;rw[ak]at g1;cases g1;have Bc:=h.eZ bE;rw[anH]at Bc;obtain⟨_,_,IU,ax,lh,si,p1,p2,p3,p4,p5,p6,p7,p8,p9,_,p11⟩:=Bc;rw[ak]at p2;cases p2;rw[g2]at p1;cases p1;rw[KbH]at es;obtain⟨apY,aqU,d1,d2⟩:=g4;rw[p6]at d1;cases d1;rw[p4,KbF,Kbd]at d2;rw[KbF]at p7;obtain rfl:si=En:=by omega
     have Wj:∀(i dA n':Nat),xs[i]? =some (.ay dA 0 n')->eQ ρ hp w dA 0 n' (lh.getD i undef):=fun i dA n' hi=>by have:=p11 i _ hi 0 (.ay dA 0 n') rfl;simp only[KbF,KaU]at this;exact this.2
     have Wn:∀(i dA n':Nat),xs[i]? =some (.ay dA 0 n')->dA≠bE:=fun i dA n' hi=>by have:=Kay.1 Fu _ (Kai hi);simp[lL]at this;omega
     have cw:(xs++[PV.ay β 0 m]).all lL=true:=by rw[List.all_append,Fu];simp[lL,al]
     have bm:=(h.own bE hb ak).dV;rw[g2]at bm;obtain⟨o1,o2,_⟩:=bm;replace o1:=Ctx.Eo o1 hY;have jJ:∀u'∈[u],u'.oneCell'=true:=by intro u' jb;simp at jb;subst jb;rw[ER];rfl
     by_cases yJ:xs.length+1<=si
     ·have bo:=run_append_room (P:=C.P) w t o.type oC ti hu i1 b1 xs.length si lh p6 ⟨b,0,none⟩ 1 cap [u] (by simp[i3]) yF jJ yJ (by simp[i3];omega);rw[i3,KbF]at bo;have oW:xs.length+[u].length<=lh.size:=by simp;omega
      have kI:=zj (cur:=lh) (p:=xs.length) (cs:=[u]) oW;have gr:=fun k hk=>zg (cur:=lh) (p:=xs.length) (cs:=[u]) (k:=k) oW hk;generalize hW:(lh.toList.take xs.length++[u]++lh.toList.drop (xs.length+[u].length)).toArray=W at bo kI gr;have hE:Ext (fun c=>ρ bE=some c/\∃hb,hp bE=some hb/\hb.fz=false) w (w.setRow b1 W):=(zt w b1 W).mono (fun i _ hi=>⟨hi▸g2,hb,ak,l5⟩);have Mz:(w.setRow b1 W).heap[b1]? =some (.cells W oC (0,0)):=setRow_heap w b1 lh W oC _ p6;have gq:=h.yW (w':=w.setRow b1 W) bE (some b1) ⟨1,oC,[],false⟩ hY xd hE
       (fun c hc=>by cases hc;exact⟨o1,by simpa using o2,.inr ⟨g2,hb,ak,l5⟩⟩) (by simp) (by simp) (by simp)
       (fun c hc=>by cases hc;exact⟨W,si,Mz,by simp[kI];omega,by simp,p9,by simp⟩)
      have fi:=gq.FA (cap:=si) (xs:=xs++[.ay β 0 m]) hB (by simp[Qy]) (gM _ _ _) Mz (by omega) (by simpa using yJ) p9 cw (fun i dA n' hi=>by
       rw[Ka1]at hi;by_cases dp:i<xs.length
       ·rw[if_pos dp]at hi;rw[gr i (by omega),if_neg (by omega)];exact xo h hE (Wn i dA n' hi) (Wj i dA n' hi)
       ·rw[if_neg dp]at hi;have pY:i-xs.length<1:=by have:=(Kad.1 hi).1;simpa using this
        obtain rfl:i=xs.length:=by omega
        rw[KbP]at hi;simp at hi;obtain⟨rfl,rfl⟩:=hi;rw[gr _ (by omega),if_pos (by simp),KbP];exact xo h hE (by omega) uy)
      exact jy (sY ho es ex bo) (cP.kQ hd ar aV fi (by simp) (Ef hB (by simp[Qy]) (gM _ _ _) Mz (by omega) p9 yJ) hK)
     ·have fE:(lh.toList.take xs.length).length=xs.length:=by simp;omega
      have holds:∀(j:Nat)(v:Value),(lh.toList.take xs.length)[j]? =some v->w.cell? ((⟨b1,0,none⟩:Addr).add j)=some v:=fun j v hj=>by
       have fO:j<xs.length:=by have:=(Kad.1 hj).1;omega
       rw[KaL fO]at hj;rw[Kbz,Kbd,lG p6 (by omega),Cz lh j v hj]
      have bo:=run_append_grow (P:=C.P) w t o.type oC ti zv hu i1 i2 ⟨b1,0,none⟩ xs.length si (lh.toList.take xs.length) (by rw[fE,i3,KbF]) holds ⟨b,0,none⟩ 1 cap [u] (by simp[i3]) yF
       (by omega) (by omega) (growslice_fits (by omega) (by rw[i4];exact Mj))
      have fX:=grownCap_ge w (xs.length+1) si oC;have gV:=grownCap_le_maxLen w (xs.length+1) si oC (by rw[lI];exact Bn);generalize grownCap w (xs.length+1) si oC=G at bo fX gV;have jH:((lh.toList.take xs.length).toArray++[u].toArray++Builtin.zeroCells zv.cells (G-(xs.length+1))).size=G:=by simp only[Kcj,KbL,fE,size_zeroCells,sR,KaW,Kbk];omega
      have eB:∀i,i<xs.length+1->((lh.toList.take xs.length).toArray++[u].toArray++Builtin.zeroCells zv.cells (G-(xs.length+1))).getD i undef=if i<xs.length then lh.getD i undef else u:=fun i hi=>by
       rw[kT,if_pos (by simp only[Kcj,KbL,fE,KaW,Kbk];omega),kT,KbL,fE];by_cases dp:i<xs.length
       ·rw[if_pos dp,if_pos dp,uW,Kap,KaL dp];simp[KaZ]
       ·rw[if_neg dp,if_neg dp,uW,show i-xs.length=0 by omega];rfl
      generalize hW:(lh.toList.take xs.length).toArray++[u].toArray++Builtin.zeroCells zv.cells (G-(xs.length+1))=W at bo jH eB;obtain⟨gq,_⟩:=h.wI bE hY xd ⟨1,oC,[],false⟩ W G _ (.inr rfl) (by simp[jH]) (by simp) gV (by simp) (by simp) (by simp);have hE:Ext (fun c=>ρ bE=some c/\∃hb,hp bE=some hb/\hb.fz=false) w (w.drew.alloc (.cells W oC)):=(Ext.drew w _).trans (Ext.alloc w.drew _ _);have fi:=gq.FA (cap:=G) (xs:=xs++[.ay β 0 m]) hB (by simp[Qy]) (gM _ _ _) (my w.drew _) jH (by simpa using fX) gV cw (fun i dA n' hi=>by
       rw[Ka1]at hi;by_cases dp:i<xs.length
       ·rw[if_pos dp]at hi;rw[eB i (by omega),if_pos dp];exact xo h hE (Wn i dA n' hi) (Wj i dA n' hi)
       ·rw[if_neg dp]at hi;have pY:i-xs.length<1:=by have:=(Kad.1 hi).1;simpa using this
        obtain rfl:i=xs.length:=by omega
        rw[KbP]at hi;simp at hi;obtain⟨rfl,rfl⟩:=hi;rw[eB _ (by omega),if_neg (by omega)];exact xo h hE (by omega) uy)
      exact jy (sY ho es ex bo) (cP.kQ hd ar aV fi (by simp) (Ef hB (by simp[Qy]) (gM _ _ _) (my w.drew _) jH gV fX) hK)
    ·exact hv.elim
   ·exact hv.elim
  ·exact hv.elim
 ·exact hv.elim
theorem Q91{o:Oper}{t e:TypeId}{len n by_:Nat}{z:PV}{parts:Array (Nat×Operand)}{ps:List aP}{d:Nat}{Q:Exit->Act->World->Prop}(ho:o.op= .buildSlice t len parts)(hd:o.dst=some d)(ar:d<C.N)(aV:a.defers=[])(h:aI C ρ fr hp a.tmps w)
  (hu:C.P.underlying t=some (.slice e)) (hz:jR C.P e=some (n,by_,z)) (qf:parts.toList.map (·.1)=List.range len) (Wv:len*n<=16777216) (ke:z.cells.length=n) (fZ:(parts.toList.mapM fun p=>b7 p.2)=some ps)
  (hv:oc n e (ps.map (ev fr)) d fr hp K):o.wp C.P a w (cP C true w K) Q:=by
 unfold oc at hv;split at hv
 ·rename_i hb;exact Q90 ho hd ar aV h hu hz qf ke fZ hb hv
 ·exact acj ho hd ar aV h hu hz qf Wv ke fZ hv
theorem Zp{o:Oper}{s x:Operand}{t e:TypeId}{n by_:Nat}{z:PV}{ps px:PV}{d:Nat}{Q:Exit->Act->World->Prop}
  (ho:o.op= .call { callee:=.builtin .append,args:= #[s,x],argTypes:= #[t,t] }) (hd:o.dst=some d) (ar:d<C.N) (aV:a.defers=[]) (h:aI C ρ fr hp a.tmps w)
  (hu:C.P.underlying t=some (.slice e)) (hz:jR C.P e=some (n,by_,z)) (ke:z.cells.length=n) (hs:Qt C ρ hp w ps (a.eval s)) (hx:Qt C ρ hp w px (a.eval x))
  (hv:iO n by_ e ps px d fr hp K):o.wp C.P a w (cP C false w K) Q:=
 Q9y ho hd ar aV h hu hz ke hs hx (fun _ hn=>Zj ho hd ar aV h hu hz ke hs hx hn) hv
end Go.FW
namespace Go.FW
open Go
variable {C : Ctx} {ρ : Nat -> Option Nat} {fr : Fr} {hp : HP} {w : World} {a : Act} {K : Qg}
theorem XV {P : Program} {g : FuncId} (hg : (P.funcs[g]?).any (fun fn => fn.body.isSome && fn.name != "runtime.NumGoroutine") = true) (args : Array Value) (w : World) :
  (callFunc g args).run P w= .ok (.enter g args) w:=by
 cases hf:P.funcs[g]? with
 |none=>simp[hf]at hg
 |some fn=>
  simp only[hf,Option.any_some,Kat,bne_iff_ne,ne_eq]at hg;obtain⟨h1,h2⟩:=hg;have h3:fn.body.isNone=false:=by cases hb:fn.body<;>simp[hb]at h1⊢
  have h4 : (fn.name == "runtime.NumGoroutine") = false := by simpa using h2
  have hn:¬(fn.body=none):=fun he=>by simp[he]at h1
  unfold callFunc;simp[hf,h2,hn]
theorem ZC{o:Oper}{f:Operand}{args:Array Operand}{ts:Array TypeId}{pf:aP}{di:List aP}{pr:Bool}{Q:Exit->Act->World->Prop}
  (ho:o.op= .call { callee:=.value f,args:=args,argTypes:=ts }) (ar:∀d,o.dst=some d->d<C.N) (aV:a.defers=[]) (h:aI C ρ fr hp a.tmps w)
  (hf:b7 f=some pf) (dQ:args.toList.mapM b7=some di) (hv:mJ C pr (ev fr pf) (di.map (ev fr)) o.dst fr hp K):o.wp C.P a w (cP C pr w K) Q:=by
 have yz:=cG h hf;unfold mJ at hv;split at hv
 ·rename_i g first cap qY
  rw[qY]at yz;obtain⟨hg,ane⟩:=hv;obtain⟨fv,cv,ef,h1,h2,h3,h4⟩:=yz;obtain⟨m1,m2⟩:=HH h dQ;have aob:(args.toList.map a.eval).toArray=args.map a.eval:=Array.ext' (by simp);rw[aob]at m2;have hc:=ane ρ a.tmps w fv cv (args.map a.eval) ar h h1 h2 (by simpa using m1.symm) h3 h4 m2;have hex:(execOp a.eval o).run C.P w= .ok (.enter g (fv++args.map a.eval++cv)) w:=by unfold execOp;simp only[ho,resolve,Kao,Ka0,Kaj,ef,Deferred.ofValue,invoke];rw[XV hg]
  unfold Oper.wp;rw[hex];refine hc.mono fun e w' an=>?_;obtain⟨v,az,an,rfl,hs,hx,hK⟩:=an;refine⟨by rw[u6];exact aV,⟨az,an,?_,hK⟩,hx⟩;cases hd:o.dst with
  |some d=>rw[hd]at hs;exact hs
  |none=>rw[hd]at hs;exact hs
 ·exact hv.elim
theorem th{α:Type}{xs:Array α}{l:List α}(h:xs.toList=l):xs=l.toArray:=by subst h;simp
theorem zT{P:Program}{t e:TypeId}(h:rY P t=some e):P.underlying t=some (.slice e):=by
 unfold rY at h;split at h
 ·rename_i hq;cases h;exact hq
 ·cases h
theorem SS{dr:Bool}{o:Oper}(cy:(fS C.P dr o).cls=0)(ar:∀d,o.dst=some d->d<C.N)(h:aI C ρ fr hp a.tmps w)(hv:bp C (fS C.P dr o) fr hp K):bj C ρ o a w K:=by
 unfold fS at cy hv;cases ae:mE C.P dr o with
 |none=>rw[ae]at hv;exact hv.elim
 | some so=>
  rw[ae]at cy hv;simp only[KbT]at cy hv;unfold mE at ae;split at ae
  case h_1 x d hop hd=>simp only[Kaa]at ae;obtain⟨y,hy,rfl⟩:=ae;exact N9 (.inl hop) hd (ar d hd) h (cG h hy) hv
  case h_2 x d hop hd=>simp only[Kaa]at ae;obtain⟨y,hy,rfl⟩:=ae;exact N9 (.inr hop) hd (ar d hd) h (cG h hy) hv
  case h_3 c x y d hop hd=>
   simp only[Kab,Kaa]at ae;obtain⟨pc,hc,px,hx,py,hy,rfl⟩:=ae;exact YW hop hd (ar d hd) h (cG h hc) (cG h hx) (cG h hy) hv
  case h_4 op t x y t2 d hop hd=>
   simp only[Kab,Kaa]at ae;obtain⟨px,hx,py,hy,rfl⟩:=ae;unfold y4 at hv;split at hv
   ·rename_i ng wj;split at wj
    ·rename_i fi;exact Q9q hop wj fi hd (ar d hd) h (cG h hx) (cG h hy) hv
    ·cases wj
   split at hv
   ·rename_i ng wj;split at wj
    ·rename_i fi;exact Q9o hop wj fi hd (ar d hd) h (cG h hx) (cG h hy) hv
    ·cases wj
   refine Q9k hop hd (ar d hd) h (cG h hx) (cG h hy) (fun hb=>?_) hv;split at hb
   ·assumption
   ·cases hb
  case h_5 op t x d hop hd=>simp only[Kaa]at ae;obtain⟨y,hy,rfl⟩:=ae;exact acG hop hd (ar d hd) h (cG h hy) hv
  case h_6 s t x d hop hd=>
   split at ae
   ·rename_i ds k hS hT;simp only[Kaa]at ae;obtain⟨y,hy,rfl⟩:=ae;exact YV hop hd (ar d hd) h hS hT (cG h hy) hv
   ·cases ae
  case h_7 t x i d hop hd=>
   simp only[Kab]at ae;obtain⟨px,hx,pi,hi,ae⟩:=ae;split at ae
   ·rename_i e hu;simp only[Kaa]at ae;obtain⟨n,hn,rfl⟩:=ae;exact Q9r hop hd (ar d hd) h hu hn (cG h hx) (cG h hi) hv
   ·rename_i len e hu;simp only[Kaa]at ae;obtain⟨n,hn,rfl⟩:=ae;exact YX hop hd (ar d hd) h hu hn (cG h hx) (cG h hi) hv
   ·cases ae
  case h_8 t x i d hop hd=>
   simp only[Kab]at ae;obtain⟨px,hx,pi,hi,ae⟩:=ae;split at ae
   ·rename_i len e hu;simp only[Kab,Kaa]at ae;obtain⟨n,hn,ag,jX,rfl⟩:=ae;exact Q9u hop hd (ar d hd) h hu hn jX (cG h hx) (cG h hi) hv
   ·rename_i hu;cases ae;exact Q9t hop hd (ar d hd) h hu (cG h hx) (cG h hi) hv
   ·cases ae
  case h_9 t x j d hop hd=>
   simp only[Kab]at ae;obtain⟨px,hx,ae⟩:=ae;split at ae
   ·rename_i fs hu;simp only[Kab]at ae;obtain⟨f,hf,n,hn,ae⟩:=ae;split at ae
    ·cases ae
    ·rename_i l8;simp only[KaB]at ae;subst ae;exact Q9s hop hd (ar d hd) h hu hf hn l8 (cG h hx) hv
   ·cases ae
  case h_10 t x j d hop hd=>
   simp only[Kab]at ae;obtain⟨px,hx,ae⟩:=ae;split at ae
   ·rename_i fs hu;simp only[Kab,Kaa]at ae;obtain⟨f,hf,n,hn,ag,jX,rfl⟩:=ae;exact YY hop hd (ar d hd) h hu hf hn jX (cG h hx) hv
   ·cases ae
  case h_17 t parts d hop hd=>
   simp only[Kab,Kaa]at ae;obtain⟨⟨n,by_,z⟩,hz,ps,fZ,rfl⟩:=ae;simp only[bp,kD]at hv;split at hv
   ·exact Za hop hd (ar d hd) h hz fZ hv
   ·exact Q9v hop hd (ar d hd) h hz fZ hv
  case h_18 t x lo hi m d hop hd=>
   simp only[Kab,Kaa]at ae;obtain⟨px,hx,FD,oZ,BS,uq,pm,hm,e,he,n,hn,rfl⟩:=ae;have hu:C.P.underlying t=some (.slice e):=by
    unfold rY at he;split at he
    ·rename_i hq;cases he;exact hq
    ·cases he
   exact acK hop hd (ar d hd) h hu hn (cG h hx) oZ uq hm hv
  case h_19 x i d hop hd=>simp only[Kaa]at ae;obtain⟨y,hy,rfl⟩:=ae;exact Q9p hop hd (ar d hd) h (cG h hy) hv
  case h_20 f first cap d hop hd=>
   simp only[Kab,Kaa]at ae;obtain⟨pf,h1,pc,h2,rfl⟩:=ae;exact acL hop hd (ar d hd) h h1 h2 hv
  case h_11=>simp only[Kab,Kaa]at ae;obtain⟨_,_,_,_,_,_,rfl⟩:=ae;cases cy
  case h_12=>simp only[Kab,Kaa]at ae;obtain⟨_,_,_,_,_,_,rfl⟩:=ae;cases cy
  case h_13=>simp only[Kab,Kaa]at ae;obtain⟨_,_,_,_,rfl⟩:=ae;cases cy
  case h_14=>simp only[Kaa]at ae;obtain⟨_,_,rfl⟩:=ae;cases cy
  case h_15=>simp only[Kab,Kaa]at ae;obtain⟨_,_,_,_,_,_,_,_,rfl⟩:=ae;cases cy
  case h_16=>
   simp only[Kab]at ae;obtain⟨_,_,_,_,ae⟩:=ae;split at ae
   ·simp only[Kaa]at ae;obtain⟨_,_,rfl⟩:=ae;cases cy
   ·cases ae
  case h_21 hop=>simp only[Kaa]at ae;obtain⟨y,hy,rfl⟩:=ae;exact YZ hop ar h (cG h hy) hv
  case h_22 c hop=>
   obtain⟨callee,args,ts⟩:=c;split at ae
   ·simp only[Kab,Kaa]at ae;obtain⟨_,_,_,_,rfl⟩:=ae;cases cy
   ·rename_i x t d pS dQ lA hd;obtain rfl:args= #[x]:=th dQ;obtain rfl:ts= #[t]:=th lA;cases pS;split at ae
    ·rename_i hs;simp only[Kaa]at ae;obtain⟨y,hy,rfl⟩:=ae;exact Q9n hop hd (ar d hd) h (cG h hy) hs hv
    simp only[Kab,Kaa]at ae;obtain⟨e,he,y,hy,rfl⟩:=ae;exact Q9m hop hd (ar d hd) h (cG h hy) (zT he) hv
   ·rename_i x y d pS dQ hd;simp only[Kab,Kaa]at ae;obtain⟨px,hx,py,hy,rfl⟩:=ae;obtain rfl:args= #[x,y]:=th dQ;cases pS;exact acE hop hd (ar d hd) h (cG h hx) (cG h hy) hv
   ·rename_i x y d pS dQ hd;simp only[Kab,Kaa]at ae;obtain⟨px,hx,py,hy,rfl⟩:=ae;obtain rfl:args= #[x,y]:=th dQ;cases pS;exact acF hop hd (ar d hd) h (cG h hx) (cG h hy) hv
   ·simp only[Kab]at ae;obtain⟨_,_,_,_,_,_,ae⟩:=ae;split at ae
    ·simp only[Kab]at ae;obtain⟨_,_,ae⟩:=ae;split at ae
     ·cases ae;cases cy
     ·cases ae
    ·cases ae
   ·simp only[Kab]at ae;obtain⟨_,_,_,_,_,_,ae⟩:=ae;split at ae
    ·simp only[Kaa]at ae;obtain⟨_,_,rfl⟩:=ae;cases cy
    ·cases ae
   ·cases ae
  case h_23=>cases ae
theorem SU{dr:Bool}{o:Oper}(cy:(fS C.P dr o).cls=1)(ar:∀d,o.dst=some d->d<C.N)(h:aI C ρ fr hp a.tmps w)(hv:bp C (fS C.P dr o) fr hp K):Aq C ρ o a w K:=by
 unfold fS at cy hv;cases ae:mE C.P dr o with
 |none=>rw[ae]at hv;exact hv.elim
 | some so=>
  rw[ae]at cy hv;simp only[KbT]at cy hv;unfold mE at ae;split at ae
  case h_11 t x d hop hd=>
   simp only[Kab,Kaa]at ae;obtain⟨px,hx,n,hn,ag,jX,rfl⟩:=ae;exact acJ hop hd (ar d hd) h hn jX (cG h hx) hv
  case h_1=>simp only[Kaa]at ae;obtain⟨_,_,rfl⟩:=ae;cases cy
  case h_2=>simp only[Kaa]at ae;obtain⟨_,_,rfl⟩:=ae;cases cy
  case h_3=>simp only[Kab,Kaa]at ae;obtain⟨_,_,_,_,_,_,rfl⟩:=ae;cases cy
  case h_4=>simp only[Kab,Kaa]at ae;obtain⟨_,_,_,_,rfl⟩:=ae;unfold y4 at cy;split at cy<;>first|(cases cy;done)|(split at cy<;>cases cy)
  case h_5=>simp only[Kaa]at ae;obtain⟨_,_,rfl⟩:=ae;cases cy
  case h_6=>split at ae<;>first|cases ae|(simp only[Kaa]at ae;obtain⟨_,_,rfl⟩:=ae;cases cy)
  case h_7=>
   simp only[Kab]at ae;obtain⟨_,_,_,_,ae⟩:=ae;split at ae<;>first|cases ae|(simp only[Kaa]at ae;obtain⟨_,_,rfl⟩:=ae;cases cy)
  case h_8=>
   simp only[Kab]at ae;obtain⟨_,_,_,_,ae⟩:=ae;split at ae<;>first|(simp only[Kab,Kaa]at ae;obtain⟨_,_,_,_,rfl⟩:=ae;cases cy)|(cases ae;done)|(cases ae;cases cy)
  case h_9=>
   simp only[Kab]at ae;obtain⟨_,_,ae⟩:=ae;split at ae
   ·simp only[Kab]at ae;obtain⟨_,_,_,_,ae⟩:=ae;split at ae<;>first|(cases ae;done)|(simp only[KaB]at ae;subst ae;cases cy)
   ·cases ae
  case h_10=>
   simp only[Kab]at ae;obtain⟨_,_,ae⟩:=ae;split at ae<;>first|(cases ae;done)|(simp only[Kab,Kaa]at ae;obtain⟨_,_,_,_,_,_,rfl⟩:=ae;cases cy)
  case h_12=>simp only[Kab,Kaa]at ae;obtain⟨_,_,_,_,_,_,rfl⟩:=ae;cases cy
  case h_13=>simp only[Kab,Kaa]at ae;obtain⟨_,_,_,_,rfl⟩:=ae;cases cy
  case h_14=>simp only[Kaa]at ae;obtain⟨_,_,rfl⟩:=ae;cases cy
  case h_15=>simp only[Kab,Kaa]at ae;obtain⟨_,_,_,_,_,_,_,_,rfl⟩:=ae;cases cy
  case h_16=>
   simp only[Kab]at ae;obtain⟨_,_,_,_,ae⟩:=ae;split at ae
   ·simp only[Kaa]at ae;obtain⟨_,_,rfl⟩:=ae;cases cy
   ·cases ae
  case h_17=>simp only[Kab,Kaa]at ae;obtain⟨_,_,_,_,rfl⟩:=ae;cases cy
  case h_18=>simp only[Kab,Kaa]at ae;obtain⟨_,_,_,_,_,_,_,_,_,_,_,_,rfl⟩:=ae;cases cy
  case h_19=>simp only[Kaa]at ae;obtain⟨_,_,rfl⟩:=ae;cases cy
  case h_20=>simp only[Kab,Kaa]at ae;obtain⟨_,_,_,_,rfl⟩:=ae;cases cy
  case h_21=>simp only[Kaa]at ae;obtain⟨_,_,rfl⟩:=ae;cases cy
  case h_22=>
   split at ae
   ·simp only[Kab,Kaa]at ae;obtain⟨_,_,_,_,rfl⟩:=ae;cases cy
   ·split at ae
    ·simp only[Kaa]at ae;obtain⟨_,_,rfl⟩:=ae;cases cy
    ·simp only[Kab,Kaa]at ae;obtain⟨_,_,_,_,rfl⟩:=ae;cases cy
   ·simp only[Kab,Kaa]at ae;obtain⟨_,_,_,_,rfl⟩:=ae;cases cy
   ·simp only[Kab,Kaa]at ae;obtain⟨_,_,_,_,rfl⟩:=ae;cases cy
   ·simp only[Kab]at ae;obtain⟨_,_,_,_,_,_,ae⟩:=ae;split at ae
    ·simp only[Kab]at ae;obtain⟨_,_,ae⟩:=ae;split at ae
     ·cases ae;cases cy
     ·cases ae
    ·cases ae
   ·simp only[Kab]at ae;obtain⟨_,_,_,_,_,_,ae⟩:=ae;split at ae
    ·simp only[Kaa]at ae;obtain⟨_,_,rfl⟩:=ae;cases cy
    ·cases ae
   ·cases ae
  case h_23=>cases ae
theorem bj.wp{o:Oper}{two:Bool}{Q:Exit->Act->World->Prop}(aV:a.defers=[])(h:bj C ρ o a w K):o.wp C.P a w (cP C two w K) Q:=by obtain⟨v,hr,az,an,hs,hK⟩:=h;exact jy (hr w) ⟨by rw[u6];exact aV,⟨az,an,⟨ρ,hs⟩,hK⟩,fun _=>Ext.refl _ _⟩
theorem Aq.wp{o:Oper}{two:Bool}{Q:Exit->Act->World->Prop}(aV:a.defers=[])(h:Aq C ρ o a w K):o.wp C.P a w (cP C two w K) Q:=by obtain⟨v,b,_,hr,az,an,hs,hK⟩:=h;exact jy (hr w rfl) ⟨by rw[u6];exact aV,⟨az,an,⟨ρ,hs⟩,hK⟩,fun _=>Ext.refl _ _⟩
theorem cP.mono{two Xm:Bool}{a':Act}{w':World}(h2:Xm=true->two=true)(h:cP C two w K a' w'):cP C Xm w K a' w':=⟨h.1,h.2.1,fun hh=>h.2.2 (h2 hh)⟩
theorem acn{dr:Bool}{o:Oper}{Q:Exit->Act->World->Prop}(ar:∀d,o.dst=some d->d<C.N)(aV:a.defers=[])(h:aI C ρ fr hp a.tmps w)(hv:bp C (fS C.P dr o) fr hp K):
  o.wp C.P a w (cP C (!(fS C.P dr o).iR) w K) Q:=by
 by_cases h0:(fS C.P dr o).cls=0
 ·exact(SS h0 ar h hv).wp aV
 by_cases h1:(fS C.P dr o).cls=1
 ·exact(SU h1 ar h hv).wp aV
 unfold fS at h0 h1 hv⊢;cases ae:mE C.P dr o with
 |none=>rw[ae]at hv;exact hv.elim
 | some so=>
  rw[ae]at h0 h1 hv;simp only[KbT]at h0 h1 hv⊢;have fin:∀ {two:Bool},(so.iR=false->two=true)->o.wp C.P a w (cP C two w K) Q->o.wp C.P a w (cP C (!so.iR) w K) Q:=fun h2 hw=>
   Oper.wp_mono (fun a' w' hA=>hA.mono (fun hh=>h2 (by simpa using hh))) hw
  unfold mE at ae;split at ae
  case h_12 t x y hop hd=>
   simp only[Kab,Kaa]at ae;obtain⟨px,hx,py,hy,n,hn,rfl⟩:=ae;exact fin (by simp[cB.iR]) (acm hop hd aV h hn (cG h hx) (cG h hy) hv)
  case h_13 t x d hop hd=>
   simp only[Kab,Kaa]at ae;obtain⟨px,hx,n,hn,rfl⟩:=ae;exact fin (fun _=>rfl) (Ze hop hd (ar d hd) aV h (cG h hx) hv)
  case h_14 t d hop hd=>
   simp only[Kaa]at ae;obtain⟨⟨n,by_,z⟩,hz,rfl⟩:=ae;obtain⟨ti,zv,i1,i2,_,_,i5⟩:=rS hz;exact fin (fun _=>rfl) (Yt hop hd (ar d hd) aV h i1 i2 i5 hv)
  case h_15 t l c d hop hd=>
   simp only[Kab,Kaa]at ae;obtain⟨pl,hl,pc,hc,e,he,⟨n,by_,z⟩,hz,rfl⟩:=ae;exact fin (fun _=>rfl) (acN hop hd (ar d hd) aV h (zT he) hz (cG h hl) (cG h hc) hv)
  case h_16 t len parts d hop hd=>
   simp only[Kab]at ae;obtain⟨e,he,⟨n,by_,z⟩,hz,ae⟩:=ae;split at ae
   ·rename_i Bb;simp only[Kaa]at ae;obtain⟨ps,fZ,rfl⟩:=ae;exact fin (fun _=>rfl) (Q91 hop hd (ar d hd) aV h (zT he) hz Bb.1 Bb.2.1 Bb.2.2 fZ hv)
   ·cases ae
  case h_22 c hop=>
   obtain⟨callee,args,ts⟩:=c;split at ae
   ·rename_i f pS;simp only[Kab,Kaa]at ae;obtain⟨pf,hf,di,dQ,rfl⟩:=ae;cases pS;exact fin (two:=dr&& !P8 C.P pf) (fun hh=>by simpa[cB.iR]using hh) (ZC hop ar aV h hf dQ hv)
   ·split at ae
    ·simp only[Kaa]at ae;obtain⟨_,_,rfl⟩:=ae;exact absurd rfl h0
    ·simp only[Kab,Kaa]at ae;obtain⟨_,_,_,_,rfl⟩:=ae;exact absurd rfl h0
   ·simp only[Kab,Kaa]at ae;obtain⟨_,_,_,_,rfl⟩:=ae;exact absurd rfl h0
   ·simp only[Kab,Kaa]at ae;obtain⟨_,_,_,_,rfl⟩:=ae;exact absurd rfl h0
   ·rename_i s x t u d pS dQ lA hd;simp only[Kab]at ae;obtain⟨ps,hs,px,hx,e,he,ae⟩:=ae;split at ae
    ·rename_i MZ;subst MZ;simp only[Kab]at ae;obtain⟨⟨n,by_,z⟩,hz,ae⟩:=ae;split at ae
     ·rename_i ke;simp only[KaB]at ae;subst ae;obtain rfl:args= #[s,x]:=th dQ;obtain rfl:ts= #[t,t]:=th lA;cases pS;exact fin (by simp[cB.iR]) (Zp hop hd (ar d hd) aV h (zT he) hz ke (cG h hs) (cG h hx) hv)
     ·cases ae
    ·cases ae
   ·rename_i s x t u d pS dQ lA hd;simp only[Kab]at ae;obtain⟨ps,hs,px,hx,e,he,ae⟩:=ae;split at ae
    ·rename_i MZ;subst MZ;simp only[Kaa]at ae;obtain⟨n,hn,rfl⟩:=ae;obtain rfl:args= #[s,x]:=th dQ;obtain rfl:ts= #[t,t]:=th lA;cases pS;exact fin (by simp[cB.iR]) (Q9z hop hd (ar d hd) aV h (zT he) hn (cG h hs) (cG h hx) hv)
    ·cases ae
   ·cases ae
  all_goals exfalso
  case h_1=>simp only[Kaa]at ae;obtain⟨_,_,rfl⟩:=ae;exact h0 rfl
  case h_2=>simp only[Kaa]at ae;obtain⟨_,_,rfl⟩:=ae;exact h0 rfl
  case h_3=>simp only[Kab,Kaa]at ae;obtain⟨_,_,_,_,_,_,rfl⟩:=ae;exact h0 rfl
  case h_4=>simp only[Kab,Kaa]at ae;obtain⟨_,_,_,_,rfl⟩:=ae;exact h0 (by unfold y4;split<;>first|rfl|(split<;>rfl))
  case h_5=>simp only[Kaa]at ae;obtain⟨_,_,rfl⟩:=ae;exact h0 rfl
  case h_6=>split at ae<;>first|(cases ae;done)|(simp only[Kaa]at ae;obtain⟨_,_,rfl⟩:=ae;exact h0 rfl)
  case h_7=>
   simp only[Kab]at ae;obtain⟨_,_,_,_,ae⟩:=ae;split at ae<;>first|(cases ae;done)|(simp only[Kaa]at ae;obtain⟨_,_,rfl⟩:=ae;exact h0 rfl)
  case h_8=>
   simp only[Kab]at ae;obtain⟨_,_,_,_,ae⟩:=ae;split at ae<;>first|(cases ae;done)|(simp only[Kab,Kaa]at ae;obtain⟨_,_,_,_,rfl⟩:=ae;exact h0 rfl)|(cases ae;exact h0 rfl)
  case h_9=>
   simp only[Kab]at ae;obtain⟨_,_,ae⟩:=ae;split at ae
   ·simp only[Kab]at ae;obtain⟨_,_,_,_,ae⟩:=ae;split at ae<;>first|(cases ae;done)|(simp only[KaB]at ae;subst ae;exact h0 rfl)
   ·cases ae
  case h_10=>
   simp only[Kab]at ae;obtain⟨_,_,ae⟩:=ae;split at ae<;>first|(cases ae;done)|(simp only[Kab,Kaa]at ae;obtain⟨_,_,_,_,_,_,rfl⟩:=ae;exact h0 rfl)
  case h_11=>simp only[Kab,Kaa]at ae;obtain⟨_,_,_,_,_,_,rfl⟩:=ae;exact h1 rfl
  case h_17=>simp only[Kab,Kaa]at ae;obtain⟨_,_,_,_,rfl⟩:=ae;exact h0 rfl
  case h_18=>simp only[Kab,Kaa]at ae;obtain⟨_,_,_,_,_,_,_,_,_,_,_,_,rfl⟩:=ae;exact h0 rfl
  case h_19=>simp only[Kaa]at ae;obtain⟨_,_,rfl⟩:=ae;exact h0 rfl
  case h_20=>simp only[Kab,Kaa]at ae;obtain⟨_,_,_,_,rfl⟩:=ae;exact h0 rfl
  case h_21=>simp only[Kaa]at ae;obtain⟨_,_,rfl⟩:=ae;exact h0 rfl
  case h_23=>cases ae
end Go.FW
namespace Go.FW
open Go
variable {C : Ctx} {ρ : Nat -> Option Nat} {fr : Fr} {hp : HP} {w : World} {a : Act} {K : Qg}
theorem aco(h:aI C ρ fr hp a.tmps w){s:Nat}(hs:s<C.N):a.tmps[s]? =some (a.tmps.getD s undef):=by
 have:s<a.tmps.size:=by rw[h.sz];exact hs
 simp[Array.getD,this]
theorem Sj{dr:Bool}{ops:Array Oper}{o:Oper}{g:uN}(h:aI C ρ fr hp a.tmps w)(hc:rP C.P C.N dr ops o=some g)(hv:oN C g.g g.o fr hp K):
  (∀d,o.dst=some d->d<C.N)/\g.o=fS C.P dr o/\
  ((Region.wanted o (yielded ops a.tmps)=true/\bp C g.o fr hp K)∨(Region.wanted o (yielded ops a.tmps)=false/\jB g.o fr hp K)):=by
 unfold rP at hc;split at hc
 ·rename_i cw;have ar:∀d,o.dst=some d->d<C.N:=fun d hd=>by rw[hd]at cw;simpa using cw
  cases hg:o.guard with
  |none=>rw[hg]at hc;cases hc;exact⟨ar,rfl,.inl ⟨by simp[Region.wanted,hg],hv⟩⟩
  | some jw=>
   obtain⟨j,want⟩:=jw;rw[hg]at hc;simp only at hc;split at hc
   ·rename_i s hs;split at hc
    ·rename_i hsN;cases hc;refine⟨ar,rfl,?_⟩;have ht:=aco h hsN;have hr:=h.eZ s;simp only[oN]at hv;split at hv
     ·rename_i t ot;rw[ot]at hr;have hb:=hr.ye;have hy:yielded ops a.tmps j=some t:=by simp only[yielded,hs,Kdb,ht,hb]
      have wy:∀b,t=b->af fr s (.bool b)=fr:=fun b ax=>by
       funext i;unfold af;split
       ·rename_i hi;subst hi;subst ax;exact ot.symm
       ·rfl
      by_cases hw:t=want
      ·refine .inl ⟨by simp[Region.wanted,hg,hy,hw],?_⟩;have:=hv.1 hw
       rwa[wy want hw]at this
      ·have ru:t= !want:=by cases t<;>cases want<;>simp_all
       refine .inr ⟨by simp[Region.wanted,hg,hy,hw],?_⟩;have:=hv.2 ru
       rwa[wy _ ru]at this
     ·rename_i ot;rw[ot]at hr;obtain⟨vs,ev,fR,_⟩:=hr;have BB:vs= #[]:=Kcw (by simpa using fR);have hy:yielded ops a.tmps j=none:=by simp only[yielded,hs,Kdb,ht,ev]
      exact .inr ⟨by simp[Region.wanted,hg,hy],hv⟩
     ·exact hv.elim
    ·cases hc
   ·cases hc
 ·cases hc
theorem P6{dr:Bool}{o:Oper}:(fS C.P dr o).dst=o.dst:=by
 unfold fS;cases ae:mE C.P dr o with
 |none=>rfl
 | some so=>
  simp only[KbT];unfold mE at ae;split at ae
  case h_1 hd=>simp only[Kaa]at ae;obtain⟨_,_,rfl⟩:=ae;exact hd.symm
  case h_2 hd=>simp only[Kaa]at ae;obtain⟨_,_,rfl⟩:=ae;exact hd.symm
  case h_3 hd=>simp only[Kab,Kaa]at ae;obtain⟨_,_,_,_,_,_,rfl⟩:=ae;exact hd.symm
  case h_4 hd=>simp only[Kab,Kaa]at ae;obtain⟨_,_,_,_,rfl⟩:=ae;unfold y4;split<;>first|exact hd.symm|(split<;>exact hd.symm)
  case h_5 hd=>simp only[Kaa]at ae;obtain⟨_,_,rfl⟩:=ae;exact hd.symm
  case h_6 hd=>split at ae<;>first|(cases ae;done)|(simp only[Kaa]at ae;obtain⟨_,_,rfl⟩:=ae;exact hd.symm)
  case h_7 hd=>
   simp only[Kab]at ae;obtain⟨_,_,_,_,ae⟩:=ae;split at ae<;>first|(cases ae;done)|(simp only[Kaa]at ae;obtain⟨_,_,rfl⟩:=ae;exact hd.symm)
  case h_8 hd=>
   simp only[Kab]at ae;obtain⟨_,_,_,_,ae⟩:=ae;split at ae<;>first|(cases ae;done)|(simp only[Kab,Kaa]at ae;obtain⟨_,_,_,_,rfl⟩:=ae;exact hd.symm)|(cases ae;exact hd.symm)
  case h_9 hd=>
   simp only[Kab]at ae;obtain⟨_,_,ae⟩:=ae;split at ae
   ·simp only[Kab]at ae;obtain⟨_,_,_,_,ae⟩:=ae;split at ae<;>first|(cases ae;done)|(simp only[KaB]at ae;subst ae;exact hd.symm)
   ·cases ae
  case h_10 hd=>
   simp only[Kab]at ae;obtain⟨_,_,ae⟩:=ae;split at ae<;>first|(cases ae;done)|(simp only[Kab,Kaa]at ae;obtain⟨_,_,_,_,_,_,rfl⟩:=ae;exact hd.symm)
  case h_11 hd=>simp only[Kab,Kaa]at ae;obtain⟨_,_,_,_,_,_,rfl⟩:=ae;exact hd.symm
  case h_12 hd=>simp only[Kab,Kaa]at ae;obtain⟨_,_,_,_,_,_,rfl⟩:=ae;exact hd.symm
  case h_13 hd=>simp only[Kab,Kaa]at ae;obtain⟨_,_,_,_,rfl⟩:=ae;exact hd.symm
  case h_14 hd=>simp only[Kaa]at ae;obtain⟨_,_,rfl⟩:=ae;exact hd.symm
  case h_15 hd=>simp only[Kab,Kaa]at ae;obtain⟨_,_,_,_,_,_,_,_,rfl⟩:=ae;exact hd.symm
  case h_16 hd=>
   simp only[Kab]at ae;obtain⟨_,_,_,_,ae⟩:=ae;split at ae
   ·simp only[Kaa]at ae;obtain⟨_,_,rfl⟩:=ae;exact hd.symm
   ·cases ae
  case h_17 hd=>simp only[Kab,Kaa]at ae;obtain⟨_,_,_,_,rfl⟩:=ae;exact hd.symm
  case h_18 hd=>simp only[Kab,Kaa]at ae;obtain⟨_,_,_,_,_,_,_,_,_,_,_,_,rfl⟩:=ae;exact hd.symm
  case h_19 hd=>simp only[Kaa]at ae;obtain⟨_,_,rfl⟩:=ae;exact hd.symm
  case h_20 hd=>simp only[Kab,Kaa]at ae;obtain⟨_,_,_,_,rfl⟩:=ae;exact hd.symm
  case h_21=>simp only[Kaa]at ae;obtain⟨_,_,rfl⟩:=ae;rfl
  case h_22=>
   split at ae
   ·simp only[Kab,Kaa]at ae;obtain⟨_,_,_,_,rfl⟩:=ae;rfl
   ·rename_i hd;split at ae
    ·simp only[Kaa]at ae;obtain⟨_,_,rfl⟩:=ae;exact hd.symm
    ·simp only[Kab,Kaa]at ae;obtain⟨_,_,_,_,rfl⟩:=ae;exact hd.symm
   ·rename_i hd;simp only[Kab,Kaa]at ae;obtain⟨_,_,_,_,rfl⟩:=ae;exact hd.symm
   ·rename_i hd;simp only[Kab,Kaa]at ae;obtain⟨_,_,_,_,rfl⟩:=ae;exact hd.symm
   ·rename_i hd;simp only[Kab]at ae;obtain⟨_,_,_,_,_,_,ae⟩:=ae;split at ae
    ·simp only[Kab]at ae;obtain⟨_,_,ae⟩:=ae;split at ae
     ·cases ae;exact hd.symm
     ·cases ae
    ·cases ae
   ·rename_i hd;simp only[Kab]at ae;obtain⟨_,_,_,_,_,_,ae⟩:=ae;split at ae
    ·simp only[Kaa]at ae;obtain⟨_,_,rfl⟩:=ae;exact hd.symm
    ·cases ae
   ·cases ae
  case h_23=>cases ae
theorem ZD{dr two:Bool}{o:Oper}(ar:∀d,o.dst=some d->d<C.N)(aV:a.defers=[])(h:aI C ρ fr hp a.tmps w)(hv:jB (fS C.P dr o) fr hp K):cP C two w K (a.put o.dst undef) w:=by
 unfold jB at hv;rw[P6]at hv;cases hd:o.dst with
 |some d=>rw[hd]at hv;exact⟨aV,⟨_,hp,⟨ρ,h.af Qt.Xk (ar d hd)⟩,hv⟩,fun _=>Ext.refl _ _⟩
 |none=>rw[hd]at hv;exact⟨aV,⟨fr,hp,⟨ρ,h⟩,hv⟩,fun _=>Ext.refl _ _⟩
theorem SV{dr:Bool}{ops:Array Oper}{i:Nat}{o:Oper}{g:uN}{Q:Exit->Act->World->Prop}(hi:ops[i]? =some o)(aV:a.defers=[])(h:aI C ρ fr hp a.tmps w)(hc:rP C.P C.N dr ops o=some g)(hv:oN C g.g g.o fr hp K):
  wpOp C.P ops Q i (cP C (!(fS C.P dr o).iR) w K) a w:=by
 obtain⟨ar,l6,A'⟩:=Sj h hc hv;rw[l6]at A';unfold wpOp;simp only[hi];rcases A' with⟨hw,hv⟩|⟨hw,hv⟩
 ·rw[if_pos hw];exact .inl (acn ar aV h hv)
 ·rw[hw];simp only[KaK,if_false];exact ZD ar aV h hv
def Ch(C:Ctx)(K:Qg)(Q:Exit->Act->World->Prop):Prop:=∀fr hp (a:Act) w,a.defers=[]->fa C fr hp a.tmps w->K fr hp->Q .normal a w
theorem Ar{C:Ctx}{R:Qg}{sk:List It}{fr:Fr}{hp:HP}:vc C R (.o .nil::sk) fr hp=vc C R sk fr hp:=by rw[vc]
theorem Aw{C:Ctx}{R:Qg}{sk:List It}{g:Option (Nat×Bool)}{o:cB}{r:RT}{fr:Fr}{hp:HP}:vc C R (.o (.o g o r)::sk) fr hp=oN C g o fr hp (vc C R (.o r::sk)):=by rw[vc]
theorem Rp{C:Ctx}{R:Qg}{sk:List It}{x y:RT}{fr:Fr}{hp:HP}:vc C R (.o (.br x y)::sk) fr hp=(vc C R (.o x::sk) fr hp/\vc C R (.o y::sk) fr hp):=by rw[vc]
theorem Eg{C:Ctx}{R:Qg}{sk:List It}{r:RT}{fr:Fr}{hp:HP}:vc C R (.o (.wk r)::sk) fr hp=∃bG aF,Wk fr hp bG aF/\vc C R (.o r::sk) bG aF:=by rw[vc]
theorem xE{C:Ctx}{R:Qg}{sk:List It}{tmps:Array Value}{w:World}:∀(r:RT)(fr:Fr)(hp:HP),fa C fr hp tmps w->vc C R (.o r::sk) fr hp->
  ∃r' az an,r'.strip=r.strip/\(∀x,r'≠ .wk x)/\fa C az an tmps w/\vc C R (.o r'::sk) az an:=by
 intro r;induction r with
 |wk r ih=>intro fr hp hs hv;rw[Eg]at hv;obtain⟨bG,aF,hw,hv⟩:=hv;exact ih bG aF (hw _ _ _ hs) hv
 |nil=>exact fun fr hp hs hv=>⟨_,fr,hp,rfl,(fun x h=>by cases h),hs,hv⟩
 |o=>exact fun fr hp hs hv=>⟨_,fr,hp,rfl,(fun x h=>by cases h),hs,hv⟩
 |br=>exact fun fr hp hs hv=>⟨_,fr,hp,rfl,(fun x h=>by cases h),hs,hv⟩
theorem Ue{r:RT}(h:r.strip= .nil)(hn:∀x,r≠ .wk x):r= .nil:=by
 cases r with
 |nil=>rfl
 |wk x=>exact absurd rfl (hn x)
 |_=>simp[RT.strip]at h
theorem Il{r s:RT}{g:Option (Nat×Bool)}{o:cB}(h:r.strip= .o g o s)(hn:∀x,r≠ .wk x):∃r',r= .o g o r'/\r'.strip=s:=by
 cases r with
 |o g' o' r'=>simp only[RT.strip,RT.o.injEq]at h;obtain⟨rfl,rfl,h⟩:=h;exact⟨r',rfl,h⟩
 |wk x=>exact absurd rfl (hn x)
 |_=>simp[RT.strip]at h
theorem acp{r a b:RT}(h:r.strip= .br a b)(hn:∀x,r≠ .wk x):∃a' b',r= .br a' b'/\a'.strip=a/\b'.strip=b:=by
 cases r with
 |br a' b'=>simp only[RT.strip,RT.br.injEq]at h;exact⟨a',b',rfl,h.1,h.2⟩
 |wk x=>exact absurd rfl (hn x)
 |_=>simp[RT.strip]at h
theorem SW{R:Qg}{sk:List It}{ops:Array Oper}{Q:Exit->Act->World->Prop}(hQ:Ch C (vc C R sk) Q):∀(gs:List uN)(is:List Nat)(r:RT)(fr:Fr)(hp:HP)(a:Act)(w:World),
  is.length=gs.length->(∀(k i:Nat)(g:uN),is[k]? =some i->gs[k]? =some g->∃o,ops[i]? =some o/\rP C.P C.N false ops o=some g)->
  a.defers=[]->fa C fr hp a.tmps w->r.strip=xR gs->vc C R (.o r::sk) fr hp->wpOps C.P ops Q is a w
 | [],[],r,fr,hp,a,w,_,_,aV,hs,hr,hv=>by obtain⟨r',az,an,h1,h2,hs,hv⟩:=xE r fr hp hs hv;obtain rfl:=Ue (h1.trans hr) h2;rw[Ar]at hv;exact hQ az an a w aV hs hv
 | [],i::is,_,_,_,_,_,hl,_,_,_,_,_=>by simp at hl
 |g::gs,[],_,_,_,_,_,hl,_,_,_,_,_=>by simp at hl
 |g::gs,i::is,r,fr,hp,a,w,hl,hc,aV,hs,hr,hv=>by obtain⟨o,ho,ae⟩:=hc 0 i g rfl rfl;obtain⟨r',az,an,h1,h2,⟨ρ,hs⟩,hv⟩:=xE r fr hp hs hv;obtain⟨r2,rfl,ox⟩:=Il (h1.trans hr) h2;rw[Aw]at hv;rw[wpOps_cons];refine wpOp_mono (fun a' w' hA=>?_) (SV ho aV hs ae hv);obtain⟨vZ,⟨az,an,en,oA⟩,_⟩:=hA;exact SW hQ gs is r2 az an a' w' (by simpa using hl) (fun k j g' h1 h2=>hc (k+1) j g' (by simpa using h1) (by simpa using h2)) vZ en ox oA
end Go.FW
