/- Part 1 of the proof of SquaresQuadratics: FwA, FwB, FwC, FwD, FwE, FwF, FwG, FwH, FwI, FwJ, FwK, FwL, FwLN, FwM, FwN, FwO. Own lemmas; no conditions. -/
import Derived.Test.YtkoclfmjlolkhaaGreatSquaresQuadraticsPart0
import Derived.WalkKit
import Derived.Orders
import Derived.Laws.StructEq
import Derived.Deep.RegionHeld3
set_option maxHeartbeats 1000000
set_option linter.unusedSimpArgs false
set_option linter.unusedVariables false
set_option linter.unnecessarySimpa false
set_option maxRecDepth 100000
namespace Go.FW
open Go
inductive PV where
 |undef
 |int (k:IntKind) (n:Int)
 |bool (b:Bool)
 |au
 |sl (e:Nat) (xs:List PV)
 |agg (cs:List PV)
 |aH (vs:List PV)
 |fn (f:FuncId) (first cap:List PV)
 |pt (cs:List PV)
 |mp (β i o:Nat)
 |aB (β o n:Nat)
 |rb (β o n:Nat)
 |aI (γ o n:Nat)
 |np (γ i o:Nat)
 |bo (cs:List PV)
 |dX (cs:List PV)
 |aC (γ e ty:Nat) (xs:List PV)
 |str (s:ByteArray)
 deriving Inhabited
abbrev PV.ms(β n:Nat):PV:=.aB β 0 n
def PV.cells:PV->List PV
 |.agg cs=>cs
 |x=>[x]
def PV.aS:PV->List PV
 |.bo cs=>cs
 |x=>x.cells
def PV.ki:PV->Bool
 |.undef=>false
 |_=>true
def PV.aN:PV->Bool
 |.int .. | .bool _| .au| .sl .. | .agg _| .pt _| .str _=>true
 |.fn _ first cap=>first.all PV.ki&&cap.all PV.ki
 |_=>false
inductive Qu(w:World)(X:Nat->Prop):PV->Value->Prop
 |int (k:IntKind) (n:Int):Qu w X (.int k n) (.int k n)
 |bool (b:Bool):Qu w X (.bool b) (.bool b)
 |str (s:ByteArray):Qu w X (.str s) (.string s)
 |au:Qu w X .au (.slice none 0 0)
 |oS (e:Nat) (a:Option Addr) (cap:Nat) (hc:cap<=maxLen):Qu w X (.sl e []) (.slice a 0 cap)
 | sl (e:Nat) (xs:List PV) (b off cap:Nat) (vs:Nat->Nat->Value) (hX:¬X b) (hb:b<w.heap.size) (hl:xs.length<=cap) (hc:cap<=maxLen)
   (he:∀(i:Nat)(x:PV),xs[i]? =some x->x.cells.length=e)
   (hv:∀i,i<xs.length->∀j,j<e->w.cell? ⟨b,off+i*e+j,none⟩=some (vs i j))
   (hr:∀(i:Nat)(x:PV),xs[i]? =some x->∀(j:Nat)(y:PV),x.cells[j]? =some y->Qu w X y (vs i j)):
   Qu w X (.sl e xs) (.slice (some ⟨b,off,none⟩) xs.length cap)
 | pt (cs:List PV) (b off:Nat) (vs:Nat->Value) (hX:¬X b) (hb:b<w.heap.size)
   (hv:∀j,j<cs.length->w.cell? ⟨b,off+j,none⟩=some (vs j))
   (hr:∀(j:Nat)(y:PV),cs[j]? =some y->Qu w X y (vs j)):
   Qu w X (.pt cs) (.pointer (some ⟨b,off,none⟩))
 | fn (f:FuncId) (first cap:List PV) (fv cv:Array Value) (h1:fv.size=first.length) (h2:cv.size=cap.length)
   (lR:∀(i:Nat)(x:PV),first[i]? =some x->Qu w X x (fv.getD i undef)) (iE:∀(i:Nat)(x:PV),cap[i]? =some x->Qu w X x (cv.getD i undef)):
   Qu w X (.fn f first cap) (.func (.func f) fv cv)
structure Ext(Y:Nat->Prop)(w w':World):Prop where
 os:w'.os=w.os
 tape:w'.tape=w.tape
 output:w'.output=w.output
 size:w.heap.size<=w'.heap.size
 block:∀b,b<w.heap.size->¬Y b->w'.heap[b]? =w.heap[b]?
theorem Ext.refl(Y:Nat->Prop)(w:World):Ext Y w w:=⟨rfl,rfl,rfl,Nat.le_refl _,fun _ _ _=>rfl⟩
theorem Ext.trans{Y:Nat->Prop}{a b c:World}(h:Ext Y a b)(k:Ext Y b c):Ext Y a c:=
  ⟨k.os.trans h.os,k.tape.trans h.tape,k.output.trans h.output,Nat.le_trans h.size k.size,
   fun i hi hY=>(k.block i (Nat.lt_of_lt_of_le hi h.size) hY).trans (h.block i hi hY)⟩
theorem Ext.mono{Y Y':Nat->Prop}{a b:World}(h:Ext Y a b)(hY:∀i,i<a.heap.size->Y i->Y' i):Ext Y' a b:=
 ⟨h.os,h.tape,h.output,h.size,fun i hi hn=>h.block i hi (fun hy=>hn (hY i hi hy))⟩
theorem Ext.trans'{Y Y':Nat->Prop}{a b c:World}(h:Ext Y a b)(k:Ext Y' b c)(hY:∀i,i<a.heap.size->Y' i->Y i):Ext Y a c:=
  ⟨k.os.trans h.os,k.tape.trans h.tape,k.output.trans h.output,Nat.le_trans h.size k.size,
   fun i hi hn=>(k.block i (Nat.lt_of_lt_of_le hi h.size) (fun hy=>hn (hY i hi hy))).trans (h.block i hi hn)⟩
def eP:Nat->Prop:=fun _=>False
theorem yg{w w':World}{a:Addr}(h:w'.heap[a.block]? =w.heap[a.block]?):w'.cell? a=w.cell? a:=by simp[World.cell?,h]
theorem acM{w:World}{b o:Nat}{v:Value}(h:w.cell? ⟨b,o,none⟩=some v):b<w.heap.size:=by
 rcases Nat.lt_or_ge b w.heap.size with h'|h'
 ·exact h'
 ·simp[World.cell?,Array.getElem?_eq_none h']at h
theorem Qu.mono{w w':World}{X X':Nat->Prop}{p:PV}{v:Value}(h:Qu w X p v)
  (hb:∀b,b<w.heap.size->¬X b->w'.heap[b]? =w.heap[b]?) (hx:∀b,b<w.heap.size->¬X b->¬X' b) (hs:w.heap.size<=w'.heap.size):Qu w' X' p v:=by
 induction h with
 |int k n=>exact .int k n
 |bool b=>exact .bool b
 |str s=>exact .str s
 |au=>exact .au
 |oS e a cap hc=>exact .oS e a cap hc
 | sl e xs b off cap vs hX ax hl hc he hv hr ih=>
  exact .sl e xs b off cap vs (hx b ax hX) (Nat.lt_of_lt_of_le ax hs) hl hc he
   (fun i hi j hj=>by rw[yg (hb b ax hX)];exact hv i hi j hj) (fun i x bk j y hy=>ih i x bk j y hy)
 |pt cs b off vs hX ax hv hr ih=>exact .pt cs b off vs (hx b ax hX) (Nat.lt_of_lt_of_le ax hs) (fun j hj=>by rw[yg (hb b ax hX)];exact hv j hj) (fun j y hy=>ih j y hy)
 |fn f first cap fv cv h1 h2 lR iE ih1 N8=>exact .fn f first cap fv cv h1 h2 ih1 N8
theorem Qu.uH{w:World}{X:Nat->Prop}{p:PV}{v:Value}(h:Qu w X p v):v.oneCell'=true/\v.cells= #[v]/\p.cells=[p]:=by cases h<;>exact⟨rfl,rfl,rfl⟩
def bT(w:World)(X:Nat->Prop):PV->Value->Prop
 |.agg cs,v=>∃vs:Array Value,v= .agg vs/\vs.size=cs.length/\∀i x,cs[i]? =some x->Qu w X x (vs.getD i undef)
 |p,v=>Qu w X p v
def fE(w:World)(X:Nat->Prop):PV->Value->Prop
 |.aH ps,v=>∃vs:Array Value,v= .tuple vs/\vs.size=ps.length/\∀i x,ps[i]? =some x->bT w X x (vs.getD i undef)
 |p,v=>bT w X p v
theorem bT.mono{w w':World}{X X':Nat->Prop}{p:PV}{v:Value}(h:bT w X p v)
  (hb:∀b,b<w.heap.size->¬X b->w'.heap[b]? =w.heap[b]?) (hx:∀b,b<w.heap.size->¬X b->¬X' b) (hs:w.heap.size<=w'.heap.size):bT w' X' p v:=by
 cases p with
 |agg cs=>obtain⟨vs,rfl,h1,h2⟩:=h;exact⟨vs,rfl,h1,fun i x hi=>(h2 i x hi).mono hb hx hs⟩
 |_=>exact Qu.mono h hb hx hs
theorem fE.mono{w w':World}{X X':Nat->Prop}{p:PV}{v:Value}(h:fE w X p v)
  (hb:∀b,b<w.heap.size->¬X b->w'.heap[b]? =w.heap[b]?) (hx:∀b,b<w.heap.size->¬X b->¬X' b) (hs:w.heap.size<=w'.heap.size):fE w' X' p v:=by
 cases p with
 |aH ps=>obtain⟨vs,rfl,h1,h2⟩:=h;exact⟨vs,rfl,h1,fun i x hi=>(h2 i x hi).mono hb hx hs⟩
 |agg cs=>exact bT.mono (p:=.agg cs) h hb hx hs
 |_=>exact Qu.mono h hb hx hs
theorem fE.ZV{w:World}{X:Nat->Prop}{p:PV}{v:Value}(h:bT w X p v):fE w X p v:=by
 cases p with
 |aH ps=>cases h
 |_=>exact h
theorem bT.data{w:World}{X:Nat->Prop}{p:PV}{v:Value}(h:bT w X p v):p.aN=true:=by
 have hu:∀(x:PV)(u:Value),Qu w X x u->x.ki=true:=fun x u hx=>by cases hx<;>rfl
 have cU:∀(l:List PV)(vs:Array Value),(∀(i:Nat)(x:PV),l[i]? =some x->Qu w X x (vs.getD i undef))->l.all PV.ki=true:=fun l vs hl=>by rw[List.all_eq_true];intro x hx;obtain⟨i,hi⟩:=List.getElem?_of_mem hx;exact hu x _ (hl i x hi)
 cases p with
 |agg cs=>rfl
 |fn f first cap=>
  have h':Qu w X (.fn f first cap) v:=h;cases h' with
  |fn _ _ _ fv cv h1 h2 h3 h4=>simp[PV.aN,cU _ _ h3,cU _ _ h4]
 |_=>cases h<;>rfl
theorem bT.cells{w:World}{X:Nat->Prop}{p:PV}{v:Value}(h:bT w X p v):
  v.cells.size=p.cells.length/\∀j y,p.cells[j]? =some y->Qu w X y (v.cells.getD j undef):=by
 by_cases ha:∃cs,p= .agg cs
 ·obtain⟨cs,rfl⟩:=ha;obtain⟨vs,rfl,h1,h2⟩:=h;exact⟨h1,h2⟩
 ·have hc:Qu w X p v:=by
   cases p with
   |agg cs=>exact absurd ⟨cs,rfl⟩ ha
   |_=>exact h
  obtain⟨_,h2,h3⟩:=hc.uH;rw[h2,h3];refine⟨rfl,fun j y hy=>?_⟩
  match j,hy with
  |0,hy=>simp at hy;subst hy;exact hc
  |j+1,hy=>simp at hy
theorem bT.tB{w:World}{X:Nat->Prop}{p:PV}{v:Value}(h:Qu w X p v):bT w X p v:=by
 cases p with
 |agg cs=>cases h
 |_=>exact h
theorem bT.ZZ{w:World}{X:Nat->Prop}{p:PV}{v:Value}(h:bT w X p v):∀u∈v.cells.toList,u.oneCell'=true:=by
 intro u hu;obtain⟨h1,h2⟩:=h.cells;obtain⟨j,hj,rfl⟩:=List.getElem_of_mem hu;have et:j<v.cells.size:=by simpa using hj
 have hp:j<p.cells.length:=by omega
 have:=(h2 j p.cells[j] (List.getElem?_eq_getElem hp)).uH.1;simpa[Array.getD,et]using this
abbrev Ka0:=@List.drop_zero
abbrev Ka1:=@List.mem_cons_of_mem
abbrev Ka2:=@List.getElem?_append
abbrev Ka3:=@Sem.run_pure
abbrev Ka4:=@Nat.mul_add
abbrev Ka5:=@Rat.intCast_eq_zero_iff
abbrev Ka6:=@List.any_eq_true
abbrev Ka7:=@List.ext_getElem
abbrev Ka8:=@List.getElem_map
abbrev Ka9:=@List.map_append
abbrev KaA:=@List.drop_eq_getElem_cons
abbrev KaB:=@List.flatMap_nil
abbrev KaC:=@Bool.and_eq_true
abbrev KaD:=@List.contains_nil
abbrev KaE:=@Nat.mul_le_mul_left
abbrev KaF:=@List.length_take
abbrev KaG:=@List.mem_cons
abbrev KaH:=@Option.some.injEq
abbrev KaI:=@List.length_eq_zero_iff
abbrev KaJ:=@List.map_congr_left
abbrev KaK:=@Nat.add_mul
abbrev KaL:=@List.mem_append
abbrev KaM:=@List.getElem?_of_mem
abbrev KaN:=@List.getElem?_take_of_lt
abbrev KaO:=@List.nil_append
abbrev KaP:=@Nat.mul_comm
abbrev KaQ:=@Nat.mul_le_mul
abbrev KaR:=@Nat.pow_le_pow_right
abbrev KaS:=@Nat.mod_eq_of_lt
abbrev KaT:=@List.length_cons
abbrev KaU:=@Rat.intCast_mul
abbrev KaV:=@List.getElem_of_mem
abbrev KaW:=@List.cons_append
abbrev KaX:=@Array.getD_eq_getD_getElem?
abbrev KaY:=@Nat.add_zero
abbrev KaZ:=@Nat.le_mul_of_pos_right
abbrev Kaa:=@Option.map_eq_some_iff
abbrev Kab:=@Option.bind_eq_some_iff
abbrev Kac:=@List.take_of_length_le
abbrev Kad:=@List.getD_eq_getElem?_getD
abbrev Kae:=@Nat.le_refl
abbrev Kaf:=@List.getElem?_eq_some_iff
abbrev Kag:=@List.getElem?_eq_getElem
abbrev Kah:=@List.getElem_mem
abbrev Kai:=@List.mem_of_getElem?
abbrev Kaj:=@Nat.mul_le_mul_right
abbrev Kak:=@List.take_succ_eq_append_getElem
abbrev Kal:=@List.length_map
abbrev Kam:=@List.append_nil
abbrev Kan:=@Result.andThen_ok
abbrev Kao:=@List.drop_of_length_le
abbrev Kap:=@Nat.le_trans
abbrev Kaq:=@List.mem_map
abbrev Kar:=@Sem.run_bind
abbrev Kas:=@List.getElem?_map
abbrev Kat:=@List.mem_flatMap
abbrev Kau:=@List.mem_singleton
abbrev Kav:=@List.flatMap_cons
abbrev Kaw:=@List.contains_cons
abbrev Kax:=@List.all_eq_true
abbrev Kay:=@List.length_append
abbrev Kaz:=@List.take_length
abbrev Kb0:=@Array.eq_empty_of_size_eq_zero
abbrev Kb1:=@Rat.inv_mul_cancel
abbrev Kb2:=@Rat.intCast_le_intCast
abbrev Kb3:=@Int.natCast_mul
abbrev Kb4:=@Nat.div_eq_of_lt
abbrev Kb5:=@List.eq_nil_of_length_eq_zero
abbrev Kb6:=@Rat.mkRat_eq_div
abbrev Kb7:=@Rat.mul_le_mul_of_nonneg_left
abbrev Kb8:=@List.getElem?_range
abbrev Kb9:=@List.size_toArray
abbrev KbA:=@Nat.sub_self
abbrev KbB:=@List.take_append_drop
abbrev KbC:=@Array.getElem?_eq_getElem
abbrev KbD:=@List.getElem?_append_left
abbrev KbE:=@List.pairwise_iff_getElem
abbrev KbF:=@List.getElem_append_left
abbrev KbG:=@Rat.mul_nonneg
abbrev KbH:=@List.map_map
abbrev KbI:=@List.mem_append_right
abbrev KbJ:=@Nat.eq_of_mul_eq_mul_right
abbrev KbK:=@Nat.mul_one
abbrev KbL:=@List.replicate_succ
abbrev KbM:=@Option.some.inj
abbrev KbN:=@Array.mapM_eq_mapM_toList
abbrev KbO:=@List.mem_of_mem_drop
abbrev KbP:=@List.headD_eq_head?_getD
abbrev KbQ:=@Nat.add_comm
abbrev KbR:=@Rat.intCast_natCast
abbrev KbS:=@List.append_cons
abbrev KbT:=@List.not_mem_nil
abbrev KbU:=@List.any_eq_false
abbrev KbV:=@Int.eq_ofNat_of_zero_le
abbrev KbW:=@Array.getElem?_eq_some_iff
abbrev KbX:=@List.getElem?_append_right
abbrev KbY:=@Option.ne_none_iff_exists'
abbrev KbZ:=@Addr.add_lit
abbrev Kba:=@List.map_cons
abbrev Kbb:=@Option.getD_some
abbrev Kbc:=@List.length_drop
abbrev Kbd:=@List.replicate_zero
abbrev Kbe:=@List.getElem?_drop
abbrev Kbf:=@List.mem_of_mem_take
abbrev Kbg:=@Nat.pos_of_ne_zero
abbrev Kbh:=@Nat.zero_add
abbrev Kbi:=@Nat.div_lt_iff_lt_mul
abbrev Kbj:=@Int.natAbs_natCast
abbrev Kbk:=@List.length_nil
abbrev Kbl:=@Nat.mul_left_comm
abbrev Kbm:=@Nat.mul_assoc
abbrev Kbn:=@List.getLast?_eq_getElem?
abbrev Kbo:=@List.mem_range
abbrev Kbp:=@Nat.add_sub_cancel_left
abbrev Kbq:=@Nat.div_add_mod
abbrev Kbr:=@Rat.div_def
abbrev Kbs:=@Bool.false_eq_true
abbrev Kbt:=@List.append_assoc
abbrev Kbu:=@List.map_nil
abbrev Kbv:=@Nat.pow_succ
abbrev Kbw:=@Nat.pow_pos
abbrev Kbx:=@Nat.mod_lt
abbrev Kby:=@Nat.lt_of_lt_of_le
abbrev Kbz:=@Nat.zero_le
abbrev Kc0:=@Nat.lt_irrefl
abbrev Kc1:=@Nat.add_mul_mod_self_right
abbrev Kc2:=@Int.fdiv_eq_ediv_of_nonneg
abbrev Kc3:=@List.getElem?_set_ne
abbrev Kc4:=@Rat.mkRat_self
abbrev Kc5:=@List.mem_or_eq_of_mem_set
abbrev Kc6:=@List.getElem_set
abbrev Kc7:=@List.length_filterMap_le
abbrev Kc8:=@Nat.pow_zero
abbrev Kc9:=@List.mem_replicate
abbrev KcA:=@Bool.true_and
abbrev KcB:=@List.filterMap_nil
abbrev KcC:=@Rat.zero_mul
abbrev KcD:=@List.mapM_cons
abbrev KcE:=@Nat.add_mul_mod_self_left
abbrev KcF:=@Nat.add_mul_div_left
abbrev KcG:=@List.replicate_succ'
abbrev KcH:=@Option.pure_def
abbrev KcI:=@Array.getElem?_setIfInBounds_ne
abbrev KcJ:=@List.head?_drop
abbrev KcK:=@Bool.not_eq_true'
abbrev KcL:=@List.eq_of_mem_replicate
abbrev KcM:=@Nat.zero_mul
abbrev KcN:=@List.mem_map_of_mem
abbrev KcO:=@List.length_eq_one_iff
abbrev KcP:=@Nat.lt_of_le_of_lt
abbrev KcQ:=@List.getLast?_cons
abbrev KcR:=@List.getElem?_take
abbrev KcS:=@Rat.sub_eq_add_neg
abbrev KcT:=@Nat.one_mul
abbrev KcU:=@List.cons.injEq
abbrev KcV:=@Nat.div_le_self
abbrev KcW:=@Nat.gcd_comm
abbrev KcX:=@Rat.mul_eq_zero
abbrev KcY:=@List.length_singleton
abbrev KcZ:=@List.sum_cons
abbrev Kca:=@Nat.succ_mul
abbrev Kcb:=@Nat.min_eq_left
abbrev Kcc:=@List.mem_filterMap
abbrev Kcd:=@Nat.mul_zero
abbrev Kce:=@Option.bind_eq_bind
abbrev Kcf:=@List.filterMap_cons
abbrev Kcg:=@List.take_zero
abbrev Kch:=@List.getElem_append_right
abbrev Kci:=@Option.map_some
abbrev Kcj:=@List.getElem?_eq_none
abbrev Kck:=@List.range_succ
abbrev Kcl:=@List.length_set
abbrev Kcm:=@Rat.one_mul
abbrev Kcn:=@List.mem_append_left
abbrev Kco:=@Nat.add_assoc
abbrev Kcp:=@Array.size_append
abbrev Kcq:=@Int.toNat_natCast
abbrev Kcr:=@List.all_eq_false
abbrev Kcs:=@List.getElem?_set
abbrev Kct:=@Bool.or_eq_true
abbrev Kcu:=@Int.mul_ne_zero
abbrev Kcv:=@Option.bind_some
abbrev Kcw:=@Nat.sub_zero
abbrev Kcx:=@Nat.add_mul_div_right
abbrev Kcy:=@List.contains_iff_mem
abbrev Kcz:=@Nat.lt_or_ge
abbrev Kda:=@Nat.gcd_zero_right
abbrev Kdb:=@Rat.intCast_add
abbrev Kdc:=@List.mem_cons_self
abbrev Kdd:=@Rat.intCast_sub
abbrev Kde:=@List.foldl_append
abbrev Kdf:=@Nat.lt_trichotomy
abbrev Kdg:=@Int.natAbs_neg
abbrev Kdh:=@Nat.gcd_dvd_left
abbrev Kdi:=@Nat.min_eq_right
abbrev Kdj:=@Nat.gcd_le_right
abbrev Kdk:=@List.drop_length
abbrev Kdl:=@Rat.mul_assoc
attribute [go_sem_proc ↓] reduceIte
inductive aX where
 |t (n:Nat)
 |c (p:PV)
 deriving Inhabited
inductive cO where
 |mv (d:Nat) (x:aX)
 |pick (d:Nat) (c a b:aX)
 |bin (d:Nat) (op:BinOp) (bt:Bool) (x y:aX)
 |eqs (d:Nat) (ng:Bool) (x y:aX)
 |cY (d:Nat) (ng:Bool) (x y:aX)
 |FA (d:Nat) (x:aX)
 |Fz (d:Nat) (x i:aX)
 |un (d:Nat) (op:UnOp) (x:aX)
 |conv (d:Nat) (k:IntKind) (x:aX)
 |len (d:Nat) (x:aX)
 |mx (d:Nat) (x y:aX)
 |mn (d:Nat) (x y:aX)
 |idx (d e:Nat) (x i:aX)
 |BV (d n e:Nat) (x i:aX)
 |BW (d n e:Nat) (ag:Bool) (x i:aX)
 |gI (d off:Nat) (x:aX)
 |Bv (d off n:Nat) (ag:Bool) (x:aX)
 |ld (d n:Nat) (ag:Bool) (x:aX)
 |st (n:Nat) (x v:aX)
 |box (d n ty:Nat) (v:aX)
 |alloc (d n ty:Nat) (z:PV)
 |mk (d e bytes ty:Nat) (z:PV) (l c:aX)
 |bs (d e ty:Nat) (parts:List aX)
 |app (d e bytes ty:Nat) (s x:aX)
 |vD (d e:Nat) (s x:aX)
 |sl (d e:Nat) (x:aX) (lo hi mx:Option aX)
 |ext (d:Nat) (x:aX) (i:Nat)
 |eB (d:Nat) (zero:List PV) (parts:List (Nat×Nat×aX))
 |fn (d f:Nat) (first cap:List aX)
 |call (d:Option Nat) (pr:Bool) (f:aX) (args:List aX)
 |Fp (d:Option Nat) (x:aX)
 |bad (d:Option Nat)
 deriving Inhabited
def cO.dst:cO->Option Nat
 |.mv d _| .pick d _ _ _| .bin d _ _ _ _| .eqs d _ _ _| .cY d _ _ _| .FA d _| .Fz d _ _| .un d _ _| .conv d _ _| .len d _| .mx d _ _| .mn d _ _| .idx d _ _ _| .BV d _ _ _ _| .BW d _ _ _ _ _| .gI d _ _| .Bv d _ _ _ _
 |.ld d _ _ _| .box d _ _ _| .alloc d _ _ _| .mk d _ _ _ _ _ _| .bs d _ _ _| .app d _ _ _ _ _| .vD d _ _ _| .sl d _ _ _ _ _| .ext d _ _| .eB d _ _| .fn d _ _ _=>some d
 |.st _ _ _=>none
 |.call d _ _ _| .Fp d _| .bad d=>d
structure yb where
 g:Option (Nat×Bool)
 o:cO
 deriving Inhabited
inductive RT where
 |nil
 |o (g:Option (Nat×Bool)) (o:cO) (r:RT)
 |br (a b:RT)
 |wk (r:RT)
 deriving Inhabited
inductive SC where
 |skip
 |rg (r:RT)
 |raw (id:Nat) (ops:Array Oper)
 |seq (a b:SC)
 |cond (c:aX) (a b:SC)
 |block (id:Nat) (a:SC)
 |loop (a:SC)
 |exit (id:Nat)
 |ret
 deriving Inhabited
def CR:Value->Option PV
 |.int k n=>some (.int k n)
 |.bool b=>some (.bool b)
 |.string s=>some (.str s)
 |.slice none 0 0=>some .au
 |_=>none
def uU:Value->Option PV
 |.agg cs=>(cs.toList.mapM CR).map .agg
 |v=>CR v
def cx:Operand->Option aX
 |.tmp t=>some (.t t)
 |.const v=>(uU v).map .c
 |.func f=>some (.c (.fn f [] []))
 |.global _=>none
def fa(P:Program)(t:TypeId):Option Nat:=(P.info? t).map (·.size)
def oz(P:Program)(t:TypeId):Option Bool:=(P.underlying t).map fun d=>match d with| .struct _| .array _ _=>true|_=>false
def ve(P:Program)(t:TypeId):Option TypeId:=match P.underlying t with|some (.slice e)=>some e|_=>none
def l9(P:Program)(t:TypeId):Option (Nat×Nat×PV):=(P.info? t).bind fun i=>i.zero.bind fun z=>(uU z).map fun p=>(i.size,i.bytes,p)
def qB:Option Operand->Option (Option aX)
 |none=>some none
 |some x=>(cx x).map some
def DA(P:Program)(t:TypeId)(parts:List (Nat×Operand)):Option (List (Nat×Nat×aX)):=
 match P.underlying t with
 |some (.struct fs)=>(fs.toList.mapM fun f=>(P.info? f.type).map fun i=>(f.offset,i.size)).bind fun pl=>parts.mapM fun p=>(pl[p.1]?).bind fun q=>(cx p.2).map fun y=>(q.1,q.2,y)
 |some (.array _ e)=>(fa P e).bind fun n=>parts.mapM fun p=>(cx p.2).map fun y=>(p.1*n,n,y)
 |_=>none
def Jf(P:Program)(t:TypeId):Bool:=match P.underlying t with
 |some (.struct fs)=>match fs.toList with
  | [f, g] => f.name != "_" && g.name != "_" && f.offset == 0 && g.offset == 1 && (match P.underlying f.type with | some (.int _) => true | _ => false) && (match P.underlying g.type with | some (.int _) => true | _ => false) && !(P.stoodInHeld t) && !(P.eqGuardType P.depth t)
  |_=>false
 |_=>false
def H6:BinOp->Option Bool
 |.eql=>some false
 |.neq=>some true
 |_=>none
def z'(P:Program)(t:TypeId):Bool:=match P.underlying t with|some .string=>true|_=>false
def Cb(P:Program)(op:BinOp)(t:TypeId)(d:Nat)(x y:aX):cO:=
 match(if Jf P t then H6 op else none)with
 |some ng=>.eqs d ng x y
 |none=>match(if z' P t then H6 op else none)with
  |some ng=>.cY d ng x y
  |none=>.bin d op (match P.underlying t with|some .bool=>true|_=>false) x y
def ahV : List String := ["geoprover/matrix.reduce", "geoprover/matrix.subtract", "geoprover/geoproverref09.echelon"]
def SY(P:Program)(f:aX):Bool:=match f with
 |.c (.fn g _ _)=>(P.funcs[g]?).any fun fn=>ahV.contains fn.name
 |_=>false
def oV(P:Program)(draw:Bool)(o:Oper):Option cO:=
 match o.op,o.dst with
 |.move x,some d| .assign x,some d=>(cx x).map (.mv d)
 |.pick c a b,some d=>(cx c).bind fun c=>(cx a).bind fun a=>(cx b).map fun b=>.pick d c a b
 |.binOp op t x y _,some d=>(cx x).bind fun x=>(cx y).map fun y=>Cb P op t d x y
 |.unOp op _ x,some d=>(cx x).map (.un d op)
 |.convert s t x,some d=>match P.underlying s,P.underlying t with
  |some _,some (.int k)=>(cx x).map (.conv d k)
  |_,_=>none
 |.indexAddr t x i,some d=>(cx x).bind fun x=>(cx i).bind fun i=>match P.underlying t with
  |some (.slice e)=>(fa P e).map fun n=>.idx d n x i
  |some (.array len e)=>(fa P e).map fun n=>.BV d len n x i
  |_=>none
 |.index t x i,some d=>(cx x).bind fun x=>(cx i).bind fun i=>match P.underlying t with
  |some (.array len e)=>(fa P e).bind fun n=>(oz P e).map fun ag=>.BW d len n ag x i
  |some .string=>some (.Fz d x i)
  |_=>none
 |.fieldAddr t x j,some d=>(cx x).bind fun x=>match P.underlying t with
  |some (.struct fs)=>(fs[j]?).bind fun f=>(fa P f.type).bind fun n=>if n=0 then none else some (.gI d f.offset x)
  |_=>none
 |.field t x j,some d=>(cx x).bind fun x=>match P.underlying t with
  |some (.struct fs)=>(fs[j]?).bind fun f=>(fa P f.type).bind fun n=>(oz P f.type).map fun ag=>.Bv d f.offset n ag x
  |_=>none
 |.load t x,some d=>(cx x).bind fun x=>(fa P t).bind fun n=>(oz P t).map fun ag=>.ld d n ag x
 |.store t x v,none=>(cx x).bind fun x=>(cx v).bind fun v=>(fa P t).map fun n=>.st n x v
 |.box t v,some d=>(cx v).bind fun v=>(fa P t).map fun n=>.box d n t v
 |.alloc t,some d=>(l9 P t).map fun(n,_,z)=>.alloc d n t z
 |.makeSlice t l c,some d=>(cx l).bind fun l=>(cx c).bind fun c=>(ve P t).bind fun e=>(l9 P e).map fun(n,by_,z)=>.mk d n by_ e z l c
 |.buildSlice t len parts,some d=>(ve P t).bind fun e=>(l9 P e).bind fun r=>
   if parts.toList.map (·.1)=List.range len/\len*r.1<=16777216/\r.2.2.cells.length=r.1 then(parts.toList.mapM fun p=>cx p.2).map fun ps=>.bs d r.1 e ps else none
 |.build t parts,some d=>(l9 P t).bind fun(_,_,z)=>(DA P t parts.toList).map fun ps=>.eB d z.cells ps
 |.slice t x lo hi m,some d=>(cx x).bind fun x=>(qB lo).bind fun lo=>(qB hi).bind fun hi=>(qB m).bind fun m=>(ve P t).bind fun e=>(fa P e).map fun n=>.sl d n x lo hi m
 |.extract x i,some d=>(cx x).map fun x=>.ext d x i
 |.makeFunc (.func f) first cap,some d=>(first.toList.mapM cx).bind fun first=>(cap.toList.mapM cx).map fun cap=>.fn d f first cap
 |.nilCheck x,d=>(cx x).map fun x=>.Fp d x
 |.call c,d=>match c.callee,c.args.toList,c.argTypes.toList,d with
  |.value f,args,_,d=>(cx f).bind fun f=>(args.mapM cx).map fun args=>.call d (draw&& !SY P f) f args
  |.builtin .len,[x],[t],some d=>if z' P t then(cx x).map fun x=>.FA d x else(ve P t).bind fun _=>(cx x).map fun x=>.len d x
  |.builtin .max,[x,y],_,some d=>(cx x).bind fun x=>(cx y).map fun y=>.mx d x y
  |.builtin .min,[x,y],_,some d=>(cx x).bind fun x=>(cx y).map fun y=>.mn d x y
  |.builtin .append,[s,x],[t,u],some d=>(cx s).bind fun s=>(cx x).bind fun x=>(ve P t).bind fun e=>if t=u then(l9 P e).bind fun r=>if r.2.2.cells.length=r.1 then some (.app d r.1 r.2.1 e s x)else none else none
  |.builtin .copy,[s,x],[t,u],some d=>(cx s).bind fun s=>(cx x).bind fun x=>(ve P t).bind fun e=>if t=u then(fa P e).map fun n=>.vD d n s x else none
  |_,_,_,_=>none
 |_,_=>none
def gV(P:Program)(draw:Bool)(o:Oper):cO:=(oV P draw o).getD (.bad o.dst)
def uP(P:Program)(n:Nat)(draw:Bool)(ops:Array Oper)(o:Oper):Option yb:=
 if o.dst.all (· <n)then
  match o.guard with
  |none=>some ⟨none,gV P draw o⟩
  |some (j,want)=>match(ops[j]?).bind (·.dst)with
   |some s=>if s<n then some ⟨some (s,want),gV P draw o⟩else none
   |none=>none
 else none
def cO.cls:cO->Nat
 |.ld .. =>1
 |.box .. | .alloc .. | .mk .. | .bs .. | .call .. | .bad _=>2
 |.st .. | .app .. | .vD .. =>3
 |_=>0
def cO.kv:cO->Bool
 |.st .. | .app .. | .vD .. =>true
 |.call _ pr _ _=> !pr
 |_=>false
def cO.auQ:cO->Bool
 |.call .. =>true
 |_=>false
def tG(ops:Array Oper):Nat->Nat->Nat->Bool
 |0,_,_=>false
 |n+1,i,j=>match ops[j]? with
  |none=>false
  |some o=>o.after.toList.any fun e=>Region.binds .any e&&(e.on==i||tG ops n i e.on)
def wQ(P:Program)(ops:Array Oper)(i:Nat):Nat:=((ops[i]?).map fun o=>(gV P true o).cls).getD 9
def Bi(P:Program)(dr:Bool)(ops:Array Oper)(i:Nat):Bool:=((ops[i]?).map fun o=>(gV P dr o).kv).getD false
def JX(P:Program)(dr:Bool)(ops:Array Oper)(bn:Array Bool)(i:Nat):Bool:=
  (Region.ready .any ops bn).contains i&&Region.free .any ops bn i&&
  (match wQ P ops i with
   |0=>true
   |1=>(List.range ops.size).all fun j=> !Bi P dr ops j||tG ops ops.size i j
   |_=>false)
def xk:List RT->RT
 | []=>.nil
 | [r]=>r
 |r::rs=>.br r (xk rs)
def sv(P:Program)(N:Nat)(dr:Bool)(ops:Array Oper):Nat->Array Bool->Option RT
 |0,bn=>if Region.ready .any ops bn==[]then some .nil else none
 |n+1,bn=>
  if Region.ready .any ops bn==[]then some .nil else
  match(List.range ops.size).find? (JX P dr ops bn)with
  |some i=>((ops[i]?).bind (uP P N dr ops)).bind fun g=>(sv P N dr ops n (bn.setIfInBounds i true)).map fun r=>.o g.g g.o r
  |none=>((Region.ready .any ops bn).mapM fun i=>((ops[i]?).bind (uP P N dr ops)).bind fun g=>(sv P N dr ops n (bn.setIfInBounds i true)).map fun r=>RT.o g.g g.o r).map xk
def Dj(P:Program)(N:Nat)(dr:Bool)(ops:Array Oper):Nat->Array Bool->Option RT
 |0,bn=>if Region.ready .any ops bn==[]then some .nil else none
 | n+1,bn=>
  if Region.ready .any ops bn==[]then some .nil else
  match(List.range ops.size).find? (JX P dr ops bn)with
  |some i=>((ops[i]?).bind (uP P N dr ops)).bind fun g=>(Dj P N dr ops n (bn.setIfInBounds i true)).map fun r=>.o g.g g.o r
  |none=>match Region.ready .any ops bn with
   | [i]=>((ops[i]?).bind (uP P N dr ops)).bind fun g=>(Dj P N dr ops n (bn.setIfInBounds i true)).map fun r=>.o g.g g.o r
   |_=>none
theorem Ga{P:Program}{N:Nat}{dr:Bool}{ops:Array Oper}:∀(n:Nat)(bn:Array Bool)(r:RT),Dj P N dr ops n bn=some r->sv P N dr ops n bn=some r
 |0,bn,r,h=>h
 | n +1,bn,r,h=>by
  unfold Dj at h;unfold sv;split
  ·rename_i hr;rw[if_pos hr]at h;exact h
  ·rename_i hr;rw[if_neg hr]at h;split at h
   ·rename_i i hf;simp only[Kab,Kaa]at h⊢;obtain⟨g,hg,r',cM,rfl⟩:=h;exact⟨g,hg,r',Ga n _ _ cM,rfl⟩
   ·rename_i hf;split at h
    ·rename_i i IS;simp only[Kab,Kaa]at h;obtain⟨g,⟨o,ho,hg⟩,r',cM,rfl⟩:=h;simp[IS,ho,hg,Ga n _ _ cM,xk]
    ·cases h
def RT.count:RT->Nat
 |.nil=>1
 |.o _ _ r=>r.count
 |.br a b=>a.count+b.count
 |.wk r=>r.count
def Aa:List yb->RT
 | []=>.nil
 |g::gs=>.o g.g g.o (Aa gs)
def ahW(P:Program)(ops:Array Oper):Bool:=ops.toList.any fun o=>(gV P false o).auQ
def ahX(P:Program)(ops:Array Oper):Bool:=
 let cs:=ops.toList.map (gV P true)
 4<=(cs.filter fun o=>match o with| .app .. =>true|_=>false).length||
  (3<=(cs.filter fun o=>match o with| .box .. | .alloc .. =>true|_=>false).length&&3<=(cs.filter fun o=>match o with| .st .. =>true|_=>false).length)
def CS(P:Program)(N:Nat)(ops:Array Oper)(dr:Bool)(z5:Nat):Option SC:=
 if ahX P ops then none else
 match sv P N dr ops ops.size (Array.replicate ops.size false)with
 |some r=>if r.count<=z5 then some (.rg r)else none
 |none=>none
def CT(P:Program)(N:Nat)(ops:Array Oper)(draw:Bool):Option SC:=
 if draw then
  if Region.noSelect ops then
   match(if ahW P ops then(Dj P N false ops ops.size (Array.replicate ops.size false)).map .rg else none)with
   |some s=>some s
   |none=>CS P N ops true 100
  else none
 else(ops.toList.mapM (uP P N false ops)).map fun l=>.rg (Aa l)
def gD(P:Program)(N:Nat):Code->Option SC
 |.skip=>some .skip
 |.region id ops draw=>match CT P N ops draw with
  |some s=>some s
  |none=>if draw then some (.raw id ops)else none
 |.seq a b=>(gD P N a).bind fun a=>(gD P N b).map fun b=>.seq a b
 |.cond c a b=>(cx c).bind fun c=>(gD P N a).bind fun a=>(gD P N b).map fun b=>.cond c a b
 |.block id a=>(gD P N a).map (.block id)
 |.loop a=>(gD P N a).map .loop
 |.exit id=>some (.exit id)
 |.ret=>some .ret
 |_=>none
inductive RV where
 |t (s:Nat)
 |cell (s n:Nat) (ag:Bool)
 deriving Inhabited
def kK(P:Program)(r:ResultVar):Option RV:=
 match r with
 |.tmp t=>some (.t t)
 |.cell a t=>(fa P t).bind fun n=>(oz P t).map fun ag=>.cell a n ag
def RT.strip:RT->RT
 |.nil=>.nil
 |.o g p r=>.o g p r.strip
 |.br a b=>.br a.strip b.strip
 |.wk r=>r.strip
def SC.strip:SC->SC
 |.rg r=>.rg r.strip
 |.seq a b=>.seq a.strip b.strip
 |.cond c a b=>.cond c a.strip b.strip
 |.block id a=>.block id a.strip
 |.loop a=>.loop a.strip
 |s=>s
theorem VK:∀l:List yb,(Aa l).strip=Aa l
 | []=>rfl
 |g::gs=>by simp only[Aa,RT.strip,VK gs]
theorem OK:∀l:List RT,(∀r∈l,r.strip=r)->(xk l).strip=xk l
 | [],_=>rfl
 | [r],h=>h r (by simp)
 |r::s::l,h=>by have:=OK (s::l) fun x hx=>h x (Ka1 _ hx);simp only[xk,RT.strip,h r (by simp),this]
theorem P5{α β:Type}{f:α->Option β}{Q:β->Prop}(hf:∀a b,f a=some b->Q b):∀(l:List α)(rs:List β),l.mapM f=some rs->∀r∈rs,Q r
 | [],rs,h=>by simp at h;subst h;simp
 |a::l,rs,h=>by
  simp only[KcD,Kce,KcH,Kab,KaH]at h;obtain⟨b,h1,bs,h2,rfl⟩:=h;intro r hr;rcases KaG.1 hr with rfl|hr
  ·exact hf _ _ h1
  ·exact P5 hf l bs h2 r hr
theorem Gd{P:Program}{N:Nat}{dr:Bool}{ops:Array Oper}:∀(n:Nat)(bn:Array Bool)(r:RT),sv P N dr ops n bn=some r->r.strip=r
 |0,bn,r,h=>by
  unfold sv at h;split at h
  ·cases h;rfl
  ·cases h
 | n+1,bn,r,h=>by
  unfold sv at h;split at h
  ·cases h;rfl
  ·split at h
   ·simp only[Kab,Kaa]at h;obtain⟨g,_,r',cM,rfl⟩:=h;simp only[RT.strip,Gd n _ _ cM]
   ·simp only[Kaa]at h;obtain⟨rs,dt,rfl⟩:=h;refine OK rs (P5 (fun i b hb=>?_) _ rs dt);simp only[Kab,Kaa]at hb;obtain⟨g,_,r',cM,rfl⟩:=hb;simp only[RT.strip,Gd n _ _ cM]
theorem Q04{P:Program}{N:Nat}{ops:Array Oper}{draw:Bool}{s:SC}(h:CT P N ops draw=some s):s.strip=s:=by
 unfold CT at h;split at h
 ·split at h
  ·have key:∀(dr:Bool) (z5:Nat) (s:SC),CS P N ops dr z5=some s->s.strip=s:=fun dr z5 s hc=>by
    unfold CS at hc;split at hc
    ·cases hc
    split at hc
    ·rename_i r hr;split at hc
     ·cases hc;simp only[SC.strip,Gd _ _ _ hr]
     ·cases hc
    ·cases hc
   split at h
   ·rename_i s' fA;cases h;split at fA
    ·simp only[Kaa]at fA;obtain⟨r,hr,rfl⟩:=fA;simp only[SC.strip,Gd _ _ _ (Ga _ _ _ hr)]
    ·cases fA
   ·exact key _ _ _ h
  ·cases h
 ·simp only[Kaa]at h;obtain⟨gs,_,rfl⟩:=h;simp only[SC.strip,VK]
theorem UA{P:Program}{N:Nat}:∀(c:Code)(s:SC),gD P N c=some s->s.strip=s:=by
 intro c;induction c with
 |skip=>intro s h;simp[gD]at h;subst h;rfl
 | region id ops draw=>
  intro s h;simp only[gD]at h;split at h
  ·rename_i s' fA;cases h;exact Q04 fA
  ·split at h
   ·cases h;rfl
   ·cases h
 |seq x y nj zW=>intro s h;simp only[gD,Kab,Kaa]at h;obtain⟨sx,hx,sy,hy,rfl⟩:=h;simp only[SC.strip,nj _ hx,zW _ hy]
 |cond c x y nj zW=>intro s h;simp only[gD,Kab,Kaa]at h;obtain⟨pc,iu,sx,hx,sy,hy,rfl⟩:=h;simp only[SC.strip,nj _ hx,zW _ hy]
 |block id x nj=>intro s h;simp only[gD,Kaa]at h;obtain⟨sx,hx,rfl⟩:=h;simp only[SC.strip,nj _ hx]
 |loop x nj=>intro s h;simp only[gD,Kaa]at h;obtain⟨sx,hx,rfl⟩:=h;simp only[SC.strip,nj _ hx]
 |exit id=>intro s h;simp[gD]at h;subst h;rfl
 |ret=>intro s h;simp[gD]at h;subst h;rfl
 |_=>intro s h;simp[gD]at h
structure ay where
 n:Nat
 rs:List RV
 body:SC
 deriving Inhabited
def Qe(P:Program)(f:Func):Option ay:=
 f.body.bind fun c=>(gD P f.ntmps c).bind fun b=>(f.results.toList.mapM (kK P)).map fun rs=>⟨f.ntmps,rs,b⟩
def ay.strip(s:ay):ay:=⟨s.n,s.rs,s.body.strip⟩
theorem Ul{P:Program}{f:Func}{s:ay}(h:Qe P f=some s):Qe P f=some s.strip:=by have h0:=h;simp only[Qe,Kab,Kaa]at h;obtain⟨c,hb,sb,kB,rs,dt,rfl⟩:=h;rw[h0,ay.strip,UA _ _ kB]
abbrev Zo(o:cO)(r:RT):RT:=.o none o r
abbrev Zg(g:Nat)(b:Bool)(o:cO)(r:RT):RT:=.o (some (g,b)) o r
abbrev Zm(d x:Nat)(r:RT):RT:=.o none (.mv d (.t x)) r
abbrev Zc(d:Nat)(n:Int)(r:RT):RT:=.o none (.mv d (.c (.int .i64 n))) r
abbrev Zf(d o x:Nat)(r:RT):RT:=.o none (.gI d o (.t x)) r
abbrev Zl(d n x:Nat)(r:RT):RT:=.o none (.ld d n false (.t x)) r
abbrev Zh(d n x:Nat)(r:RT):RT:=.o none (.ld d n true (.t x)) r
abbrev Zs(n x v:Nat)(r:RT):RT:=.o none (.st n (.t x) (.t v)) r
abbrev Zi(d e x i:Nat)(r:RT):RT:=.o none (.idx d e (.t x) (.t i)) r
abbrev Zb(d:Nat)(o:BinOp)(x y:Nat)(r:RT):RT:=.o none (.bin d o false (.t x) (.t y)) r
abbrev Zk(d:Nat)(o:BinOp)(x:Nat)(n:Int)(r:RT):RT:=.o none (.bin d o false (.t x) (.c (.int .i64 n))) r
abbrev Zn(d x:Nat)(r:RT):RT:=.o none (.len d (.t x)) r
abbrev Zu(d x:Nat)(r:RT):RT:=.o none (.un d .not (.t x)) r
abbrev Zq(d:Nat)(p:Bool)(f:Nat)(l:List aX)(r:RT):RT:=.o none (.call (some d) p (.c (.fn f [] [])) l) r
abbrev Zr(r:RT)(y:SC):SC:=.seq (.rg r) y
abbrev Zz(n:Int):PV:=.int .i64 n
theorem D0{p:Prop}(h:p:=by first|omega|rfl|(simp+decide only[go_sem]<;>rfl)|fail):p:=h
theorem D1{p A0:Prop}(x0:A0)(h:A0->p:=by intro x0;first|omega|rfl|(simp+decide only[go_sem,x0]<;>rfl)|fail):p:=h x0
theorem D2{p A0 A1:Prop}(x0:A0)(x1:A1)(h:A0->A1->p:=by intro x0 x1;first|omega|rfl|(simp+decide only[go_sem,x0,x1]<;>rfl)|fail):p:=h x0 x1
theorem D3{p A0 A1 A2:Prop}(x0:A0)(x1:A1)(x2:A2)(h:A0->A1->A2->p:=by intro x0 x1 x2;first|omega|rfl|(simp+decide only[go_sem,x0,x1,x2]<;>rfl)|fail):p:=h x0 x1 x2
theorem D4{p A0 A1 A2 A3:Prop}(x0:A0)(x1:A1)(x2:A2)(x3:A3)(h:A0->A1->A2->A3->p:=by intro x0 x1 x2 x3;first|omega|rfl|(simp+decide only[go_sem,x0,x1,x2,x3]<;>rfl)|fail):p:=h x0 x1 x2 x3
theorem D5{p A0 A1 A2 A3 A4:Prop}(x0:A0)(x1:A1)(x2:A2)(x3:A3)(x4:A4)(h:A0->A1->A2->A3->A4->p:=by intro x0 x1 x2 x3 x4;first|omega|rfl|(simp+decide only[go_sem,x0,x1,x2,x3,x4]<;>rfl)|fail):p:=h x0 x1 x2 x3 x4
theorem D6{p A0 A1 A2 A3 A4 A5:Prop}(x0:A0)(x1:A1)(x2:A2)(x3:A3)(x4:A4)(x5:A5)(h:A0->A1->A2->A3->A4->A5->p:=by intro x0 x1 x2 x3 x4 x5;first|omega|rfl|(simp+decide only[go_sem,x0,x1,x2,x3,x4,x5]<;>rfl)|fail):p:=h x0 x1 x2 x3 x4 x5
theorem D8{p A0 A1 A2 A3 A4 A5 A6 A7:Prop}(x0:A0)(x1:A1)(x2:A2)(x3:A3)(x4:A4)(x5:A5)(x6:A6)(x7:A7)(h:A0->A1->A2->A3->A4->A5->A6->A7->p:=by intro x0 x1 x2 x3 x4 x5 x6 x7;first|omega|rfl|(simp+decide only[go_sem,x0,x1,x2,x3,x4,x5,x6,x7]<;>rfl)|fail):p:=h x0 x1 x2 x3 x4 x5 x6 x7
theorem D10{p A0 A1 A2 A3 A4 A5 A6 A7 A8 A9:Prop}(x0:A0)(x1:A1)(x2:A2)(x3:A3)(x4:A4)(x5:A5)(x6:A6)(x7:A7)(x8:A8)(x9:A9)(h:A0->A1->A2->A3->A4->A5->A6->A7->A8->A9->p:=by intro x0 x1 x2 x3 x4 x5 x6 x7 x8 x9;first|omega|rfl|(simp+decide only[go_sem,x0,x1,x2,x3,x4,x5,x6,x7,x8,x9]<;>rfl)|fail):p:=h x0 x1 x2 x3 x4 x5 x6 x7 x8 x9
theorem D11{p A0 A1 A2 A3 A4 A5 A6 A7 A8 A9 dO:Prop}(x0:A0)(x1:A1)(x2:A2)(x3:A3)(x4:A4)(x5:A5)(x6:A6)(x7:A7)(x8:A8)(x9:A9)(cl:dO)(h:A0->A1->A2->A3->A4->A5->A6->A7->A8->A9->dO->p:=by intro x0 x1 x2 x3 x4 x5 x6 x7 x8 x9 cl;first|omega|rfl|(simp+decide only[go_sem,x0,x1,x2,x3,x4,x5,x6,x7,x8,x9,cl]<;>rfl)|fail):p:=h x0 x1 x2 x3 x4 x5 x6 x7 x8 x9 cl
theorem D12{p A0 A1 A2 A3 A4 A5 A6 A7 A8 A9 dO gh:Prop}(x0:A0)(x1:A1)(x2:A2)(x3:A3)(x4:A4)(x5:A5)(x6:A6)(x7:A7)(x8:A8)(x9:A9)(cl:dO)(dG:gh)(h:A0->A1->A2->A3->A4->A5->A6->A7->A8->A9->dO->gh->p:=by intro x0 x1 x2 x3 x4 x5 x6 x7 x8 x9 cl dG;first|omega|rfl|(simp+decide only[go_sem,x0,x1,x2,x3,x4,x5,x6,x7,x8,x9,cl,dG]<;>rfl)|fail):p:=h x0 x1 x2 x3 x4 x5 x6 x7 x8 x9 cl dG
theorem D13{p A0 A1 A2 A3 A4 A5 A6 A7 A8 A9 dO gh kI:Prop}(x0:A0)(x1:A1)(x2:A2)(x3:A3)(x4:A4)(x5:A5)(x6:A6)(x7:A7)(x8:A8)(x9:A9)(cl:dO)(dG:gh)(gg:kI)(h:A0->A1->A2->A3->A4->A5->A6->A7->A8->A9->dO->gh->kI->p:=by intro x0 x1 x2 x3 x4 x5 x6 x7 x8 x9 cl dG gg;first|omega|rfl|(simp+decide only[go_sem,x0,x1,x2,x3,x4,x5,x6,x7,x8,x9,cl,dG,gg]<;>rfl)|fail):p:=h x0 x1 x2 x3 x4 x5 x6 x7 x8 x9 cl dG gg
theorem D14{p A0 A1 A2 A3 A4 A5 A6 A7 A8 A9 dO gh kI wh:Prop}(x0:A0)(x1:A1)(x2:A2)(x3:A3)(x4:A4)(x5:A5)(x6:A6)(x7:A7)(x8:A8)(x9:A9)(cl:dO)(dG:gh)(gg:kI)(se:wh)(h:A0->A1->A2->A3->A4->A5->A6->A7->A8->A9->dO->gh->kI->wh->p:=by intro x0 x1 x2 x3 x4 x5 x6 x7 x8 x9 cl dG gg se;first|omega|rfl|(simp+decide only[go_sem,x0,x1,x2,x3,x4,x5,x6,x7,x8,x9,cl,dG,gg,se]<;>rfl)|fail):p:=h x0 x1 x2 x3 x4 x5 x6 x7 x8 x9 cl dG gg se
theorem E0{p:Prop}(h:p:=by first|omega|rfl|(simp+decide only[go_sem,ek,Kaw,KaD,Kav,KaB,Kam]<;>rfl)|fail):p:=h
theorem E1{p A0:Prop}(x0:A0)(h:A0->p:=by intro x0;first|omega|rfl|(simp+decide only[go_sem,ek,Kaw,KaD,Kav,KaB,Kam,x0]<;>rfl)|fail):p:=h x0
theorem E2{p A0 A1:Prop}(x0:A0)(x1:A1)(h:A0->A1->p:=by intro x0 x1;first|omega|rfl|(simp+decide only[go_sem,ek,Kaw,KaD,Kav,KaB,Kam,x0,x1]<;>rfl)|fail):p:=h x0 x1
theorem E6{p A0 A1 A2 A3 A4 A5:Prop}(x0:A0)(x1:A1)(x2:A2)(x3:A3)(x4:A4)(x5:A5)(h:A0->A1->A2->A3->A4->A5->p:=by intro x0 x1 x2 x3 x4 x5;first|omega|rfl|(simp+decide only[go_sem,ek,Kaw,KaD,Kav,KaB,Kam,x0,x1,x2,x3,x4,x5]<;>rfl)|fail):p:=h x0 x1 x2 x3 x4 x5
theorem T0{p:Prop}(h:p:=by simp+decide (disch:=try exact D0) only[go_sem]):p:=h
theorem Tr0{p:Prop}(h:p:=by simp+decide (disch:=try exact D0) only[go_sem]<;>rfl):p:=h
theorem T1{p A0:Prop}(x0:A0)(h:A0->p:=by intro x0;simp+decide (disch:=try exact D1 x0) only[go_sem,x0]):p:=h x0
theorem U1{p A0:Prop}(x0:A0)(h:A0->p:=by intro x0;simp+decide (disch:=try exact E1 x0) only[go_sem,ek,Kaw,KaD,Kav,KaB,Kam,x0]):p:=h x0
abbrev Ya(t:Nat)(a b:Nat)(r:RT):RT:=Zm t a<|Zm (t+1) b r
abbrev Yb(t:Nat)(r:RT):RT:=Zl t 1 57<|Zo (.conv (t+1) .u64 (.t t))<|Zb (t+2) .rem 53 (t+1) r
abbrev Yc(t:Nat)(r:RT):RT:=Zo (.alloc t 3 51 (.agg [.bool false,.au,.au])) r
abbrev Yd(t:Nat)(a:Nat)(r:RT):RT:=Zo (.ext t (.t a) 0)<|Zo (.ext (t+1) (.t a) 1) r
abbrev Ye(t:Nat)(a:Nat)  :RT:=Zm t a .nil
abbrev Yf(t:Nat)(r:RT):RT:=Zo (.mv t (.c .au)) r
abbrev Yh(t:Nat)  :RT:=Zo (.mv t (.c (.bool false))) .nil
abbrev Yi(t:Nat)(a b:Nat)(r:RT):RT:=Zf t a b<|Zl (t+1) 1 t r
abbrev Yj(t:Nat)(a:Int)  :RT:=Zc t a .nil
abbrev Yk(t:Nat)(a b:Nat)(r:RT):RT:=Zo (.pick t (.t a) (.c (.bool true)) (.t b)) r
abbrev Yl(t:Nat)(a b:Nat)(r:RT):RT:=Zq t false a [.t b] r
abbrev Ym(t:Nat)(a b:Nat)(r:RT):RT:=Ya t a b<|Zi (t+2) 1 t (t+1)<|Zl (t+3) 1 (t+2) r
abbrev Yn(t:Nat)(a b c:Nat)(r:RT):RT:=Zq t false a [.t b,.t c] r
abbrev Yo(t:Nat)(a b:Nat)  :RT:=Ya t a b<|Zn (t+2) (t+1)<|Zb (t+3) .lss t (t+2) .nil
abbrev Yp(t:Nat)(a:Nat)(r:RT):RT:=Zm t a<|Zn (t+1) t r
abbrev Yq(t:Nat)(a b:Nat)(r:RT):RT:=Zo (.pick t (.t a) (.t b) (.c (.bool false))) r
abbrev Yr(t:Nat)(a b c:Nat)(r:RT):RT:=Zq t true a [.t b,.t c] r
abbrev Ys(t:Nat)(a b c d e f:Nat)  :RT:=Zo (.bs t a b [.t c])<|Zo (.app (t+1) a d b (.t e) (.t t))<|Ye f (t+1)
abbrev Yu(t:Nat)(a b:Nat)  :RT:=Zk t .add a 1<|Ye b t
abbrev Yv(t:Nat)(r:RT):RT:=Zo (.alloc t 1 112 (.int .u64 0)) r
abbrev Yw(t:Nat)(a b:Nat)(r:RT):RT:=Zm t a<|Zg t false (.mv (t+1) (.t b)) r
abbrev Yx(t:Nat)(a b c:Nat)(r:RT):RT:=Zi t a b c<|Zh (t+1) a t r
abbrev Yy(t:Nat)  :RT:=Zs t (t+9) 60 .nil
abbrev Yz(t:Nat)(a b:Nat)  :RT:=Zb t .lss a b .nil
abbrev YA(t:Nat)(a b c:Nat)(r:RT):RT:=Zm t a<|Zg t false (.gI (t+1) b (.t c))<|Zg t false (.ld (t+2) 1 false (.t (t+1))) r
abbrev YB(t:Nat)(a b:Nat)(r:RT):RT:=Zm t a<|Zk (t+1) .gtr t 0<|Zm (t+2) (t+1)<|Zg (t+2) true (.mv (t+3) (.t 0))<|Zg (t+2) true (.mv (t+4) (.t a))<|Zg (t+2) true (.bin (t+5) .sub false (.t (t+4)) (.c (Zz 1)))<|Zg (t+2) true (.idx (t+6) b (.t (t+3)) (.t (t+5))) r
abbrev YC(t:Nat)(a b:Nat)  :RT:=Zk t .add a 1<|Zm b t .nil
abbrev YD(t:Nat)(a b:Nat)(r:RT):RT:=Zm t a<|Yl (t+1) b t r
abbrev YE(t:Nat)  :RT:=Yf t .nil
abbrev YG(t:Nat)(a b:Nat)(r:RT):RT:=Zo (.eB t [.bool false,.au,.au,.au] [(0,3,.t a),(3,1,.t b)]) r
abbrev YH(t:Nat)(a b c d:Nat)  :RT:=Yx t 4 a b<|Zo (.alloc c 4 d (.agg [.bool false,.au,.au,.au]))<|Zs 4 c (t+1) .nil
abbrev YI(t:Nat)(a b c:Nat)(r:RT):RT:=Zh t 3 a<|Yl (t+1) 108 t<|Zm b (t+1)<|Yd (t+2) b<|Zo (.alloc c 2 49 (.agg [.bool false,.au]))<|Zs 2 c (t+2) r
abbrev YJ(t:Nat)(a:Nat)(r:RT):RT:=Zl t 1 5<|Zk (t+1) .sub t 1<|Zi (t+2) 1 a (t+1) r
abbrev YK(t:Nat)(a b c:Nat)(r:RT):RT:=Ya t a b<|Yn (t+2) c t (t+1) r
abbrev YL(t:Nat)(r:RT):RT:=Zo (.alloc t 3 24 (.agg [Zz 0,Zz 0,.au])) r
abbrev YM(t:Nat)(a b:Nat)(r:RT):RT:=Zi t 1 a b<|Zl (t+1) 1 t r
abbrev YN(t:Nat)(a b:Nat)(r:RT):RT:=Zm t a<|Zg t true (.mv (t+1) (.t b)) r
abbrev YO(t:Nat)  :RT:=Zo (.mv t (.c (.bool true))) .nil
abbrev YP(t:Nat)(a b:Nat)(r:RT):RT:=Zf t 0 a<|Zh (t+1) b t r
abbrev YQ(t:Nat)  :RT:=Zs t (t+8) 52<|Yy t
abbrev YS(t:Nat)(a b c d:Nat)  :RT:=Zi t a b c<|Zs a t d .nil
abbrev YT(t:Nat)(a b:Nat)(r:RT):RT:=Zg t true (.gI (t+1) a (.t b))<|Zg t true (.ld (t+2) 1 false (.t (t+1))) r
abbrev YU(t:Nat)(a:Nat)(r:RT):RT:=Zo (.box t (t+1) a (.t 0))<|Zo (.box (t+1) (t+1) a (.t 1)) r
abbrev YV(t:Nat)(a:Nat)  :RT:=Yp t a<|Yj (t+2) 0
abbrev YW(t:Nat)  :RT:=Zs t (t+8) 52<|Yb 58<|Yy t
abbrev YX(t:Nat)(a b:Nat)  :RT:=Zm t a<|Yu (t+1) t b
abbrev YY(t:Nat)(a b c:Nat)(r:RT):RT:=Ya t a b<|Zm (t+2) c r
abbrev YZ(t:Nat)(a b:Nat)  :RT:=Zm t a<|Ye b t
abbrev dn(t:Nat)(a b c:Nat)(r:RT):RT:=Zh t a b<|Yl (t+1) c t r
abbrev dQ(t:Nat)(a b:Nat)(r:RT):RT:=Zq t true a [.t b] r
abbrev qM(t:Nat)(a b c:Nat)(r:RT):RT:=Yw t a b<|Zg t false (.mv (t+2) (.t c)) r
abbrev fR(t:Nat)(a:Nat)  :RT:=Zm t a<|YC (t+1) t a
abbrev gy(t:Nat)(r:RT):RT:=Zm t (t+3)<|Yd (t+4) t r
abbrev nI(t:Nat)(a b:Nat)(r:RT):RT:=Ya t a b<|Zi (t+2) 4 t (t+1)<|Yi (t+3) 3 (t+2) r
abbrev kt(t:Nat)(r:RT):RT:=Zl t 1 3<|Zi (t+3) 1 t (t+2) r
abbrev iA(t:Nat)(a:Nat)(b:Int)(r:RT):RT:=Zq t false a [.c (Zz b)] r
abbrev DT(t:Nat)(r:RT):RT:=Zm t 0<|YN (t+1) t 1<|Zg (t+1) true (.len (t+3) (.t (t+2)))<|Zg (t+1) true (.bin (t+4) .gtr false (.t (t+3)) (.c (Zz 0)))<|Yq (t+5) (t+1) (t+4)<|Zm (t+6) 1<|Zo (.eB (t+7) [.bool false,.au] [(0,1,.t (t+5)),(1,1,.t (t+6))]) r
abbrev iS(t:Nat)(a:Nat)(r:RT):RT:=Zo (.box t (t+2) a (.t 0)) r
abbrev dp(t:Nat)(a b:Nat)  :RT:=Ya t a b .nil
abbrev Bn(t:Nat)(a:Nat)  :RT:=Zg t false (.call (some (t+3)) false (.c (.fn a [] [])) [.t (t+1),.t (t+2)])<|Zg t false (.un (t+4) .not (.t (t+3)))<|Yk (t+5) t (t+4) .nil
abbrev ue(t:Nat)  :RT:=Zo (.alloc t 2 49 (.agg [.bool false,.au])) .nil
abbrev uf(t:Nat)  :RT:=Zo (.alloc t t 49 (.agg [.bool false,.au])) .nil
abbrev iB(t:Nat)(a b c:Nat)(r:RT):RT:=Ya t a b<|Yx (t+2) c t (t+1) r
abbrev jV(t:Nat)(a:Nat)(r:RT):RT:=Zo (.conv t .u16 (.t a)) r
abbrev mY(t:Nat)(a b c d:Nat)(r:RT):RT:=Zh t a b<|Zh (t+1) a c<|Yn (t+2) d t (t+1) r
abbrev jC(t:Nat)(a b:Nat)  :RT:=Zm t a<|Zm b t .nil
abbrev iT(t:Nat)(a:Nat)  :RT:=Zk t .neq a 0 .nil
abbrev yY(t:Nat)(a b:Nat)  :RT:=Zm t a<|Zg t true (.call (some (t+1)) false (.c (.fn 21 [] [])) [])<|Yq (t+2) t (t+1)<|Ye b (t+2)
abbrev fu(t:Nat)(a:Nat)(r:RT):RT:=Yc t<|Zs 3 t a r
abbrev Bo(t:Nat)(a:Nat)  :RT:=Zg t false (.call (some (t+2)) false (.c (.fn a [] [])) [.t (t+1)])<|Zg t false (.un (t+3) .not (.t (t+2)))<|Yk (t+4) t (t+3) .nil
abbrev jD(t:Nat)(a b c d e:Nat)  :RT:=Yr t a b c<|Zs d e t .nil
abbrev Bp(t:Nat)(a b c d e:Nat)(r:RT):RT:=Yk t a b<|YA (t+1) t 2 c<|Zg (t+1) false (.len (t+4) (.t (t+3)))<|Zg (t+1) false (.gI (t+5) d (.t e))<|Zg (t+1) false (.ld (t+6) 1 false (.t (t+5))) r
abbrev uh(t:Nat)(r:RT):RT:=Zo (.box t t 49 (.t 0))<|Zo (.box (t+1) t 49 (.t 1)) r
abbrev eV(t:Nat)(a:Int)  :RT:=Yf t<|Yj (t+1) a
abbrev xd(t:Nat)(a:Nat)(r:RT):RT:=Zo (.mk t 3 56 51 (.agg [.bool false,.au,.au]) (.t a) (.t a)) r
abbrev DR(t:Nat)(a b c d e:Nat)(r:RT):RT:=Zn t a<|Zb (t+1) .lss b t<|YN (t+2) (t+1) c<|Zg (t+2) true (.mv (t+4) (.t d))<|Zg (t+2) true (.idx (t+5) 1 (.t (t+3)) (.t (t+4)))<|Zg (t+2) true (.ld (t+6) 1 false (.t (t+5)))<|Zg (t+2) true (.mv (t+7) (.t e)) r
abbrev yV(t:Nat)(a b c:Nat)  :RT:=Zm t (t+2)<|Yd (t+3) t<|Zo (.ext (t+5) (.t t) 2)<|YL a<|Zm b (t+3)<|Zs 3 a (t+4)<|Ye c (t+5)
abbrev yW(t:Nat)(a b c:Nat)(r:RT):RT:=qM t a 0 b<|Zg t false (.idx (t+3) 4 (.t (t+1)) (.t (t+2)))<|Zg t false (.gI (t+4) c (.t (t+3))) r
abbrev sP(t:Nat)(a b:Nat)(r:RT):RT:=Zo (.mk t 1 2 155 (.int .u16 0) (.t a) (.t b)) r
abbrev DS(t:Nat)(a b:Nat)(r:RT):RT:=Ya t a 0<|Zn (t+2) (t+1)<|Zb (t+3) .lss t (t+2)<|qM (t+4) (t+3) b 1<|Zg (t+4) false (.len (t+7) (.t (t+6)))<|Zg (t+4) false (.bin (t+8) .lss false (.t (t+5)) (.t (t+7)))<|Yk (t+9) (t+4) (t+8) r
abbrev xe(t:Nat)  :RT:=Zo (.alloc t (t+1) 51 (.agg [.bool false,.au,.au])) .nil
abbrev jj(t:Nat)(a:Nat)(b:Int)  :RT:=Zk t .eql a b .nil
abbrev ff(t:Nat)(a b c d:Nat)(r:RT):RT:=Yi t a b<|Yi (t+2) c d r
abbrev rM(t:Nat)(a:Nat)  :RT:=Zm t a<|Zk (t+1) .sub t 1<|Ye a (t+1)
abbrev xf(t:Nat)(a:Nat)(r:RT):RT:=Zm t a<|Zo (.bin (t+1) .shr false (.t t) (.c (.int .u64 16))) r
abbrev jT(t:Nat)(a b:Nat)(r:RT):RT:=Zo (.box t (t+1) a (.t b)) r
abbrev vz(t:Nat)(a b c d e:Nat)(r:RT):RT:=Yi t 2 a<|Zm (t+2) b<|Yi (t+3) c d<|Zb (t+5) .mul (t+2) (t+4)<|Zm (t+6) e r
abbrev sQ(t:Nat)(a:Nat)(r:RT):RT:=Ya t a a<|Zn (t+2) (t+1)<|Zk (t+3) .sub (t+2) 1 r
abbrev ud(t:Nat)(a b c d e f:Nat)  :RT:=Yr t a b c<|Zm d t<|Yd (t+1) d<|Zs 3 e (t+1)<|Ye f (t+2)
abbrev xg(t:Nat)(a:Nat)(r:RT):RT:=Zg t true (.call (some (t+2)) false (.c (.fn a [] [])) [.t (t+1)]) r
abbrev vA(t:Nat)(a:Int)(r:RT):RT:=Zg t false (.bin (t+3) .gtr false (.t (t+2)) (.c (Zz a))) r
abbrev mX(t:Nat)(a:Nat)(r:RT):RT:=Zo (.conv t .u32 (.t a)) r
abbrev sR(t:Nat)(a b:Nat)(r:RT):RT:=Yw t a b<|Zg t false (.len (t+2) (.t (t+1))) r
abbrev jU(t:Nat)(a b:Nat)  :RT:=Zb t .neq a b .nil
abbrev sS(t:Nat)(a b:Nat)(r:RT):RT:=Ya t a b<|Zi (t+2) 4 t (t+1)<|YP (t+3) (t+2) 3 r
abbrev mo(t:Nat)(a b c d e:Nat)(r:RT):RT:=Zo (.app t a b c (.t d) (.t e)) r
abbrev nH(t:Nat)(a:Nat)(r:RT):RT:=Zo (.conv t .u64 (.t a)) r
abbrev fQ(t:Nat)(a b:Nat)  :RT:=Yk t a b .nil
abbrev kQ(t:Nat)  :RT:=Zc t (-1) .nil
abbrev dx(t:Nat)(a b:Nat)(r:RT):RT:=Zb t .add a b r
abbrev rN(t:Nat)(a b c:Nat)(r:RT):RT:=Ym t a b<|Zm (t+4) c<|Yx (t+5) 3 (t+3) (t+4) r
abbrev yZ(t:Nat)(a b:Nat)(r:RT):RT:=Zo (.eB t [.bool false,.au,.au] [(0,2,.t a),(2,1,.t b)]) r
abbrev kR(t:Nat)(r:RT):RT:=Yp t 0<|Yp (t+2) 1 r
abbrev xh(t:Nat)(a b c:Nat)  :RT:=Yd t a<|Zo (.ext (t+2) (.t a) 2)<|Ya b t (t+1)<|Ye c (t+2)
abbrev iC(t:Nat)  :RT:=Yb t<|YQ 1
abbrev nJ(t:Nat)(a:Nat)(r:RT):RT:=YD t 0 a<|YD (t+2) 1 a r
abbrev uj(t:Nat)(a b c:Nat)(r:RT):RT:=Zo (.sl t a (.t b) none (some (.t c)) none) r
abbrev jE(t:Nat)(a:Nat)  :RT:=Zs t (t+1) a .nil
abbrev ku(t:Nat)(a b:Nat)(r:RT):RT:=Zm t a<|Zh (t+1) 3 b r
abbrev Bq(t:Nat)(a b:Nat)  :RT:=Zh t a 2<|Zh (t+2) a 3<|dQ (t+1) b t<|dQ (t+3) b (t+2)<|Zs a 2 (t+1)<|Zs a 3 (t+3) .nil
abbrev Fr:=Nat->PV
structure HB where
 e:Nat
 ty:TypeId
 xs:List PV
 fz:Bool
abbrev HP:=Nat->Option HB
def af(f:Fr)(a:Nat)(v:PV):Fr:=fun b=>if b=a then v else f b
def Qj(h:HP)(a:Nat)(v:HB):HP:=fun b=>if b=a then some v else h b
def bU:Fr:=fun _=>.undef
def aA:HP:=fun _=>none
def bJ(β:Nat):Bool:=decide (1000000<=β)
def aR(β:Nat):Bool:=decide (1000000<=β)&&decide (β<2000000)
def eH(β:Nat):Bool:=decide (1500000<=β)&&decide (β<2000000)
theorem Ba{β:Nat}(h:aR β=false):eH β=false:=by simp[aR]at h;simp[eH];omega
theorem Bb{β:Nat}(h:bJ β=false):aR β=false:=by simp[bJ]at h;simp[aR];omega
def PV.cn:PV->List Nat
 |.mp β _ _=>[β]
 |.aB β _ _| .rb β _ _=>[β]
 |_=>[]
def PV.refs:PV->List Nat
 |.mp β _ _=>[β]
 |.aB β _ _| .rb β _ _=>[β]
 |.fn _ first cap=>first.flatMap PV.cn++cap.flatMap PV.cn
 |_=>[]
def PV.nk:PV->Bool
 |.mp .. | .aB .. | .rb .. | .int .. | .bool _| .au| .sl .. | .pt _| .np .. | .aI .. =>true
 |_=>false
def PV.gU:PV->List Nat
 |.aB β _ _=>[β]
 |.aI γ _ _| .np γ _ _=>[γ]
 |_=>[]
def PV.fh:PV->List Nat
 |.aI γ _ _| .np γ _ _=>[γ]
 |_=>[]
def PV.aQ:PV->List Nat
 |.aI γ _ _| .np γ _ _=>[γ]
 |.bo cs=>cs.flatMap PV.gU
 |.dX cs=>cs.flatMap PV.gU
 |.aC γ _ _ xs=>γ::xs.flatMap fun x=>x.aS.flatMap PV.gU
 |.fn _ first cap=>first.flatMap PV.fh++cap.flatMap PV.fh
 |_=>[]
def cA(β:Nat)(p:PV):PV:=if p.refs.contains β then .undef else p
def cP(β:Nat)(fr:Fr):Fr:=fun i=>cA β (fr i)
def cZ(hp:HP):PV->PV
 |.mp β i o=>if aR β then .undef else match hp β with
  |some hb=>match hb.xs[i]? with
   |some x=>.pt (x.cells.drop o)
   |none=>.undef
  |none=>.undef
 |.aB β o n=>if aR β then .undef else match hp β with
  |some hb=>.sl hb.e ((hb.xs.drop o).take n)
  |none=>.undef
 |.rb _ _ _| .aI _ _ _| .np _ _ _| .bo _| .dX _| .aC _ _ _ _=>.undef
 |p=>p
def aU(hp:HP):PV->PV
 |.fn f first cap=>.fn f (first.map (cZ hp)) (cap.map (cZ hp))
 |p=>cZ hp p
def bW(hp:HP)(l:List Nat):HP:=fun β=>if l.contains β then(hp β).map fun hb=>{ hb with fz:=true }else hp β
def ev(fr:Fr):aX->PV
 |.t n=>fr n
 |.c p=>p
def fB:Bool->Nat->Nat->PV->PV
 |true,n,o,x=>.agg ((x.cells.drop o).take n)
 |false,_,o,x=>(x.cells.drop o).headD .undef
def uI(x:PV)(o:Nat)(v:PV):PV:=.agg (x.cells.take o++v.cells++x.cells.drop (o+v.cells.length))
def PV.n7:PV->Bool
 |.aB .. | .aI .. | .undef=>true
 |_=>false
def pq(cs:List PV):PV:=if cs.any PV.n7 then .bo cs else .agg cs
def fo:List PV->PV
 | [c]=>c
 |cs=>pq cs
def tv(ag:Bool)(n o:Nat)(x:PV):PV:=if ag then pq ((x.aS.drop o).take n)else(x.aS.drop o).headD .undef
def fU:PV->Option (List PV)
 |.bo cs=>if cs.all PV.ki then some cs else none
 |.aI γ o n=>some [.aI γ o n]
 |.aB β o n=>if bJ β then some [.aB β o n]else none
 |.int k n=>some [.int k n]
 |.bool b=>some [.bool b]
 |.au=>some [.au]
 |.sl e xs=>some [.sl e xs]
 |.pt cs=>some [.pt cs]
 |.agg cs=>some cs
 |_=>none
def qC(l:List PV)(o:Nat)(cs:List PV):List PV:=l.take o++cs++l.drop (o+cs.length)
def gE(γ:Nat):PV->PV
 |.aC bu e ty xs=>if bu=γ then .undef else .aC bu e ty xs
 |p=>p
def iP(γ:Nat)(fr:Fr):Fr:=fun i=>gE γ (fr i)
def jv(β:Nat):PV->PV
 |.aB bA o n=>if bA=β then .undef else .aB bA o n
 |.aI γ o n=>if γ=β then .undef else .aI γ o n
 |p=>p
def cV(β:Nat):PV->PV
 |.aC γ e ty xs=>if γ=β then .undef else .aC γ e ty (xs.map fun x=>fo (x.aS.map (jv β)))
 |.bo cs=>.bo (cs.map (jv β))
 |.dX cs=>.dX (cs.map (jv β))
 |.aI γ o n=>if γ=β then .undef else .aI γ o n
 |.np γ i o=>if γ=β then .undef else .np γ i o
 |.fn f first cap=>if(first.flatMap PV.fh++cap.flatMap PV.fh).contains β then .undef else cA β (.fn f first cap)
 |p=>cA β p
def fX(β:Nat)(fr:Fr):Fr:=fun i=>cV β (fr i)
abbrev Qh:=Fr->HP->Prop
def cu(op:BinOp)(bt:Bool)(a b:PV)(d:Nat)(fr:Fr)(hp:HP)(K:Qh):Prop:=
 match a,b with
 |.int k x,.int k' y=>
  match op with
  |.shl=>0<=y/\K (af fr d (.int k (k.wrap (x*2^(min y.toNat k.bits))))) hp
  |.shr=>0<=y/\K (af fr d (.int k (x.fdiv (2^(min y.toNat k.bits))))) hp
  |.add=>k=k'/\K (af fr d (.int k (k.wrap (x+y)))) hp
  |.sub=>k=k'/\K (af fr d (.int k (k.wrap (x-y)))) hp
  |.mul=>k=k'/\K (af fr d (.int k (k.wrap (x*y)))) hp
  |.quo=>k=k'/\y≠0/\K (af fr d (.int k (k.wrap (x.tdiv y)))) hp
  |.rem=>k=k'/\y≠0/\K (af fr d (.int k (x.tmod y))) hp
  |.and=>k=k'/\K (af fr d (.int k (k.wrap (BitVec.ofInt k.bits x&&&BitVec.ofInt k.bits y).toNat))) hp
  |.or=>k=k'/\K (af fr d (.int k (k.wrap (BitVec.ofInt k.bits x|||BitVec.ofInt k.bits y).toNat))) hp
  |.xor=>k=k'/\K (af fr d (.int k (k.wrap (BitVec.ofInt k.bits x^^^BitVec.ofInt k.bits y).toNat))) hp
  |.andNot=>False
  |.eql=>k=k'/\K (af fr d (.bool (decide (x=y)))) hp
  |.neq=>k=k'/\K (af fr d (.bool (!decide (x=y)))) hp
  |.lss=>k=k'/\K (af fr d (.bool (decide (x<y)))) hp
  |.leq=>k=k'/\K (af fr d (.bool (decide (x<=y)))) hp
  |.gtr=>k=k'/\K (af fr d (.bool (decide (y<x)))) hp
  |.geq=>k=k'/\K (af fr d (.bool (decide (y<=x)))) hp
 |.bool x,.bool y=>
  match op with
  |.eql=>bt=true/\K (af fr d (.bool (x==y))) hp
  |.neq=>bt=true/\K (af fr d (.bool (!(x==y)))) hp
  |_=>False
 |_,_=>False
def tV(ng:Bool)(a b:PV)(d:Nat)(fr:Fr)(hp:HP)(K:Qh):Prop:=
 match a,b with
 |.agg [.int k x,.int l y],.agg [.int k' x',.int l' y']=>k=k'/\l=l'/\K (af fr d (.bool (ng !=(decide (x=x')&&decide (y=y'))))) hp
 |_,_=>False
def tW(ng:Bool)(a b:PV)(d:Nat)(fr:Fr)(hp:HP)(K:Qh):Prop:=
 match a,b with
 |.str x,.str y=>K (af fr d (.bool (ng !=decide (x=y)))) hp
 |_,_=>False
def yR(a:PV)(d:Nat)(fr:Fr)(hp:HP)(K:Qh):Prop:=
 match a with
 |.str s=>K (af fr d (.int .i64 s.size)) hp
 |_=>False
def wY(a i:PV)(d:Nat)(fr:Fr)(hp:HP)(K:Qh):Prop:=
 match a,i with
 |.str s,.int _ n=>0<=n/\n<s.size/\K (af fr d (.int .u8 (s.get! n.toNat).toNat)) hp
 |_,_=>False
def vf(c a b:PV)(d:Nat)(fr:Fr)(hp:HP)(K:Qh):Prop:=
 match c with
 |.bool t=>(t=true->K (af fr d a) hp)/\(t=false->K (af fr d b) hp)
 |_=>False
def xY(op:UnOp)(a:PV)(d:Nat)(fr:Fr)(hp:HP)(K:Qh):Prop:=
 match op,a with
 |.not,.bool b=>K (af fr d (.bool !b)) hp
 |.neg,.int k n=>K (af fr d (.int k (k.wrap (0-n)))) hp
 |_,_=>False
def yK(k:IntKind)(a:PV)(d:Nat)(fr:Fr)(hp:HP)(K:Qh):Prop:=
 match a with
 |.int _ n=>K (af fr d (.int k (k.wrap n))) hp
 |_=>False
def rI(a:PV)(d:Nat)(fr:Fr)(hp:HP)(K:Qh):Prop:=
 match a with
 |.au=>K (af fr d (.int .i64 0)) hp
 |.sl _ xs=>K (af fr d (.int .i64 xs.length)) hp
 |.aB _ _ n=>K (af fr d (.int .i64 n)) hp
 |.aI _ _ n=>K (af fr d (.int .i64 n)) hp
 |_=>False
def z6(a b:PV)(d:Nat)(fr:Fr)(hp:HP)(K:Qh):Prop:=
 match a,b with
 |.int k x,.int _ y=>K (af fr d (.int k (max x y))) hp
 |_,_=>False
def z4(a b:PV)(d:Nat)(fr:Fr)(hp:HP)(K:Qh):Prop:=
 match a,b with
 |.int k x,.int _ y=>K (af fr d (.int k (min x y))) hp
 |_,_=>False
def jQ(e:Nat)(a i:PV)(d:Nat)(fr:Fr)(hp:HP)(K:Qh):Prop:=
 match a,i with
 |.sl e' xs,.int _ n=>e=e'/\0<=n/\∃h:n.toNat<xs.length,K (af fr d (.pt (xs[n.toNat]'h).cells)) hp
 |.aB β o m,.int _ n=>0<=n/\n.toNat<m/\(hp β).map (·.e)=some e/\K (af fr d (.mp β (o+n.toNat) 0)) hp
 |.aI γ o m,.int _ n=>0<=n/\n.toNat<m/\(hp γ).map (·.e)=some e/\K (af fr d (.np γ (o+n.toNat) 0)) hp
 |_,_=>False
def wR(len e:Nat)(a i:PV)(d:Nat)(fr:Fr)(hp:HP)(K:Qh):Prop:=
 match a,i with
 |.mp β j o,.int _ n=>0<=n/\n<len/\K (af fr d (.mp β j (o+n.toNat*e))) hp
 |.pt cs,.int _ n=>0<=n/\n<len/\n.toNat*e<=cs.length/\K (af fr d (.pt (cs.drop (n.toNat*e)))) hp
 |_,_=>False
def wZ(len e:Nat)(ag:Bool)(a i:PV)(d:Nat)(fr:Fr)(hp:HP)(K:Qh):Prop:=
 match a,i with
 |.agg cs,.int _ n=>0<=n/\n<len/\n.toNat*e+e<=cs.length/\(ag=false->e=1)/\K (af fr d (fB ag e (n.toNat*e) (.agg cs))) hp
 |_,_=>False
def tX(off:Nat)(a:PV)(d:Nat)(fr:Fr)(hp:HP)(K:Qh):Prop:=
 match a with
 |.mp β i o=>K (af fr d (.mp β i (o+off))) hp
 |.np γ i o=>K (af fr d (.np γ i (o+off))) hp
 |.pt cs=>off<=cs.length/\K (af fr d (.pt (cs.drop off))) hp
 |_=>False
def tS(off n:Nat)(ag:Bool)(a:PV)(d:Nat)(fr:Fr)(hp:HP)(K:Qh):Prop:=
 match a with
 |.agg cs=>off+n<=cs.length/\(ag=false->n=1)/\K (af fr d (fB ag n off (.agg cs))) hp
 |.bo cs=>off+n<=cs.length/\(ag=false->n=1)/\K (af fr d (tv ag n off (.bo cs))) hp
 |_=>False
def kf(n:Nat)(ag:Bool)(a:PV)(d:Nat)(fr:Fr)(hp:HP)(K:Qh):Prop:=
 match a with
 |.mp β i o=>match hp β with
  |some hb=>∃h:i<hb.xs.length,o+n<=hb.e/\(ag=false->n=1)/\K (af fr d (fB ag n o (hb.xs[i]'h))) hp
  |none=>False
 |.pt cs=>n<=cs.length/\(ag=false->n=1)/\K (af fr d (fB ag n 0 (.agg cs))) hp
 |.rb β o m=>n=1/\ag=false/\K (af fr d (.aB β o m)) hp
 |.np γ i o=>match fr γ with
  |.aC bu e _ xs=>bu=γ/\∃h:i<xs.length,o+n<=e/\(ag=false->n=1)/\K (af fr d (tv ag n o (xs[i]'h))) hp
  |_=>False
 |_=>False
def qf (n:Nat) (a v:PV) (fr:Fr) (hp:HP) (K:Qh):Prop:=
 match a with
 |.mp β i o=>match bW hp v.refs β with
  | some hb=>hb.fz=false/\(aU hp v).aN=true/\(aU hp v).cells.length=n/\∃h:i<hb.xs.length,o+n<=hb.e/\
    K fr (Qj (bW hp v.refs) β { hb with xs:=hb.xs.set i (if n=hb.e then aU hp v else uI (hb.xs[i]'h) o (aU hp v)) })
  |none=>False
 |.np γ i o=>match fr γ with
  |.aC bu e ty xs=>bu=γ/\(∃hb,hp γ=some hb/\hb.fz=false)/\∃h:i<xs.length,o+n<=e/\match fU v with
   |some cs=>cs.length=n/\K (af (iP γ fr) γ (.aC γ e ty (xs.set i (fo (qC (xs[i]'h).aS o cs))))) hp
   |none=>False
  |_=>False
 |_=>False
def jB(n ty:Nat)(v:PV)(d:Nat)(fr:Fr)(hp:HP)(K:Qh):Prop:=
 match(match v with| .aB β o m=>if aR β then some (β,o,m)else none|_=>none)with
 |some (β,o,m)=>K (af fr d (.rb β o m)) hp
 |none=>
 (aU hp v).aN=true/\(aU hp v).cells.length=n/\0<n/\K (af (cP d fr) d (.mp d 0 0)) (Qj (bW hp v.refs) d ⟨n,ty,[aU hp v],false⟩)
def qe(e by_ ty:Nat)(z l c:PV)(d:Nat)(fr:Fr)(hp:HP)(K:Qh):Prop:=
 match l,c with
 |.int _ L,.int _ C=>0<e/\z.cells.length=e/\0<=L/\L<=C/\by_*C<=281474976710656/\C<=9223372036854775807/\
   K (af (cP d fr) d (.ms d L.toNat)) (Qj hp d ⟨e,ty,List.replicate L.toNat z,false⟩)
 |_,_=>False
def HF(hp:HP)(e:Nat)(ps:List PV):Prop:=∀p∈ps,(aU hp p).aN=true/\(aU hp p).cells.length=e
def ko:PV->Bool
 |.aB β 0 _=>decide (5000000<=β)
 |_=>false
def nA:List PV->Bool
 | [x]=>ko x
 |_=>false
def iK(d:Nat):Nat:=4000000+d
def Mz(e ty:Nat)(ps:List PV)(d:Nat)(fr:Fr)(hp:HP)(K:Qh):Prop:=
 e=1/\K (af (af (fX (iK d) fr) (iK d) (.aC (iK d) 1 ty ps)) d (.aI (iK d) 0 1)) (Qj hp (iK d) ⟨1,ty,[],false⟩)
def w6 (e by_ ty:Nat) (s x:PV) (d:Nat) (fr:Fr) (hp:HP) (K:Qh):Prop:=
 match x with
 |.aI δ 0 1=>match fr δ with
  |.aC On 1 _ [y]=>On=δ/\ko y=true/\e=1/\
   match s with
   |.au=>by_<=140737488355328/\K (af (af (fX (iK d) fr) (iK d) (.aC (iK d) 1 ty [y])) d (.aI (iK d) 0 1)) (Qj hp (iK d) ⟨1,ty,[],false⟩)
   |.aI γ 0 k=>match fr γ with
    |.aC bu 1 ty2 xs=>(bu=γ/\γ<5000000/\aR γ=false/\ty2=ty/\k=xs.length/\xs.all ko=true/\(k+1)*by_<=140737488355328/\k+1<=9223372036854775807)/\(∃hb,hp γ=some hb/\hb.fz=false)/\
      K (af (af (fX γ fr) γ (.aC γ 1 ty (xs++[y]))) d (.aI γ 0 (k+1))) (Qj hp γ ⟨1,ty,[],false⟩)
    |_=>False
   |_=>False
  |_=>False
 |_=>False
def DU(e ty:Nat)(ps:List PV)(d:Nat)(fr:Fr)(hp:HP)(K:Qh):Prop:=
 0<e/\HF hp e ps/\K (af (cP d fr) d (.ms d ps.length)) (Qj (bW hp (ps.flatMap PV.refs)) d ⟨e,ty,ps.map (aU hp),false⟩)
def mu(e ty:Nat)(ps:List PV)(d:Nat)(fr:Fr)(hp:HP)(K:Qh):Prop:=if nA ps=true then Mz e ty ps d fr hp K else DU e ty ps d fr hp K
def jx(hp:HP):PV->Option (Nat×List PV)
 |.au=>some (0,[])
 |.sl e xs=>some (e,xs)
 |.aB β o n=>(hp β).map fun hb=>(hb.e,(hb.xs.drop o).take n)
 |_=>none
def ia (e by_ ty:Nat) (s x:PV) (d:Nat) (fr:Fr) (hp:HP) (K:Qh):Prop:=
 match jx hp x with
 |none=>w6 e by_ ty s x d fr hp K
 | some (e',ys)=>0<e/\(e'=e∨ys=[])/\
  match s with
  |.au=>ys.length*by_<=140737488355328/\ys.length<=9223372036854775807/\
    K (af (cP d fr) d (.ms d ys.length)) (Qj hp d ⟨e,ty,ys,false⟩)
  |.aB β 0 n=>match hp β with
   | some hb=>(bJ β=false/\hb.fz=false/\hb.e=e/\hb.ty=ty/\n<=hb.xs.length/\(n+ys.length)*by_<=140737488355328/\n+ys.length<=9223372036854775807/\
     K (af (cP β fr) d (.ms β (n+ys.length))) (Qj hp β ⟨e,ty,hb.xs.take n++ys,false⟩))∨
    (bJ β=true/\aR β=false/\(ys≠[]/\hb.fz=false/\hb.e=e/\hb.ty=ty/\n<=hb.xs.length/\(n+ys.length)*by_<=140737488355328/\n+ys.length<=9223372036854775807)/\
     K (af (fX β fr) d (.ms β (n+ys.length))) (Qj hp β ⟨e,ty,hb.xs.take n++ys,false⟩))
   |none=>False
  |_=>False
def sK (e:Nat) (s x:PV) (d:Nat) (fr:Fr) (hp:HP) (K:Qh):Prop:=
 match jx hp x,s with
 |some (e',ys),.aB β 0 n=>match hp β with
  | some hb=>0<e/\hb.fz=false/\hb.e=e/\(e'=e∨ys=[])/\n=hb.xs.length/\
    K (af fr d (.int .i64 (min (ys.length:Int) n))) (Qj hp β { hb with xs:=ys.take n++hb.xs.drop ys.length })
  |none=>False
 |_,_=>False
def jL(d:Int):Option PV->Option Int
 |none=>some d
 |some (.int _ n)=>some n
 |some _=>none
def kj(e:Nat)(a:PV)(lo hi mx:Option PV)(d:Nat)(fr:Fr)(hp:HP)(K:Qh):Prop:=
 match a with
 |.au=>match jL 0 lo,jL 0 hi,jL 0 mx with
  |some L,some H,some M=>L=0/\H=0/\M=0/\(mx.isSome->hi.isSome)/\K (af fr d .au) hp
  |_,_,_=>False
 |.sl e' xs=>match jL 0 lo,jL xs.length hi,jL xs.length mx with
  |some L,some H,some M=>e'=e/\0<=L/\L<=H/\H<=M/\M<=xs.length/\(mx.isSome->hi.isSome)/\K (af fr d (.sl e ((xs.take H.toNat).drop L.toNat))) hp
  |_,_,_=>False
 |.aB β o n=>match jL 0 lo,jL n hi,mx with
  |some L,some H,none=>(hp β).map (·.e)=some e/\0<=L/\L<=H/\H<=n/\(L=0∨L<n)/\K (af fr d (.aB β (o+L.toNat) (H.toNat-L.toNat))) hp
  |_,_,_=>False
 |_=>False
def qD(a:PV)(i:Nat)(d:Nat)(fr:Fr)(hp:HP)(K:Qh):Prop:=
 match a with
 |.aH ps=>match ps[i]? with
  |some p=>p.aN=true/\K (af fr d p) hp
  |none=>False
 |.dX ps=>match ps[i]? with
  |some p=>K (af fr d p) hp
  |none=>False
 |_=>False
def jN(cells:List PV):List (Nat×List PV)->List PV
 | []=>cells
 |(o,xs)::r=>jN (cells.take o++xs++cells.drop (o+xs.length)) r
def SZ(hp:HP)(len:Nat)(ps:List (Nat×Nat×PV)):Prop:=∀p∈ps,(aU hp p.2.2).aN=true/\(aU hp p.2.2).cells.length=p.2.1/\p.1+p.2.1<=len
def FU(zero:List PV)(ps:List (Nat×Nat×PV))(d:Nat)(fr:Fr)(hp:HP)(K:Qh):Prop:=
 SZ hp zero.length ps/\K (af fr d (.agg (jN zero (ps.map fun p=>(p.1,(aU hp p.2.2).cells))))) (bW hp (ps.flatMap fun p=>p.2.2.refs))
def PV.rj:PV->Bool
 |.aI .. | .bo _=>true
 |.aB β _ _=>decide (2000000<=β)
 |_=>false
def wJ(len:Nat)(ps:List (Nat×Nat×PV)):Prop:=∀p∈ps,∃cs,fU p.2.2=some cs/\cs.length=p.2.1/\p.1+p.2.1<=len
def oA(zero:List PV)(ps:List (Nat×Nat×PV))(d:Nat)(fr:Fr)(hp:HP)(K:Qh):Prop:=
 if ps.any (fun p=>p.2.2.rj)then wJ zero.length ps/\K (af fr d (.bo (jN zero (ps.map fun p=>(p.1,(fU p.2.2).getD []))))) hp
 else FU zero ps d fr hp K
def DK(a:PV)(d:Option Nat)(fr:Fr)(hp:HP)(K:Qh):Prop:=
 match a,d with
 |.mp _ _ _,some d| .pt _,some d| .fn _ _ _,some d=>K (af fr d a) hp
 |.mp _ _ _,none| .pt _,none| .fn _ _ _,none=>K fr hp
 |_,_=>False
structure Ctx where
 P:Program
 N:Nat
 w0:World
 X0:Nat->Prop
 Es:∀b,X0 b->b<w0.heap.size
 hN:N<=1000000
 fx:Nat->Option Nat
 qS:∀β b,fx β=some b->b<w0.heap.size/\(eH β=false->¬X0 b)
 Z0:Nat->Prop
 Ir:∀b,Z0 b->b<w0.heap.size/\¬X0 b/\∀β,fx β≠some b
@[reducible] def Ctx.plain (P : Program) (N : Nat) (w : World) (X : Nat -> Prop) (hX : ∀ b, X b -> b < w.heap.size) (hN : N <= 1000000) : Ctx :=
 ⟨P, N, w, X, hX, hN, fun _ => none, (fun _ _ h => nomatch h), eP, fun _ h => h.elim⟩
def Ctx.Y0(C:Ctx):Nat->Prop:=fun b=>(∃β,eH β=false/\C.fx β=some b)∨C.Z0 b
theorem Ctx.hY0(C:Ctx):∀b,C.Y0 b->b<C.w0.heap.size/\¬C.X0 b
 |b,.inl ⟨β,hr,h⟩=>⟨(C.qS β b h).1,(C.qS β b h).2 hr⟩
 |b,.inr h=>⟨(C.Ir b h).1,(C.Ir b h).2.1⟩
theorem Ctx.Jc{P:Program}{N:Nat}{w w':World}{X:Nat->Prop}{hX:∀b,X b->b<w.heap.size}{hN:N<=1000000}(h:Ext (Ctx.plain P N w X hX hN).Y0 w w'):Ext eP w w':=
 h.mono fun b _ hb=>by
  rcases hb with⟨β,_,hb⟩|hb
  ·cases hb
  ·exact hb
def Ctx.cls(C:Ctx)(β b:Nat):Prop:=if aR β=true then C.fx β=some b else C.w0.heap.size<=b∨C.Z0 b
theorem Ctx.H5{C:Ctx}{β b:Nat}(h:C.cls β b)(hr:eH β=false):C.w0.heap.size<=b∨C.Y0 b:=by
 unfold Ctx.cls at h;split at h
 ·exact .inr (.inl ⟨β,hr,h⟩)
 ·exact h.imp id .inr
theorem Ctx.xm{C:Ctx}{β b:Nat}(h:C.cls β b)(hB:aR β=false):C.w0.heap.size<=b∨C.Z0 b:=by
 unfold Ctx.cls at h
 rwa[if_neg (by simp[hB])]at h
theorem Ctx.WY{C:Ctx}{β b:Nat}(h:C.w0.heap.size<=b∨C.Z0 b)(hB:aR β=false):C.cls β b:=by
 unfold Ctx.cls
 rwa[if_neg (by simp[hB])]
theorem Ctx.N_Y{C:Ctx}{b:Nat}(h:C.w0.heap.size<=b∨C.Z0 b):C.w0.heap.size<=b∨C.Y0 b:=h.imp id .inr
theorem Ctx.Oq{C:Ctx}{β b:Nat}(h:C.w0.heap.size<=b∨C.Z0 b):C.fx β≠some b:=fun e=>by
 rcases h with h|h
 ·have:=(C.qS β b e).1;omega
 ·exact(C.Ir b h).2.2 β e
theorem Ctx.H4{C:Ctx}{β b:Nat}(h:C.cls β b)(hr:eH β=false):¬C.X0 b:=fun hx=>by
 rcases Ctx.H5 h hr with h|h
 ·have:=C.Es b hx;omega
 ·exact(C.hY0 b h).2 hx
def aK(C:Ctx)(ρ:Nat->Option Nat)(hp:HP):Nat->Prop:=fun b=>C.X0 b∨∃β hb,hp β=some hb/\hb.fz=false/\ρ β=some b
def dH(w:World)(b e cap:Nat):Prop:=∃cur ty,w.heap[b]? =some (.cells cur ty (0,0))/\cur.size=cap*e
def Ab(w:World)(X:Nat->Prop)(b:Nat)(hb:HB):Prop:=
 ∃(cur:Array Value)(cap:Nat),w.heap[b]? =some (.cells cur hb.ty (0,0))/\cur.size=cap*hb.e/\hb.xs.length<=cap/\cap<=maxLen/\
  ∀(i:Nat)(x:PV),hb.xs[i]? =some x->∀(j:Nat)(y:PV),x.cells[j]? =some y->Qu w X y (cur.getD (i*hb.e+j) undef)
structure vk(C:Ctx)(ρ:Nat->Option Nat)(hp:HP)(w:World)(β:Nat)(hb:HB):Prop where
 m6:0<hb.e
 len:∀(i:Nat)(x:PV),hb.xs[i]? =some x->x.cells.length=hb.e/\x.aN=true
 dd:match ρ β with
  |none=>hb.xs=[]
  |some b=>C.cls β b/\b<w.heap.size/\Ab w (aK C ρ hp) b hb
 fix:aR β=true->ρ β=C.fx β
 ro:eH β=true->hb.fz=true
def fF(ρ:Nat->Option Nat)(hp:HP)(w:World)(β o n:Nat)(v:Value):Prop:=
 ∃ hb,hp β=some hb/\o+n<=hb.xs.length/\((ρ β=none/\v= .slice none 0 0/\n=0/\o=0)∨
   ∃b cap,ρ β=some b/\v= .slice (some ⟨b,o*hb.e,none⟩) n cap/\dH w b hb.e (o+cap)/\o+cap<=maxLen)
def qE(ρ:Nat->Option Nat)(hp:HP)(w:World)(γ o n:Nat)(v:Value):Prop:=
 bJ γ=true/\∃hb b cap,hp γ=some hb/\ρ γ=some b/\v= .slice (some ⟨b,o*hb.e,none⟩) n cap/\dH w b hb.e (o+cap)/\o+cap<=maxLen/\n<=cap
def df(C:Ctx)(ρ:Nat->Option Nat)(hp:HP)(w:World):PV->Value->Prop
 |.undef,_=>True
 |.aB β o n,v=>bJ β=true/\fF ρ hp w β o n v
 |.aI γ o n,v=>qE ρ hp w γ o n v
 |p,v=>Qu w (aK C ρ hp) p v
def dh(C:Ctx)(ρ:Nat->Option Nat)(hp:HP)(w:World):PV->Value->Prop
 |.mp β i o,v=>∃b hb,ρ β=some b/\hp β=some hb/\v= .pointer (some ⟨b,i*hb.e+o,none⟩)
 |.aB β o n,v=>fF ρ hp w β o n v
 |.rb β o n,v=>∃b u,v= .pointer (some ⟨b,0,none⟩)/\b<w.heap.size/\¬aK C ρ hp b/\w.cell? ⟨b,0,none⟩=some u/\fF ρ hp w β o n u
 |.np γ i o,v=>bJ γ=true/\∃b hb,ρ γ=some b/\hp γ=some hb/\v= .pointer (some ⟨b,i*hb.e+o,none⟩)
 |.aI γ o n,v=>qE ρ hp w γ o n v
 |p,v=>Qu w (aK C ρ hp) p v
def Qn(C:Ctx)(ρ:Nat->Option Nat)(hp:HP)(w:World):PV->Value->Prop
 |.undef,_=>True
 |.mp β i o,v=>dh C ρ hp w (.mp β i o) v
 |.aB β o n,v=>dh C ρ hp w (.aB β o n) v
 |.rb β o n,v=>dh C ρ hp w (.rb β o n) v
 |.np γ i o,v=>dh C ρ hp w (.np γ i o) v
 |.aI γ o n,v=>dh C ρ hp w (.aI γ o n) v
 |.bo cs,v=>∃vs:Array Value,v= .agg vs/\vs.size=cs.length/\∀(i:Nat)(x:PV),cs[i]? =some x->df C ρ hp w x (vs.getD i undef)
 |.dX cs,v=>∃vs:Array Value,v= .tuple vs/\vs.size=cs.length/\∀(i:Nat)(x:PV),cs[i]? =some x->df C ρ hp w x (vs.getD i undef)
 |.aC γ e ty xs,_=>bJ γ=true/\0<e/\∃(b:Nat) (hb:HB) (cur:Array Value) (cap:Nat),ρ γ=some b/\hp γ=some hb/\hb.xs=[]/\hb.e=e/\hb.ty=ty/\w.heap[b]? =some (.cells cur ty (0,0))/\cur.size=cap*e/\xs.length<=cap/\cap<=maxLen/\
   (∀(i:Nat)(x:PV),xs[i]? =some x->x.aS.length=e)/\∀(i:Nat)(x:PV),xs[i]? =some x->∀(j:Nat)(y:PV),x.aS[j]? =some y->df C ρ hp w y (cur.getD (i*e+j) undef)
 |.fn f first cap,v=>∃fv cv:Array Value,v= .func (.func f) fv cv/\fv.size=first.length/\cv.size=cap.length/\
   (∀(i:Nat)(x:PV),first[i]? =some x->dh C ρ hp w x (fv.getD i undef))/\(∀(i:Nat)(x:PV),cap[i]? =some x->dh C ρ hp w x (cv.getD i undef))
 |p,v=>fE w (aK C ρ hp) p v
structure Qv(C:Ctx)(ρ:Nat->Option Nat)(fr:Fr)(hp:HP)(tmps:Array Value)(w:World):Prop where
 sz:tmps.size=C.N
 ext:Ext C.Y0 C.w0 w
 fT:∀β b,C.fx β=some b->∀e cap,dH C.w0 b e cap->dH w b e cap
 own:∀β hb,hp β=some hb->vk C ρ hp w β hb
 inj:∀β γ b,hp β≠none->hp γ≠none->ρ β=some b->ρ γ=some b->β=γ
 cN:∀i,Qn C ρ hp w (fr i) (tmps.getD i undef)
def ft(C:Ctx)(fr:Fr)(hp:HP)(tmps:Array Value)(w:World):Prop:=∃ρ,Qv C ρ fr hp tmps w
def w7(tmps:Array Value)(d:Option Nat)(v:Value):Array Value:=match d with|some d=>tmps.setIfInBounds d v|none=>tmps
def Wk(fr:Fr)(hp:HP)(aG:Fr)(hp':HP):Prop:=∀(C:Ctx)(tmps:Array Value)(w:World),ft C fr hp tmps w->ft C aG hp' tmps w
def gl(C:Ctx)(pr:Bool)(f:PV)(args:List PV)(d:Option Nat)(fr:Fr)(hp:HP)(K:Qh):Prop:=
 match f with
 |.fn g first cap => (C.P.funcs[g]?).any (fun fn => fn.body.isSome && fn.name != "runtime.NumGoroutine") = true /\
  ∀ρ tmps w (fv cv av:Array Value),(∀x,d=some x->x<C.N)->Qv C ρ fr hp tmps w->
   fv.size=first.length->cv.size=cap.length->av.size=args.length->
   (∀(i:Nat)(x:PV),first[i]? =some x->dh C ρ hp w x (fv.getD i undef))->(∀(i:Nat)(x:PV),cap[i]? =some x->dh C ρ hp w x (cv.getD i undef))->
   (∀(i:Nat)(x:PV),args[i]? =some x->Qn C ρ hp w x (av.getD i undef))->
   Calls C.P g (fv++av++cv) w fun e w'=>∃v aG hp',e= .returned v/\ft C aG hp' (w7 tmps d v) w'/\(pr=true->Ext eP w w')/\K aG hp'
 |_=>False
def bP(C:Ctx)(o:cO)(fr:Fr)(hp:HP)(K:Qh):Prop:=
 match o with
 |.mv d x=>K (af fr d (ev fr x)) hp
 |.pick d c a b=>vf (ev fr c) (ev fr a) (ev fr b) d fr hp K
 |.bin d op bt x y=>cu op bt (ev fr x) (ev fr y) d fr hp K
 |.eqs d ng x y=>tV ng (ev fr x) (ev fr y) d fr hp K
 |.cY d ng x y=>tW ng (ev fr x) (ev fr y) d fr hp K
 |.FA d x=>yR (ev fr x) d fr hp K
 |.Fz d x i=>wY (ev fr x) (ev fr i) d fr hp K
 |.un d op x=>xY op (ev fr x) d fr hp K
 |.conv d k x=>yK k (ev fr x) d fr hp K
 |.len d x=>rI (ev fr x) d fr hp K
 |.mx d x y=>z6 (ev fr x) (ev fr y) d fr hp K
 |.mn d x y=>z4 (ev fr x) (ev fr y) d fr hp K
 |.idx d e x i=>jQ e (ev fr x) (ev fr i) d fr hp K
 |.BV d n e x i=>wR n e (ev fr x) (ev fr i) d fr hp K
 |.BW d n e ag x i=>wZ n e ag (ev fr x) (ev fr i) d fr hp K
 |.gI d off x=>tX off (ev fr x) d fr hp K
 |.Bv d off n ag x=>tS off n ag (ev fr x) d fr hp K
 |.ld d n ag x=>kf n ag (ev fr x) d fr hp K
 |.st n x v=>qf n (ev fr x) (ev fr v) fr hp K
 |.box d n ty v=>jB n ty (ev fr v) d fr hp K
 |.alloc d n ty z=>jB n ty z d fr hp K
 |.mk d e by_ ty z l c=>qe e by_ ty z (ev fr l) (ev fr c) d fr hp K
 |.bs d e ty ps=>mu e ty (ps.map (ev fr)) d fr hp K
 |.app d e by_ ty s x=>ia e by_ ty (ev fr s) (ev fr x) d fr hp K
 |.vD d e s x=>sK e (ev fr s) (ev fr x) d fr hp K
 |.sl d e x lo hi mx=>kj e (ev fr x) (lo.map (ev fr)) (hi.map (ev fr)) (mx.map (ev fr)) d fr hp K
 |.ext d x i=>qD (ev fr x) i d fr hp K
 |.eB d zero ps=>oA zero (ps.map fun p=>(p.1,p.2.1,ev fr p.2.2)) d fr hp K
 |.fn d f first cap=>(first.map (ev fr)++cap.map (ev fr)).all PV.nk=true/\K (af fr d (.fn f (first.map (ev fr)) (cap.map (ev fr)))) hp
 |.call d pr f args=>gl C pr (ev fr f) (args.map (ev fr)) d fr hp K
 |.Fp d x=>DK (ev fr x) d fr hp K
 |.bad _=>False
def lA(o:cO)(fr:Fr)(hp:HP)(K:Qh):Prop:=
 match o.dst with
 |some d=>K (af fr d (.aH [])) hp
 |none=>K fr hp
def rJ(C:Ctx)(g:Option (Nat×Bool))(o:cO)(fr:Fr)(hp:HP)(K:Qh):Prop:=
 match g with
 |none=>bP C o fr hp K
 |some (s,want)=>match fr s with
  |.bool t=>(t=want->bP C o (af fr s (.bool want)) hp K)/\(t=(!want)->lA o (af fr s (.bool !want)) hp K)
  |.aH []=>lA o fr hp K
  |_=>False
inductive It where
 |c (s:SC)
 |o (r:RT)
 |eb (id:Nat)
 |el (J:Qh)
def RT.sz:RT->Nat
 |.nil=>1
 |.o _ _ r=>r.sz+1
 |.br a b=>a.sz+b.sz+1
 |.wk r=>r.sz+1
def SC.sz:SC->Nat
 |.rg r=>r.sz+1
 |.seq a b=>a.sz+b.sz+1
 |.cond _ a b=>a.sz+b.sz+1
 |.block _ a=>a.sz+2
 |.loop a=>a.sz+2
 |_=>1
def It.sz:It->Nat
 |.c s=>s.sz
 |.o r=>r.sz
 |_=>1
def cw:List It->Nat
 | []=>0
 |i::is=>i.sz+cw is
def cC(id:Nat):List It->Option (List It)
 | []=>none
 |.eb i::sk=>if i=id then some sk else cC id sk
 |_::sk=>cC id sk
theorem Cz(id:Nat):∀(sk fj:List It),FW.cC id sk=some fj->cw fj<=cw sk
 | [],_,h=>by simp[FW.cC]at h
 |.c s::sk,fj,h=>by have:=Cz id sk fj (by simpa[FW.cC]using h);simp[cw];omega
 |.o s::sk,fj,h=>by have:=Cz id sk fj (by simpa[FW.cC]using h);simp[cw];omega
 |.el s::sk,fj,h=>by have:=Cz id sk fj (by simpa[FW.cC]using h);simp[cw];omega
 |.eb i::sk,fj,h=>by
  simp only[FW.cC]at h;split at h
  ·cases h;simp[cw]
  ·have:=Cz id sk fj h;simp[cw];omega
theorem RT.B9(r:RT):0<r.sz:=by cases r<;>simp[RT.sz]
theorem SC.B9(s:SC):0<s.sz:=by cases s<;>simp[SC.sz]
def vc(C:Ctx)(R:Qh)(sk:List It)(fr:Fr)(hp:HP):Prop:=
 match sk with
 | []=>R fr hp
 |.el J::_=>J fr hp
 |.eb _::sk=>vc C R sk fr hp
 |.o .nil::sk=>vc C R sk fr hp
 |.o (.o g o r)::sk=>rJ C g o fr hp (fun fr hp=>vc C R (.o r::sk) fr hp)
 |.o (.br a b)::sk=>vc C R (.o a::sk) fr hp/\vc C R (.o b::sk) fr hp
 |.o (.wk r)::sk=>∃bU aA,Wk fr hp bU aA/\vc C R (.o r::sk) bU aA
 |.c .skip::sk=>vc C R sk fr hp
 |.c (.rg r)::sk=>vc C R (.o r::sk) fr hp
 |.c (.raw id ops)::sk=>∀tmps w Q,ft C fr hp tmps w->(∀aG hp' FE w',ft C aG hp' FE w'->vc C R sk aG hp'->Q .normal { tmps:=FE,defers:=[] } w')->(Code.region id ops true).wp C.P Q { tmps:=tmps,defers:=[] } w
 |.c (.seq a b)::sk=>vc C R (.c a:: .c b::sk) fr hp
 |.c (.cond c a b)::sk=>match ev fr c with
  |.bool t=>(t=true->vc C R (.c a::sk) fr hp)/\(t=false->vc C R (.c b::sk) fr hp)
  |_=>False
 |.c (.block id a)::sk=>vc C R (.c a:: .eb id::sk) fr hp
 |.c (.loop a)::sk=>∃(I:Qh)(μ:Fr->HP->Nat),(∃bU aA,Wk fr hp bU aA/\I bU aA)/\∀fr hp,I fr hp->vc C R (.c a:: .el (fun aG hp'=>∃bU aA,Wk aG hp' bU aA/\I bU aA/\μ bU aA<μ fr hp)::sk) fr hp
 |.c (.exit id)::sk=>match h:FW.cC id sk with
  |some fj=>vc C R fj fr hp
  |none=>False
 |.c .ret::_=>R fr hp
termination_by cw sk
decreasing_by
 all_goals simp only[cw,It.sz,SC.sz,RT.sz]
 all_goals first|omega|(have:=Cz _ _ _ h;omega)|skip
variable {C : Ctx} {ρ : Nat -> Option Nat} {fr : Fr} {hp : HP} {tmps : Array Value} {w : World}
theorem fF.move{ρ':Nat->Option Nat}{hp':HP}{w':World}{β o n:Nat}{v:Value}(h:fF ρ hp w β o n v)
  (hr:ρ' β=ρ β/\∀hb,hp β=some hb->∃ax,hp' β=some ax/\ax.e=hb.e/\hb.xs.length<=ax.xs.length/\∀b cap,ρ β=some b->dH w b hb.e cap->dH w' b hb.e cap):fF ρ' hp' w' β o n v:=by
 obtain⟨hb,h2,h3,h4⟩:=h;obtain⟨e1,e2⟩:=hr;obtain⟨ax,h5,h6,h7,h8⟩:=e2 hb h2;refine⟨ax,h5,Kap h3 h7,?_⟩;rcases h4 with⟨g1,g2,g3⟩|⟨b,cap,g1,g2,g3,g4⟩
 ·exact .inl ⟨by rw[e1];exact g1,g2,g3⟩
 ·exact .inr ⟨b,cap,by rw[e1];exact g1,by rw[h6];exact g2,by rw[h6];exact h8 b (o+cap) g1 g3,g4⟩
structure nB(w w':World)(X X':Nat->Prop):Prop where
 dd:∀b,b<w.heap.size->¬X b->w'.heap[b]? =w.heap[b]?
 out:∀b,b<w.heap.size->¬X b->¬X' b
 size:w.heap.size<=w'.heap.size
theorem nB.rc{w w':World}{X X':Nat->Prop}(h:nB w w' X X'):∀q u,Qu w X q u->Qu w' X' q u:=fun _ _ hq=>hq.mono h.dd h.out h.size
structure qg(ρ ρ':Nat->Option Nat)(hp hp':HP)(w w':World)(β:Nat):Prop where
 r:ρ' β=ρ β
 h:∀hb,hp β=some hb->∃ax,hp' β=some ax/\ax.e=hb.e/\hb.xs.length<=ax.xs.length/\(∀b cap,ρ β=some b->dH w b hb.e cap->dH w' b hb.e cap)/\(hb.xs=[]->ax.xs=[]/\ax.ty=hb.ty/\∀b,ρ β=some b->w'.heap[b]? =w.heap[b]?)
theorem qg.o{ρ':Nat->Option Nat}{hp':HP}{w':World}{β:Nat}(h:qg ρ ρ' hp hp' w w' β):ρ' β=ρ β/\∀hb,hp β=some hb->∃ax,hp' β=some ax/\ax.e=hb.e/\hb.xs.length<=ax.xs.length/\∀b cap,ρ β=some b->dH w b hb.e cap->dH w' b hb.e cap:=
 ⟨h.r,fun hb ae=>let⟨ax,a,b,c,d,_⟩:=h.h hb ae;⟨ax,a,b,c,d⟩⟩
structure vl(ρ ρ':Nat->Option Nat)(hp hp':HP)(w w':World)(β:Nat):Prop where
 r:ρ' β=ρ β
 h:∀hb,hp β=some hb->∃ax,hp' β=some ax/\ax.e=hb.e/\hb.xs.length<=ax.xs.length/\∀b cap,ρ β=some b->dH w b hb.e cap->dH w' b hb.e cap
theorem qg.xZ{ρ':Nat->Option Nat}{hp':HP}{w':World}{β:Nat}(h:qg ρ ρ' hp hp' w w' β):vl ρ ρ' hp hp' w w' β:=⟨h.r,h.o.2⟩
theorem qE.move{ρ':Nat->Option Nat}{hp':HP}{w':World}{γ o n:Nat}{v:Value}(h:qE ρ hp w γ o n v)(hr:vl ρ ρ' hp hp' w w' γ):qE ρ' hp' w' γ o n v:=by obtain⟨h0,hb,b,cap,h1,h2,h3,h4,h5,h6⟩:=h;obtain⟨ax,a1,a2,_,a4⟩:=hr.h hb h1;exact⟨h0,ax,b,cap,a1,by rw[hr.r];exact h2,by rw[a2];exact h3,by rw[a2];exact a4 b _ h2 h4,h5,h6⟩
theorem df.move{ρ':Nat->Option Nat}{hp':HP}{w':World}{p:PV}{v:Value}(h:df C ρ hp w p v)(hc:nB w w' (aK C ρ hp) (aK C ρ' hp'))(hs:∀β∈p.gU,vl ρ ρ' hp hp' w w' β):df C ρ' hp' w' p v:=by
 cases p with
 |undef=>trivial
 |aB β o n=>exact⟨h.1,fF.move h.2 ⟨(hs β (by simp[PV.gU])).r,(hs β (by simp[PV.gU])).h⟩⟩
 |aI γ o n=>exact qE.move h (hs γ (by simp[PV.gU]))
 |_=>exact hc.rc _ _ h
theorem dh.move{ρ':Nat->Option Nat}{hp':HP}{w':World}{p:PV}{v:Value}(h:dh C ρ hp w p v)
  (hc:nB w w' (aK C ρ hp) (aK C ρ' hp'))
  (hr:∀β∈p.cn,ρ' β=ρ β/\∀hb,hp β=some hb->∃ax,hp' β=some ax/\ax.e=hb.e/\hb.xs.length<=ax.xs.length/\∀b cap,ρ β=some b->dH w b hb.e cap->dH w' b hb.e cap)
  (hs:∀β∈p.fh,vl ρ ρ' hp hp' w w' β):
  dh C ρ' hp' w' p v:=by
 cases p with
 |mp β i o=>obtain⟨b,hb,h1,h2,h3⟩:=h;obtain⟨e1,e2⟩:=hr β (by simp[PV.cn]);obtain⟨ax,h4,h5,_,_⟩:=e2 hb h2;exact⟨b,ax,by rw[e1];exact h1,h4,by rw[h5];exact h3⟩
 |aB β o n=>exact fF.move h (hr β (by simp[PV.cn]))
 |rb β o n=>obtain⟨b,u,h1,h2,h3,h4,h5⟩:=h;exact⟨b,u,h1,Kby h2 hc.size,hc.out b h2 h3,(yg (hc.dd b h2 h3)).trans h4,fF.move h5 (hr β (by simp[PV.cn]))⟩
 |np γ i o=>obtain⟨h0,b,hb,h1,h2,h3⟩:=h;have hq:=hs γ (by simp[PV.fh]);obtain⟨ax,a1,a2,_⟩:=hq.h hb h2;exact⟨h0,b,ax,by rw[hq.r];exact h1,a1,by rw[a2];exact h3⟩
 |aI γ o n=>exact qE.move h (hs γ (by simp[PV.fh]))
 |_=>exact hc.rc _ _ h
theorem Kv{f:FuncId}{first cap:List PV}{i:Nat}{x:PV}(h:first[i]? =some x):∀β∈x.cn,β∈(PV.fn f first cap).refs:=by intro β ae;simp only[PV.refs,KaL,Kat];exact .inl ⟨x,Kai h,ae⟩
theorem KG{f:FuncId}{first cap:List PV}{i:Nat}{x:PV}(h:cap[i]? =some x):∀β∈x.cn,β∈(PV.fn f first cap).refs:=by intro β ae;simp only[PV.refs,KaL,Kat];exact .inr ⟨x,Kai h,ae⟩
theorem fE.move{w':World}{X X':Nat->Prop}{p:PV}{v:Value}(h:fE w X p v)(hc:∀q u,Qu w X q u->Qu w' X' q u):fE w' X' p v:=by
 have h1:∀p v,bT w X p v->bT w' X' p v:=by
  intro p v h;cases p with
  |agg cs=>obtain⟨vs,rfl,h1,h2⟩:=h;exact⟨vs,rfl,h1,fun i x hi=>hc _ _ (h2 i x hi)⟩
  |_=>exact hc _ _ h
 cases p with
 |aH ps=>obtain⟨vs,rfl,g1,g2⟩:=h;exact⟨vs,rfl,g1,fun i x hi=>h1 _ _ (g2 i x hi)⟩
 |agg cs=>exact h1 (.agg cs) v h
 |_=>exact hc _ _ h
theorem Qn.move{ρ':Nat->Option Nat}{hp':HP}{w':World}{p:PV}{v:Value}(h:Qn C ρ hp w p v)
  (hc:nB w w' (aK C ρ hp) (aK C ρ' hp'))
  (hr:∀β∈p.refs,ρ' β=ρ β/\∀hb,hp β=some hb->∃ax,hp' β=some ax/\ax.e=hb.e/\hb.xs.length<=ax.xs.length/\∀b cap,ρ β=some b->dH w b hb.e cap->dH w' b hb.e cap)
  (hs:∀β∈p.aQ,vl ρ ρ' hp hp' w w' β) (hn:∀γ e ty xs,p= .aC γ e ty xs->qg ρ ρ' hp hp' w w' γ):
  Qn C ρ' hp' w' p v:=by
 cases p with
 |undef=>trivial
 |mp β i o=>exact dh.move (p:=.mp β i o) h hc (fun bA oP=>hr bA oP) (fun β ae=>by cases ae)
 |aB β o n=>exact dh.move (p:=.aB β o n) h hc (fun bA oP=>hr bA oP) (fun β ae=>by cases ae)
 |rb β o n=>exact dh.move (p:=.rb β o n) h hc (fun bA oP=>hr bA oP) (fun β ae=>by cases ae)
 |np γ i o=>exact dh.move (p:=.np γ i o) h hc (fun β ae=>by cases ae) (fun bA oP=>hs bA oP)
 |aI γ o n=>exact dh.move (p:=.aI γ o n) h hc (fun β ae=>by cases ae) (fun bA oP=>hs bA oP)
 |bo cs=>obtain⟨vs,rfl,h1,h2⟩:=h;exact⟨vs,rfl,h1,fun i x hi=>(h2 i x hi).move hc (fun β ae=>hs β (Kat.2 ⟨x,Kai hi,ae⟩))⟩
 |dX cs=>obtain⟨vs,rfl,h1,h2⟩:=h;exact⟨vs,rfl,h1,fun i x hi=>(h2 i x hi).move hc (fun β ae=>hs β (Kat.2 ⟨x,Kai hi,ae⟩))⟩
 |aC γ e ty xs=>obtain⟨h0,he,b,hb,cur,cap,h1,h2,h3,h4,h5,h6,h7,h8,h9,bp,bZ⟩:=h;have hq:=hn γ e ty xs rfl;obtain⟨ax,a1,a2,_,_,a5⟩:=hq.h hb h2;obtain⟨a5,a6,a7⟩:=a5 h3;refine⟨h0,he,b,ax,cur,cap,by rw[hq.r];exact h1,a1,a5,by rw[a2];exact h4,by rw[a6];exact h5,by rw[a7 b h1];exact h6,h7,h8,h9,bp,fun i x hi j y hy=>(bZ i x hi j y hy).move hc (fun β ae=>hs β ?_)⟩;refine Ka1 _ (Kat.2 ⟨x,Kai hi,Kat.2 ⟨y,Kai hy,ae⟩⟩)
 | fn f first cap=>
  obtain⟨fv,cv,rfl,h1,h2,h3,h4⟩:=h;exact⟨fv,cv,rfl,h1,h2,fun i x hi=>(h3 i x hi).move hc (fun β ae=>hr β (Kv hi β ae)) (fun β ae=>hs β (KaL.2 (.inl (Kat.2 ⟨x,Kai hi,ae⟩)))),
   fun i x hi=>(h4 i x hi).move hc (fun β ae=>hr β (KG hi β ae)) (fun β ae=>hs β (KaL.2 (.inr (Kat.2 ⟨x,Kai hi,ae⟩))))⟩
 |agg cs=>exact fE.move (p:=.agg cs) h hc.rc
 |aH cs=>exact fE.move (p:=.aH cs) h hc.rc
 |_=>exact hc.rc _ _ h
theorem Qn.tx{ρ':Nat->Option Nat}{hp':HP}{w':World}{p:PV}{v:Value}(h:Qn C ρ hp w p v)
  (hc:nB w w' (aK C ρ hp) (aK C ρ' hp'))
  (hr:∀β∈p.refs,ρ' β=ρ β/\∀hb,hp β=some hb->∃ax,hp' β=some ax/\ax.e=hb.e/\hb.xs.length<=ax.xs.length/\∀b cap,ρ β=some b->dH w b hb.e cap->dH w' b hb.e cap)
  (hs:∀β∈p.aQ,qg ρ ρ' hp hp' w w' β):Qn C ρ' hp' w' p v:=
 h.move hc hr (fun β ae=>(hs β ae).xZ) (fun γ e ty xs e1=>hs γ (by rw[e1];simp[PV.aQ]))
theorem oh{w w':World}{b e cap:Nat}(h:w'.heap[b]? =w.heap[b]?)(hc:dH w b e cap):dH w' b e cap:=by obtain⟨cur,ty,h1,h2⟩:=hc;exact⟨cur,ty,by rw[h];exact h1,h2⟩
theorem oo{w:World}{b e cap:Nat}(hc:dH w b e cap):b<w.heap.size:=by obtain⟨cur,ty,h1,_⟩:=hc;exact(KbW.1 h1).1
theorem Ab.move{w w':World}{X X':Nat->Prop}{b:Nat}{hb ax:HB}(h:Ab w X b hb)(hh:w'.heap[b]? =w.heap[b]?)(e1:ax.e=hb.e)(e2:ax.ty=hb.ty)(e3:ax.xs=hb.xs)
  (hc:∀q u,Qu w X q u->Qu w' X' q u):Ab w' X' b ax:=by
 obtain⟨cur,cap,h1,h2,h3,h4,h5⟩:=h;exact⟨cur,cap,by rw[hh,e2];exact h1,by rw[e1];exact h2,by rw[e3];exact h3,h4,fun i x hi j y hy=>by rw[e1];exact hc _ _ (h5 i x (by rw[<-e3];exact hi) j y hy)⟩
theorem Qv.af(h:Qv C ρ fr hp tmps w){d:Nat}{p:PV}{v:Value}(hv:Qn C ρ hp w p v)(hd:d<C.N):Qv C ρ (af fr d p) hp (tmps.setIfInBounds d v) w:=by
 refine⟨by simpa using h.sz,h.ext,h.fT,h.own,h.inj,fun i=>?_⟩;unfold FW.af;split
 ·rename_i he;subst he;simpa[Array.getD,h.sz,hd]using hv
 ·rename_i he;have:(tmps.setIfInBounds d v).getD i undef=tmps.getD i undef:=by simp only[KaX];rw[KcI (fun e=>he e.symm)]
  rw[this];exact h.cN i
theorem K9{l:List Nat}{b:Nat}(h:aK C ρ (bW hp l) b):aK C ρ hp b:=by
 rcases h with h|⟨β,hb,h1,h2,h3⟩
 ·exact .inl h
 ·refine .inr ⟨β,hb,?_,h2,h3⟩;unfold bW at h1;split at h1
  ·cases hq:hp β with
   |none=>simp[hq]at h1
   |some hb0=>simp[hq]at h1;subst h1;simp at h2
  ·exact h1
theorem Gm{l:List Nat}{β:Nat}{hb:HB}(h:hp β=some hb):∃ax,bW hp l β=some ax/\ax.e=hb.e/\ax.ty=hb.ty/\ax.xs=hb.xs/\(ax.fz=false->ax=hb)/\(ax.fz=false->β ∉ l):=by
 unfold bW;by_cases hl:l.contains β=true
 ·rw[if_pos hl,h];exact⟨_,rfl,rfl,rfl,rfl,by simp,by simp⟩
 ·rw[if_neg hl,h];exact⟨hb,rfl,rfl,rfl,rfl,fun _=>rfl,fun _=>by simpa using hl⟩
theorem Ck{l:List Nat}{β:Nat}{ax:HB}(h:bW hp l β=some ax):∃hb,hp β=some hb/\ax.e=hb.e/\ax.ty=hb.ty/\ax.xs=hb.xs/\(ax.fz=false->ax=hb)/\(ax.fz=false->β ∉ l):=by
 cases hq:hp β with
 |none=>unfold bW at h;split at h<;>simp[hq]at h
 |some hb=>obtain⟨hb2,g1,g2⟩:=Gm (l:=l) hq;rw[g1]at h;cases h;exact⟨hb,rfl,g2⟩
theorem Qu.freeze{l:List Nat}{q:PV}{u:Value}(h:Qu w (aK C ρ hp) q u):Qu w (aK C ρ (bW hp l)) q u:=
 h.mono (fun _ _ _=>rfl) (fun _ _ hn hx=>hn (K9 hx)) (Kae _)
theorem Qv.freeze(h:Qv C ρ fr hp tmps w)(l:List Nat):Qv C ρ fr (bW hp l) tmps w:=by
 refine⟨h.sz,h.ext,h.fT,fun β ax ae=>?_,fun β γ b h1 h2 h3 h4=>?_,fun i=>?_⟩
 ·obtain⟨hb,g1,g2,g3,g4,g5,_⟩:=Ck ae;obtain⟨p1,p2,p3,p4,p5⟩:=h.own β hb g1;refine⟨by rw[g2];exact p1,fun i x hi=>by rw[g2];exact p2 i x (by rw[<-g4];exact hi),?_,p4,fun hq=>by
   cases hz:ax.fz with
   |true=>rfl
   |false=>rw[<-g5 hz,hz]at p5;cases p5 hq⟩
  cases bK:ρ β with
  |none=>rw[bK]at p3;simp only at p3 ⊢;rw[g4];exact p3
  |some b=>rw[bK]at p3;simp only at p3 ⊢;exact⟨p3.1,p3.2.1,p3.2.2.move rfl g2 g3 g4 (fun q u hq=>hq.freeze)⟩
 ·have f1:∀γ,FW.bW hp l γ≠none->hp γ≠none:=fun γ hn=>by
   cases hq:hp γ with
   |none=>unfold FW.bW at hn;split at hn<;>simp[hq]at hn
   |some _=>simp
  exact h.inj β γ b (f1 β h1) (f1 γ h2) h3 h4
 ·refine(h.cN i).tx ⟨fun _ _ _=>rfl,fun _ _ hn hx=>hn (K9 hx),Kae _⟩ (fun β _=>⟨rfl,fun hb ae=>by
  obtain⟨ax,g1,g2,_,g4,_⟩:=Gm (l:=l) ae;exact⟨ax,g1,g2,by rw[g4];exact Kae _,fun b cap _ hc=>hc⟩⟩) (fun β _=>⟨rfl,fun hb ae=>by
  obtain⟨ax,g1,g2,g3,g4,_⟩:=Gm (l:=l) ae;exact⟨ax,g1,g2,by rw[g4];exact Kae _,fun b cap _ hc=>hc,fun he=>⟨by rw[g4];exact he,g3,fun _ _=>rfl⟩⟩⟩)
theorem Qv.grow{w':World}(h:Qv C ρ fr hp tmps w)(hx:Ext eP w w'):Qv C ρ fr hp tmps w':=by
 have dA:nB w w' (aK C ρ hp) (aK C ρ hp):=⟨fun b hb _=>hx.block b hb (fun h=>h),fun _ _ hn=>hn,hx.size⟩
 have hc:=dA.rc;refine⟨h.sz,h.ext.trans' hx (fun _ _ h=>h.elim),fun b0 b hb e cap hc=>oh (hx.block b (oo (h.fT b0 b hb e cap hc)) (fun h=>h)) (h.fT b0 b hb e cap hc),fun β hb ae=>?_,h.inj,fun i=>?_⟩
 ·obtain⟨p1,p2,p3,p4,p5⟩:=h.own β hb ae;refine⟨p1,p2,?_,p4,p5⟩;cases bK:ρ β with
  |none=>rw[bK]at p3;exact p3
  |some b=>rw[bK]at p3;exact⟨p3.1,Kby p3.2.1 hx.size,p3.2.2.move (hx.block b p3.2.1 (fun h=>h)) rfl rfl rfl hc⟩
 ·exact(h.cN i).tx dA (fun β _=>⟨rfl,fun hb ae=>⟨hb,ae,rfl,Kae _,fun b cap _ eD=>oh (hx.block b (oo eD) (fun h=>h)) eD⟩⟩)
   (fun β _=>⟨rfl,fun hb ae=>⟨hb,ae,rfl,Kae _,fun b cap _ eD=>oh (hx.block b (oo eD) (fun h=>h)) eD,fun he=>⟨he,rfl,fun b bK=>hx.block b (by have:=(h.own β hb ae).dd;rw[bK]at this;exact this.2.1) (fun h=>h)⟩⟩⟩)
theorem VL{β:Nat}{p:PV}:∀γ∈(cA β p).refs,γ≠β/\γ∈p.refs:=by
 intro γ aj;unfold cA at aj;split at aj
 ·simp[PV.refs]at aj
 ·rename_i hn;refine⟨fun he=>hn (by subst he;simpa using aj),aj⟩
theorem Qn.kill{β:Nat}{p:PV}{v:Value}(h:Qn C ρ hp w p v):Qn C ρ hp w (cA β p) v:=by
 unfold cA;split
 ·trivial
 ·exact h
theorem df.FC{p:PV}{v:Value}(h:df C ρ hp w p v):∀γ∈p.gU,bJ γ=true:=by
 intro γ aj;cases p with
 |aB β o n=>simp[PV.gU]at aj;subst aj;exact h.1
 |aI β o n=>simp[PV.gU]at aj;subst aj;exact h.1
 |np β o n=>cases h
 |_=>cases aj
theorem dh.ZT{p:PV}{v:Value}(h:dh C ρ hp w p v):∀γ∈p.fh,bJ γ=true:=by
 intro γ aj;cases p with
 |aI β o n=>simp[PV.fh]at aj;subst aj;exact h.1
 |np β o n=>simp[PV.fh]at aj;subst aj;exact h.1
 |_=>cases aj
theorem Qn.FC{p:PV}{v:Value}(h:Qn C ρ hp w p v):∀γ∈p.aQ,bJ γ=true:=by
 intro γ aj;cases p with
 |aI β o n=>simp[PV.aQ]at aj;subst aj;exact h.1
 |np β o n=>simp[PV.aQ]at aj;subst aj;exact h.1
 |bo cs=>obtain⟨vs,_,_,h2⟩:=h;obtain⟨x,hx,aj⟩:=Kat.1 aj;obtain⟨i,hi⟩:=KaM hx;exact(h2 i x hi).FC γ aj
 |dX cs=>obtain⟨vs,_,_,h2⟩:=h;obtain⟨x,hx,aj⟩:=Kat.1 aj;obtain⟨i,hi⟩:=KaM hx;exact(h2 i x hi).FC γ aj
 | aC β e ty xs=>
  obtain⟨h0,_,b,hb,cur,cap,_,_,_,_,_,_,_,_,_,_,bZ⟩:=h;rcases KaG.1 aj with rfl|aj
  ·exact h0
  ·obtain⟨x,hx,aj⟩:=Kat.1 aj;obtain⟨y,hy,aj⟩:=Kat.1 aj;obtain⟨i,hi⟩:=KaM hx;obtain⟨j,hj⟩:=KaM hy;exact(bZ i x hi j y hj).FC γ aj
 | fn f first cap=>
  obtain⟨fv,cv,_,_,_,h3,h4⟩:=h;rcases KaL.1 aj with aj|aj
  ·obtain⟨x,hx,aj⟩:=Kat.1 aj;obtain⟨i,hi⟩:=KaM hx;exact(h3 i x hi).ZT γ aj
  ·obtain⟨x,hx,aj⟩:=Kat.1 aj;obtain⟨i,hi⟩:=KaM hx;exact(h4 i x hi).ZT γ aj
 |_=>cases aj
def rb(ρ:Nat->Option Nat)(β:Nat)(b':Option Nat):Nat->Option Nat:=fun γ=>if γ=β then b' else ρ γ
theorem kn(ρ:Nat->Option Nat)(β:Nat)(b':Option Nat):rb ρ β b' β=b':=by simp[rb]
theorem tP{ρ:Nat->Option Nat}{β γ:Nat}{b':Option Nat}(h:γ≠β):rb ρ β b' γ=ρ γ:=by simp[rb,h]
def Ac(C:Ctx)(ρ:Nat->Option Nat)(hp:HP)(w:World)(β:Nat)(fr aG:Fr):Prop:=∀(i:Nat)(v:Value),Qn C ρ hp w (fr i) v->Qn C ρ hp w (aG i) v/\(∀γ∈(aG i).refs,γ≠β)/\∀γ∈(aG i).aQ,γ≠β
theorem GP{β:Nat}(hB:bJ β=false):Ac C ρ hp w β fr (cP β fr):=fun i v h=>by have hk:=Qn.kill (β:=β) h;exact⟨hk,fun γ aj=>(VL γ aj).1,fun γ aj e=>by have:=hk.FC γ aj;rw[e,hB]at this;cases this⟩
theorem Qv.B7{w':World}{aG:Fr}(h:Qv C ρ fr hp tmps w)(β:Nat)(b':Option Nat)(ax:HB)(hB:aR β=false)(tc:Ac C ρ hp w β fr aG)
  (hx:Ext (fun b=>ρ β=some b/\∃hb,hp β=some hb/\hb.fz=false) w w')
  (pS:∀c,b'=some c->(C.w0.heap.size<=c∨C.Z0 c)/\c<w'.heap.size/\(w.heap.size<=c∨(ρ β=some c/\∃hb,hp β=some hb/\hb.fz=false)))
  (he:0<ax.e) (hl:∀(i:Nat)(x:PV),ax.xs[i]? =some x->x.cells.length=ax.e/\x.aN=true)
  (M6:b'=none->ax.xs=[]) (bl:∀c,b'=some c->∃(cur:Array Value) (cap:Nat),w'.heap[c]? =some (.cells cur ax.ty (0,0))/\cur.size=cap*ax.e/\ax.xs.length<=cap/\cap<=maxLen/\
   ∀(i:Nat)(x:PV),ax.xs[i]? =some x->∀(j:Nat)(y:PV),x.cells[j]? =some y->Qu w (aK C ρ hp) y (cur.getD (i*ax.e+j) undef)):
  Qv C (rb ρ β b') aG (Qj hp β ax) tmps w':=by
 have hX:∀b,b<w.heap.size->¬aK C ρ hp b->¬aK C (rb ρ β b') (Qj hp β ax) b:=by
  intro b hb hn bk;rcases bk with bk|⟨γ,hg,h1,h2,h3⟩
  ·exact hn (.inl bk)
  ·unfold Qj at h1;by_cases aj:γ=β
   ·subst aj;rw[kn]at h3;obtain⟨_,_,h4|⟨h5,hb0,h6,h7⟩⟩:=pS b h3
    ·omega
    ·exact hn (.inr ⟨γ,hb0,h6,h7,h5⟩)
   ·rw[if_neg aj]at h1;rw[tP aj]at h3;exact hn (.inr ⟨γ,hg,h1,h2,h3⟩)
 have dA:nB w w' (aK C ρ hp) (aK C (rb ρ β b') (Qj hp β ax)):=
  ⟨fun b hb hn=>hx.block b hb (fun⟨e1,hb0,e2,e3⟩=>hn (.inr ⟨β,hb0,e2,e3,e1⟩)),hX,hx.size⟩
 have hc:=dA.rc;have hold:∀b,ρ β=some b->(∃hb,hp β=some hb/\hb.fz=false)->C.w0.heap.size<=b∨C.Z0 b:=by intro b e1 ⟨hb0,e2,e3⟩;have:=(h.own β hb0 e2).dd;rw[e1]at this;exact Ctx.xm this.1 hB
 have lM:Ext C.Y0 C.w0 w':=by refine h.ext.trans' (Y':=fun b=>ρ β=some b/\∃hb,hp β=some hb/\hb.fz=false) hx ?_;intro b hb ⟨e1,e2⟩;exact(Ctx.N_Y (hold b e1 e2)).resolve_left (by omega)
 have EM:∀β b,C.fx β=some b->∀e cap,dH C.w0 b e cap->dH w' b e cap:=fun b0 b hb e cap dA=>by have h1:=h.fT b0 b hb e cap dA;refine oh (hx.block b (oo h1) ?_) h1;intro⟨e1,e2⟩;exact Ctx.Oq (hold b e1 e2) hb
 refine⟨h.sz,lM,EM,fun γ hg aj=>?_,fun γ δ b h1 h2 h3 h4=>?_,fun i=>?_⟩
 ·unfold Qj at aj;by_cases uE:γ=β
  ·rw[if_pos uE]at aj;cases aj;subst uE;refine⟨he,hl,?_,(fun hq=>by rw[hB]at hq;cases hq),fun hq=>by rw[Ba hB]at hq;cases hq⟩;rw[kn];cases b' with
   |none=>exact M6 rfl
   |some c=>obtain⟨cur,cap,c1,c2,c3,c4,c5⟩:=bl c rfl;exact⟨Ctx.WY (pS c rfl).1 hB,(pS c rfl).2.1,cur,cap,c1,c2,c3,c4,fun i x hi j y hy=>hc _ _ (c5 i x hi j y hy)⟩
  ·rw[if_neg uE]at aj;obtain⟨p1,p2,p3,p4,p5⟩:=h.own γ hg aj;refine⟨p1,p2,?_,(fun hq=>by rw[tP uE];exact p4 hq),p5⟩;rw[tP uE];cases bK:ρ γ with
   |none=>rw[bK]at p3;exact p3
   |some b=>rw[bK]at p3;refine⟨p3.1,Kby p3.2.1 hx.size,p3.2.2.move (hx.block b p3.2.1 ?_) rfl rfl rfl hc⟩;intro⟨e1,hb0,e2,_⟩;exact uE (h.inj γ β b (by simp[aj]) (by simp[e2]) bK e1)
 ·
  have key:∀γ b,γ≠β->hp γ≠none->ρ γ=some b->b'=some b->False:=by
   intro γ b aJ hs hr hb;obtain⟨_,_,h4|⟨h5,hb0,h6,h7⟩⟩:=pS b hb
   ·cases hq:hp γ with
    |none=>exact hs hq
    |some hg=>have:=(h.own γ hg hq).dd;rw[hr]at this;omega
   ·exact aJ (h.inj γ β b hs (by simp[h6]) hr h5)
  unfold Qj at h1 h2;by_cases aj:γ=β<;>by_cases mE:δ=β
  ·rw[aj,mE]
  ·subst aj;rw[kn]at h3;rw[tP mE]at h4;rw[if_neg mE]at h2;exact(key δ b mE h2 h4 h3).elim
  ·subst mE;rw[kn]at h4;rw[tP aj]at h3;rw[if_neg aj]at h1;exact(key γ b aj h1 h3 h4).elim
  ·rw[tP aj]at h3;rw[tP mE]at h4;rw[if_neg aj]at h1;rw[if_neg mE]at h2;exact h.inj γ δ b h1 h2 h3 h4
 ·obtain⟨hk,dR,qT⟩:=tc i _ (h.cN i);refine hk.tx dA (fun γ aj=>?_) (fun γ aj=>?_)
  ·have aJ:=dR γ aj;refine⟨tP aJ,fun hg iZ=>⟨hg,by simp[Qj,aJ,iZ],rfl,Kae _,fun b cap bK eD=>oh (hx.block b (oo eD) ?_) eD⟩⟩;intro⟨e1,hb0,e2,_⟩;exact aJ (h.inj γ β b (by simp[iZ]) (by simp[e2]) bK e1)
  ·have aJ:=qT γ aj;have ra:∀b hg,hp γ=some hg->ρ γ=some b->¬(ρ β=some b/\∃hb,hp β=some hb/\hb.fz=false):=fun b hg iZ bK ⟨e1,hb0,e2,_⟩=>aJ (h.inj γ β b (by simp[iZ]) (by simp[e2]) bK e1);refine⟨tP aJ,fun hg iZ=>⟨hg,by simp[Qj,aJ,iZ],rfl,Kae _,fun b cap bK eD=>oh (hx.block b (oo eD) (ra b hg iZ bK)) eD,fun he=>⟨he,rfl,fun b bK=>hx.block b ?_ (ra b hg iZ bK)⟩⟩⟩;have:=(h.own γ hg iZ).dd;rw[bK]at this;exact this.2.1
theorem Qv.rebind{w':World}(h:Qv C ρ fr hp tmps w)(β:Nat)(b':Option Nat)(ax:HB)(hB:bJ β=false)
  (hx:Ext (fun b=>ρ β=some b/\∃hb,hp β=some hb/\hb.fz=false) w w')
  (pS:∀c,b'=some c->(C.w0.heap.size<=c∨C.Z0 c)/\c<w'.heap.size/\(w.heap.size<=c∨(ρ β=some c/\∃hb,hp β=some hb/\hb.fz=false)))
  (he:0<ax.e) (hl:∀(i:Nat)(x:PV),ax.xs[i]? =some x->x.cells.length=ax.e/\x.aN=true)
  (M6:b'=none->ax.xs=[]) (bl:∀c,b'=some c->∃(cur:Array Value) (cap:Nat),w'.heap[c]? =some (.cells cur ax.ty (0,0))/\cur.size=cap*ax.e/\ax.xs.length<=cap/\cap<=maxLen/\
   ∀(i:Nat)(x:PV),ax.xs[i]? =some x->∀(j:Nat)(y:PV),x.cells[j]? =some y->Qu w (aK C ρ hp) y (cur.getD (i*ax.e+j) undef)):
  Qv C (rb ρ β b') (cP β fr) (Qj hp β ax) tmps w':=h.B7 β b' ax (Bb hB) (GP hB) hx pS he hl M6 bl
theorem Qv.store{w':World}(h:Qv C ρ fr hp tmps w)(β b:Nat)(hb ax:HB)(ae:hp β=some hb)(na:hb.fz=false)(aJ:hb.xs≠[])(bK:ρ β=some b)
  (hx:Ext (fun c=>c=b) w w') (e1:ax.e=hb.e) (e3:ax.xs.length=hb.xs.length) (e4:ax.fz=false)
  (hl:∀(i:Nat)(x:PV),ax.xs[i]? =some x->x.cells.length=ax.e/\x.aN=true)
  (eD:∀e cap,dH w b e cap->dH w' b e cap)
  (bl:∃(cur:Array Value) (cap:Nat),w'.heap[b]? =some (.cells cur ax.ty (0,0))/\cur.size=cap*ax.e/\ax.xs.length<=cap/\cap<=maxLen/\
   ∀(i:Nat)(x:PV),ax.xs[i]? =some x->∀(j:Nat)(y:PV),x.cells[j]? =some y->Qu w (aK C ρ hp) y (cur.getD (i*ax.e+j) undef)):Qv C ρ fr (Qj hp β ax) tmps w':=by
 have MV:∀c,aK C ρ (Qj hp β ax) c↔aK C ρ hp c:=by
  intro c;constructor
  ·rintro(hx|⟨γ,hg,h1,h2,h3⟩)
   ·exact .inl hx
   ·unfold Qj at h1;by_cases aj:γ=β
    ·subst aj;exact .inr ⟨γ,hb,ae,na,h3⟩
    ·rw[if_neg aj]at h1;exact .inr ⟨γ,hg,h1,h2,h3⟩
  ·rintro(hx|⟨γ,hg,h1,h2,h3⟩)
   ·exact .inl hx
   ·by_cases aj:γ=β
    ·subst aj;exact .inr ⟨γ,ax,by simp[Qj],e4,h3⟩
    ·exact .inr ⟨γ,hg,by simp[Qj,aj,h1],h2,h3⟩
 have hXf:aK C ρ (Qj hp β ax)=aK C ρ hp:=funext fun c=>propext (MV c);have M0:aK C ρ hp b:=.inr ⟨β,hb,ae,na,bK⟩;have zF:eH β=false:=by
  cases hq:eH β with
  |false=>rfl
  |true=>have:=(h.own β hb ae).ro hq;rw[na]at this;cases this
 have dA:nB w w' (aK C ρ hp) (aK C ρ (Qj hp β ax)):=by rw[hXf];exact⟨fun c hc hn=>hx.block c hc (fun e=>hn (e▸M0)),fun _ _ hn=>hn,hx.size⟩
 have hc:=dA.rc;have bE:=(h.own β hb ae).dd;rw[bK]at bE;have lM:Ext C.Y0 C.w0 w':=by refine h.ext.trans' (Y':=fun c=>c=b) hx ?_;intro c hc he;subst he;exact(Ctx.H5 bE.1 zF).resolve_left (by omega)
 have EM:∀β c,C.fx β=some c->∀e cap,dH C.w0 c e cap->dH w' c e cap:=fun b0 c dA e cap jk=>by
  have h1:=h.fT b0 c dA e cap jk;by_cases kB:c=b
  ·subst kB;exact eD e cap h1
  ·exact oh (hx.block c (oo h1) kB) h1
 refine⟨h.sz,lM,EM,fun γ hg aj=>?_,fun γ δ c h1 h2 h3 h4=>?_,fun i=>?_⟩
 ·unfold Qj at aj;by_cases uE:γ=β
  ·subst uE;rw[if_pos rfl]at aj;cases aj;refine⟨by rw[e1];exact(h.own γ hb ae).m6,hl,?_,(h.own γ hb ae).fix,fun hq=>by rw[zF]at hq;cases hq⟩;rw[bK];obtain⟨cur,cap,c1,c2,c3,c4,c5⟩:=bl;exact⟨bE.1,Kby bE.2.1 hx.size,cur,cap,c1,c2,c3,c4,fun i x hi j y hy=>hc _ _ (c5 i x hi j y hy)⟩
  ·rw[if_neg uE]at aj;obtain⟨p1,p2,p3,p4,p5⟩:=h.own γ hg aj;refine⟨p1,p2,?_,p4,p5⟩;cases hr:ρ γ with
   |none=>rw[hr]at p3;exact p3
   |some c=>rw[hr]at p3;exact⟨p3.1,Kby p3.2.1 hx.size,p3.2.2.move (hx.block c p3.2.1 (fun e=>uE (h.inj γ β b (by simp[aj]) (by simp[ae]) (e▸hr) bK))) rfl rfl rfl hc⟩
 ·have f1:∀γ,Qj hp β ax γ≠none->hp γ≠none:=fun γ hn=>by
   unfold Qj at hn;by_cases aj:γ=β
   ·subst aj;simp[ae]
   ·rwa[if_neg aj]at hn
  exact h.inj γ δ c (f1 γ h1) (f1 δ h2) h3 h4
 ·have key:∀γ,qg ρ ρ hp (Qj hp β ax) w w' γ:=fun γ=>⟨rfl,fun hg iZ=>by
   by_cases aj:γ=β
   ·subst aj;rw[ae]at iZ;cases iZ;exact⟨ax,by simp[Qj],e1,by rw[e3];exact Kae _,fun c cap hr jk=>by rw[bK]at hr;cases hr;exact eD _ cap jk,fun he=>absurd he aJ⟩
   ·have ra:∀c,ρ γ=some c->¬c=b:=fun c hr e=>aj (h.inj γ β b (by simp[iZ]) (by simp[ae]) (e▸hr) bK);refine⟨hg,by simp[Qj,aj,iZ],rfl,Kae _,fun c cap hr jk=>oh (hx.block c (oo jk) (ra c hr)) jk,fun he=>⟨he,rfl,fun c hr=>hx.block c ?_ (ra c hr)⟩⟩;have:=(h.own γ hg iZ).dd;rw[hr]at this;exact this.2.1⟩
  exact(h.cN i).tx dA (fun γ _=>(key γ).o) (fun γ _=>key γ)
end Go.FW
namespace Go.FW
open Go
variable {C : Ctx} {ρ : Nat -> Option Nat} {fr : Fr} {hp : HP} {w : World} {a : Act} {K : Qh}
theorem UD{X:Nat->Prop}{v:Value}{p:PV}(h:CR v=some p):Qu w X p v:=by unfold CR at h;split at h<;>simp at h<;>subst h<;>constructor
theorem oZ{α β:Type}{f:α->Option β}:∀ {l:List α} {r:List β},l.mapM f=some r->r.length=l.length/\∀(i:Nat)(y:β),r[i]? =some y->∃x,l[i]? =some x/\f x=some y
 | [],r,h=>by simp at h;subst h;simp
 |x::l,r,h=>by
  rw[KcD]at h;simp only[Kce,KcH,Kab,KaH]at h;obtain⟨y,hy,r',hr,rfl⟩:=h;obtain⟨h1,h2⟩:=oZ hr;refine⟨by simp[h1],fun i z hz=>?_⟩;cases i with
  |zero=>simp at hz;subst hz;exact⟨x,by simp,hy⟩
  |succ i=>simp at hz;simpa using h2 i z hz
theorem Gn(cs:Array Value)(i:Nat)(x:Value)(h:cs.toList[i]? =some x):cs.getD i undef=x:=by simp only[Array.getElem?_toList]at h;simp[KaX,h]
theorem uN{X:Nat->Prop}{v:Value}{p:PV}(h:uU v=some p):bT w X p v:=by
 unfold uU at h;split at h
 ·rename_i cs;simp only[Kaa]at h;obtain⟨l,h1,rfl⟩:=h;obtain⟨g1,g2⟩:=oZ h1;refine⟨cs,rfl,by simpa using g1.symm,fun i x hx=>?_⟩;obtain⟨u,hu,hc⟩:=g2 i x hx;rw[Gn cs i u hu];exact UD hc
 ·exact bT.tB (UD h)
theorem KH{v:Value}{p:PV}(h:uU v=some p):p.aN=true/\p.refs=[]/\(∀f first cap,p≠ .fn f first cap):=by
 unfold uU at h;split at h
 ·simp only[Kaa]at h;obtain⟨l,h1,rfl⟩:=h;simp[PV.aN,PV.refs]
 ·unfold CR at h;split at h<;>simp at h<;>subst h<;>simp[PV.aN,PV.refs]
theorem Qn.ZY{p:PV}{v:Value}(h:bT w (aK C ρ hp) p v)(hn:∀f first cap,p≠ .fn f first cap):Qn C ρ hp w p v:=by
 cases p with
 |fn f first cap=>exact absurd rfl (hn _ _ _)
 |undef=>trivial
 |mp=>cases h
 |aB=>cases h
 |rb=>cases h
 |aI=>cases h
 |np=>cases h
 |bo=>cases h
 |dX=>cases h
 |aC=>cases h
 |aH=>cases h
 |agg cs=>exact h
 |_=>exact h
theorem Qn.oc{p:PV}{v:Value}(h:bT w (aK C ρ hp) p v):Qn C ρ hp w p v:=by
 by_cases hf:∃f first cap,p= .fn f first cap
 ·obtain⟨f,first,cap,rfl⟩:=hf;cases h with
  |fn _ _ _ fv cv h1 h2 h3 h4=>
   refine⟨fv,cv,rfl,h1,h2,fun i x hi=>?_,fun i x hi=>?_⟩
   ·have:=h3 i x hi;cases x<;>first|exact this|cases this
   ·have:=h4 i x hi;cases x<;>first|exact this|cases this
 ·exact Qn.ZY h (fun f first cap e=>hf ⟨f,first,cap,e⟩)
theorem cR{x:Operand}{y:aX}(h:Qv C ρ fr hp a.tmps w)(ho:cx x=some y):Qn C ρ hp w (ev fr y) (a.eval x):=by
 cases x with
 |tmp t=>simp[cx]at ho;subst ho;exact h.cN t
 |const v=>simp only[cx,Kaa]at ho;obtain⟨p,hp',rfl⟩:=ho;exact Qn.ZY (uN hp') (KH hp').2.2
 |global g=>simp[cx]at ho
 |func f=>simp[cx]at ho;subst ho;exact⟨#[],#[],rfl,rfl,rfl,by simp,by simp⟩
theorem Qn.mF{k:IntKind}{n:Int}{v:Value}(h:Qn C ρ hp w (.int k n) v):v= .int k n:=by cases h;rfl
theorem Qn.Bs{b:Bool}{v:Value}(h:Qn C ρ hp w (.bool b) v):v= .bool b:=by cases h;rfl
theorem Qn.z7{v:Value}(h:Qn C ρ hp w .au v):v= .slice none 0 0:=by cases h;rfl
theorem Qn.mkInt(k:IntKind)(n:Int):Qn C ρ hp w (.int k n) (.int k n):=Qu.int k n
theorem Qn.xT(b:Bool):Qn C ρ hp w (.bool b) (.bool b):=Qu.bool b
theorem Qn.aag:Qn C ρ hp w (.aH []) undef:=⟨#[],rfl,rfl,by simp⟩
def Qz(C:Ctx)(ρ:Nat->Option Nat)(o:Oper)(a:Act)(w:World)(K:Qh):Prop:=
 ∃v,(∀w',(execOp a.eval o).run C.P w'= .ok (.value v) w')/\∃aG hp',Qv C ρ aG hp' (a.put o.dst v).tmps w/\K aG hp'
theorem Qz.mk{o:Oper}{d:Nat}{p:PV}{v:Value}(hd:o.dst=some d)(aw:d<C.N)(h:Qv C ρ fr hp a.tmps w)
  (cH:∀w',(execOp a.eval o).run C.P w'= .ok (.value v) w') (hr:Qn C ρ hp w p v) (hK:K (af fr d p) hp):Qz C ρ o a w K:=
 ⟨v,cH,af fr d p,hp,by rw[hd];exact h.af hr aw,hK⟩
theorem jJ{P:Program}{t:TypeId}{d:TypeDesc}(h:P.underlying t=some d)(w:World):(underlying t).run P w= .ok d w:=run_underlying h w
theorem nt{P:Program}{t:TypeId}{n:Nat}(h:fa P t=some n)(w:World):(sizeOf t).run P w= .ok n w:=by simp only[fa,Kaa]at h;obtain⟨i,hi,rfl⟩:=h;simp[sizeOf,typeInfo,hi]
theorem CA{P:Program}{t:TypeId}{ag:Bool}(h:oz P t=some ag)(w:World):(isAgg t).run P w= .ok ag w:=by simp only[oz,Kaa]at h;obtain⟨d,hd,rfl⟩:=h;simp only[isAgg,Kar,jJ hd,Kan];cases d<;>rfl
theorem Um{P:Program}{T:TypeId}(hu:P.underlying T=some .bool)(n m:Bool)(w:World):(Op.equal T (.bool n) (.bool m)).run P w= .ok (n==m) w:=by show(Op.equalIn (9999+1) T (.bool n) (.bool m)).run P w=_;unfold Op.equalIn;rw[Kar,jJ hu,Kan];rfl
theorem Q5v{P:Program}{T:TypeId}(hu:P.underlying T=some .bool)(n m:Bool)(w:World):(binOp .eql T (.bool n) (.bool m)).run P w= .ok (.bool (n==m)) w:=by show(do pure (Value.bool (<-Op.equal T (.bool n) (.bool m))):Sem Value).run P w=_;rw[Kar,Um hu,Kan];rfl
theorem Q5w{P:Program}{T:TypeId}(hu:P.underlying T=some .bool)(n m:Bool)(w:World):(binOp .neq T (.bool n) (.bool m)).run P w= .ok (.bool (!(n==m))) w:=by show(do pure (Value.bool (!(<-Op.equal T (.bool n) (.bool m)))):Sem Value).run P w=_;rw[Kar,Um hu,Kan];rfl
theorem si{o:Oper}{op:BinOp}{T T2:TypeId}{x y:Operand}(ho:o.op= .binOp op T x y T2){vx vy v:Value}(ex:a.eval x=vx)(ey:a.eval y=vy)
  (hg:∀w,(eqGuard op T x y vx vy).run C.P w= .ok () w) (hr:∀w,(binOp op T vx vy).run C.P w= .ok v w):∀w,(execOp a.eval o).run C.P w= .ok (.value v) w:=by
 intro w;unfold execOp;simp only[ho,ex,ey,Kar,hg,hr,Kan];rfl
theorem adu{o:Oper}{op:BinOp}{T T2:TypeId}{x y:Operand}{px py:PV}{d:Nat}(ho:o.op= .binOp op T x y T2)(hd:o.dst=some d)(aw:d<C.N)(h:Qv C ρ fr hp a.tmps w)
    (hx:Qn C ρ hp w px (a.eval x)) (hy:Qn C ρ hp w py (a.eval y)) {bt:Bool} (dU:bt=true->C.P.underlying T=some .bool)
    (hv:cu op bt px py d fr hp K):Qz C ρ o a w K:=by
  unfold cu at hv;split at hv
  · rename_i k n k' m
    have ex:=hx.mF;have ey:=hy.mF;have kX:∀w',(eqGuard op T x y (.int k n) (.int k' m)).run C.P w'= .ok () w':=by intro w';unfold eqGuard;cases op<;>rfl
    split at hv
    · obtain⟨h0,hv⟩:=hv
      have MK:¬m<0:=by omega
      exact Qz.mk hd aw h (si ho ex ey kX (fun w'=>by simp[binOp,Op.shift,MK])) (Qn.mkInt _ _) hv
    · obtain⟨h0,hv⟩:=hv
      have MK:¬m<0:=by omega
      exact Qz.mk hd aw h (si ho ex ey kX (fun w'=>by simp[binOp,Op.shift,MK])) (Qn.mkInt _ _) hv
    all_goals first
      |exact hv.elim
      | (obtain⟨rfl,h0,hv⟩:=hv
         exact Qz.mk hd aw h (si ho ex ey kX (fun w'=>by simp[binOp,Op.intDiv,h0])) (Qn.mkInt _ _) hv)
      | (obtain⟨rfl,hv⟩:=hv
         exact Qz.mk hd aw h (si ho ex ey kX (fun w'=>by simp[binOp,Op.intArith,Op.intBits])) (Qn.mkInt _ _) hv)
      | (obtain⟨rfl,hv⟩:=hv
         refine Qz.mk hd aw h (si ho ex ey kX ?_) (Qn.xT _) hv;intro w';simp[binOp,Op.intCmp]<;>rfl)
  · rename_i n m
    have ex:=hx.Bs;have ey:=hy.Bs;have kX:∀w',(eqGuard op T x y (.bool n) (.bool m)).run C.P w'= .ok () w':=by intro w';unfold eqGuard;cases op<;>rfl
    split at hv
    · obtain⟨hb,hv⟩:=hv
      exact Qz.mk hd aw h (si ho ex ey kX (Q5v (dU hb) n m)) (Qn.xT _) hv
    · obtain⟨hb,hv⟩:=hv
      exact Qz.mk hd aw h (si ho ex ey kX (Q5w (dU hb) n m)) (Qn.xT _) hv
    · exact hv.elim
  · exact hv.elim
theorem Qn.aac{e:Nat}{xs:List PV}{v:Value}(h:Qn C ρ hp w (.sl e xs) v):∃ad cap,v= .slice ad xs.length cap/\xs.length<=cap/\cap<=maxLen:=by
 cases h with
 |oS _ ad cap hc=>exact⟨ad,cap,rfl,Kbz _,hc⟩
 |sl _ _ b off cap vs hX hb hl hc=>exact⟨_,cap,rfl,hl,hc⟩
theorem Qn.Oa{β o n:Nat}{v:Value}(h:Qn C ρ hp w (.aB β o n) v):∃ad cap,v= .slice ad n cap:=by
 obtain⟨hb,_,_,⟨_,rfl,rfl,rfl⟩|⟨b,cap,_,rfl,_⟩⟩:=h
 ·exact⟨_,_,rfl⟩
 ·exact⟨_,_,rfl⟩
theorem Qn.auU{γ o n:Nat}{v:Value}(h:Qn C ρ hp w (.aI γ o n) v):∃ad cap,v= .slice ad n cap:=by obtain⟨_,hb,b,cap,_,_,rfl,_⟩:=h;exact⟨_,_,rfl⟩
theorem Qn.Oc{γ i o:Nat}{v:Value}(h:Qn C ρ hp w (.np γ i o) v):bJ γ=true/\∃b hb,ρ γ=some b/\hp γ=some hb/\v= .pointer (some ⟨b,i*hb.e+o,none⟩):=h
theorem Qn.ZX{p:PV}{v:Value}(h:df C ρ hp w p v):Qn C ρ hp w p v:=by
 cases p with
 |undef=>trivial
 |aB β o n=>exact h.2
 |aI γ o n=>exact h
 |_=>exact Qn.oc (bT.tB h)
theorem df.Ok{p:PV}{v:Value}(h:df C ρ hp w p v)(hr:p.n7=false):Qu w (aK C ρ hp) p v:=by
 cases p with
 |undef=>cases hr
 |aB=>cases hr
 |aI=>cases hr
 |_=>exact h
theorem df.ZW{p:PV}{v:Value}(h:Qu w (aK C ρ hp) p v):df C ρ hp w p v:=by
 cases p with
 |aB=>cases h
 |aI=>cases h
 |undef=>trivial
 |_=>exact h
theorem df.uH{p:PV}{v:Value}(h:df C ρ hp w p v)(hu:p≠ .undef):v.oneCell'=true/\v.cells= #[v]:=by
 cases p with
 |undef=>exact absurd rfl hu
 |aB β o n=>obtain⟨_,hb,_,_,⟨_,rfl,_⟩|⟨b,cap,_,rfl,_⟩⟩:=h<;>exact⟨rfl,rfl⟩
 |aI γ o n=>obtain⟨_,hb,b,cap,_,_,rfl,_⟩:=h;exact⟨rfl,rfl⟩
 |_=>exact⟨(Qu.uH h).1,(Qu.uH h).2.1⟩
theorem Q9i(cs:List PV):(pq cs).aS=cs:=by unfold pq;split<;>rfl
theorem adv{cs:List PV}{vs:Array Value}(hs:vs.size=cs.length)(h:∀(i:Nat)(x:PV),cs[i]? =some x->df C ρ hp w x (vs.getD i undef)):Qn C ρ hp w (pq cs) (.agg vs):=by
 unfold pq;split
 ·exact⟨vs,rfl,hs,h⟩
 ·rename_i hn;refine⟨vs,rfl,hs,fun i x hi=>(h i x hi).Ok ?_⟩;have hm:=Kai hi;cases hq:x.n7 with
  |false=>rfl
  |true=>exact absurd (Ka6.2 ⟨x,hm,hq⟩) hn
theorem R5{ag:Bool}{n off:Nat}{x:PV}{vs:Array Value}(hs:vs.size=n)(hle:off+n<=x.aS.length)(h1:ag=false->n=1)
  (hr:∀j y,j<n->x.aS[off+j]? =some y->df C ρ hp w y (vs.getD j undef)):Qn C ρ hp w (tv ag n off x) (if ag then .agg vs else vs.getD 0 undef):=by
 cases ag with
 | true=>
  refine adv (by simp[hs];omega) (fun i y hy=>?_);have hi:i<n:=by have:=(Kaf.1 hy).1;simp at this;omega
  rw[KaN hi,Kbe]at hy;exact hr i y hi hy
 | false=>
  have hn:=h1 rfl;subst hn;have aw:off<x.aS.length:=by omega
  have e:x.aS[off+0]? =some (x.aS[off]):=by simp[Kag aw]
  have:=hr 0 _ (by omega) e;simp only[tv,Kbs,if_false];have e2:(x.aS.drop off).headD .undef=x.aS[off]:=by rw[KbP,KcJ,Kag aw];rfl
  rw[e2];exact Qn.ZX this
theorem Gb{o:Oper}{b:Builtin}{args:Array Operand}{ts:Array TypeId}(ho:o.op= .call { callee:=.builtin b,args:=args,argTypes:=ts }){v:Value}
  (hr:∀w,(builtin b ts o.type (args.map fun| .const _=>true|_=>false) (args.map a.eval)).run C.P w= .ok (.value v) w):∀w,(execOp a.eval o).run C.P w= .ok (.value v) w:=by
 intro w;unfold execOp;simp only[ho,resolve,Kar,Ka3,Kan,invoke];exact hr w
theorem adw{o:Oper}{x:Operand}{t:TypeId}{px:PV}{d:Nat}(ho:o.op= .call { callee:=.builtin .len,args:= #[x],argTypes:= #[t] })(hd:o.dst=some d)(aw:d<C.N)(h:Qv C ρ fr hp a.tmps w)
  (hx:Qn C ρ hp w px (a.eval x)) {e:TypeId} (he:C.P.underlying t=some (.slice e)) (hv:rI px d fr hp K):Qz C ρ o a w K:=by
 have key:∀ad n cap,a.eval x= .slice ad n cap->K (af fr d (.int .i64 n)) hp->Qz C ρ o a w K:=fun ad n cap ex hK=>
  Qz.mk hd aw h (Gb ho (fun w'=>by simp[builtin,Builtin.len_,ex,Kar,jJ he,goInt])) (Qn.mkInt _ _) hK
 unfold rI at hv;split at hv
 ·exact key _ _ _ hx.z7 hv
 ·obtain⟨ad,cap,ex,_⟩:=hx.aac;exact key _ _ _ ex hv
 ·obtain⟨ad,cap,ex⟩:=hx.Oa;exact key _ _ _ ex hv
 ·obtain⟨ad,cap,ex⟩:=hx.auU;exact key _ _ _ ex hv
 ·exact hv.elim
theorem Qn.Jh{s:ByteArray}{v:Value}(h:Qn C ρ hp w (.str s) v):v= .string s:=by cases h;rfl
theorem P6{P:Program}{t:TypeId}(h:z' P t=true):P.underlying t=some .string:=by
 unfold z' at h;split at h
 ·assumption
 ·cases h
theorem adx{o:Oper}{x:Operand}{t:TypeId}{px:PV}{d:Nat}(ho:o.op= .call { callee:=.builtin .len,args:= #[x],argTypes:= #[t] })(hd:o.dst=some d)(aw:d<C.N)(h:Qv C ρ fr hp a.tmps w)
  (hx:Qn C ρ hp w px (a.eval x)) (hs:z' C.P t=true) (hv:yR px d fr hp K):Qz C ρ o a w K:=by
 have hu:=P6 hs;unfold yR at hv;split at hv
 ·rename_i s;have ex:=hx.Jh;exact Qz.mk hd aw h (Gb ho (fun w'=>by simp[builtin,Builtin.len_,ex,Kar,jJ hu,goInt])) (Qn.mkInt _ _) hv
 ·exact hv.elim
theorem Q9j{P:Program}{T:TypeId}(hu:P.underlying T=some .string)(n m:ByteArray)(w:World):(binOp .eql T (.string n) (.string m)).run P w= .ok (.bool (n==m)) w:=by simp[binOp,Op.stringOp,beq_toListBytes]
theorem Q9k{P:Program}{T:TypeId}(hu:P.underlying T=some .string)(n m:ByteArray)(w:World):(binOp .neq T (.string n) (.string m)).run P w= .ok (.bool (!(n==m))) w:=by simp[binOp,Op.stringOp,bne,beq_toListBytes]
theorem OL(x y:ByteArray):(x==y)=decide (x=y):=by
 by_cases h:x=y
 ·subst h;rw[decide_eq_true rfl];show(x.data==x.data)=true;simp
 ·rw[decide_eq_false h];have h':x.data≠y.data:=fun e=>h (by cases x;cases y;simp_all);show(x.data==y.data)=false;simpa using h'
theorem ady{o:Oper}{op:BinOp}{ng:Bool}{T T2:TypeId}{x y:Operand}{px py:PV}{d:Nat}(ho:o.op= .binOp op T x y T2)(hop:H6 op=some ng)(hs:z' C.P T=true)(hd:o.dst=some d)(aw:d<C.N)(h:Qv C ρ fr hp a.tmps w)
  (hx:Qn C ρ hp w px (a.eval x)) (hy:Qn C ρ hp w py (a.eval y)) (hv:tW ng px py d fr hp K):Qz C ρ o a w K:=by
 have hu:=P6 hs;unfold tW at hv;split at hv
 ·rename_i n m;have ex:=hx.Jh;have ey:=hy.Jh;have kX:∀w',(eqGuard op T x y (.string n) (.string m)).run C.P w'= .ok () w':=by intro w';unfold eqGuard;cases op<;>rfl
  cases op<;>first|(cases hop;done)|skip
  ·cases hop;exact Qz.mk hd aw h (si ho ex ey kX (Q9j hu n m)) (Qn.xT _) (by rw[OL];simpa using hv)
  ·cases hop;exact Qz.mk hd aw h (si ho ex ey kX (Q9k hu n m)) (Qn.xT _) (by rw[OL];simpa using hv)
 ·exact hv.elim
theorem afL{o:Oper}{x y:Operand}{ts:Array TypeId}{px py:PV}{d:Nat}(ho:o.op= .call { callee:=.builtin .max,args:= #[x,y],argTypes:=ts })(hd:o.dst=some d)(aw:d<C.N)(h:Qv C ρ fr hp a.tmps w)
  (hx:Qn C ρ hp w px (a.eval x)) (hy:Qn C ρ hp w py (a.eval y)) (hv:z6 px py d fr hp K):Qz C ρ o a w K:=by
 unfold z6 at hv;split at hv
 ·rename_i k n k' m;have ex:=hx.mF;have ey:=hy.mF;refine Qz.mk hd aw h (Gb ho (fun w'=>?_)) (Qn.mkInt _ _) hv;have e:(if m>n then m else n)=max n m:=by omega
  simp[builtin,Builtin.max_,ex,ey,Builtin.max2,e]
 ·exact hv.elim
theorem afM{o:Oper}{x y:Operand}{ts:Array TypeId}{px py:PV}{d:Nat}(ho:o.op= .call { callee:=.builtin .min,args:= #[x,y],argTypes:=ts })(hd:o.dst=some d)(aw:d<C.N)(h:Qv C ρ fr hp a.tmps w)
  (hx:Qn C ρ hp w px (a.eval x)) (hy:Qn C ρ hp w py (a.eval y)) (hv:z4 px py d fr hp K):Qz C ρ o a w K:=by
 unfold z4 at hv;split at hv
 ·rename_i k n k' m;have ex:=hx.mF;have ey:=hy.mF;refine Qz.mk hd aw h (Gb ho (fun w'=>?_)) (Qn.mkInt _ _) hv;have e:(if m<n then m else n)=min n m:=by omega
  simp[builtin,Builtin.min_,ex,ey,Builtin.min2,e]
 ·exact hv.elim
theorem afN{o:Oper}{op:UnOp}{T:TypeId}{x:Operand}{px:PV}{d:Nat}(ho:o.op= .unOp op T x)(hd:o.dst=some d)(aw:d<C.N)(h:Qv C ρ fr hp a.tmps w)
  (hx:Qn C ρ hp w px (a.eval x)) (hv:xY op px d fr hp K):Qz C ρ o a w K:=by
 unfold xY at hv;split at hv
 ·have ex:=hx.Bs;refine Qz.mk hd aw h (fun w'=>?_) (Qn.xT _) hv;unfold execOp;simp only[ho,ex];rfl
 ·have ex:=hx.mF;refine Qz.mk hd aw h (fun w'=>?_) (Qn.mkInt _ _) hv;unfold execOp;simp only[ho,ex];rfl
 ·exact hv.elim
theorem acN{o:Oper}{S T:TypeId}{x:Operand}{px:PV}{d:Nat}{ds:TypeDesc}{k:IntKind}(ho:o.op= .convert S T x)(hd:o.dst=some d)(aw:d<C.N)(h:Qv C ρ fr hp a.tmps w)
  (hS:C.P.underlying S=some ds) (hT:C.P.underlying T=some (.int k)) (hx:Qn C ρ hp w px (a.eval x)) (hv:yK k px d fr hp K):Qz C ρ o a w K:=by
 unfold yK at hv;split at hv
 ·have ex:=hx.mF;refine Qz.mk hd aw h (fun w'=>?_) (Qn.mkInt _ _) hv;unfold execOp;simp only[ho,ex,Kar,convert,jJ hS,jJ hT,Kan];rfl
 ·exact hv.elim
theorem adz{o:Oper}{i:Nat}{x:Operand}{px:PV}{d:Nat}(ho:o.op= .extract x i)(hd:o.dst=some d)(aw:d<C.N)(h:Qv C ρ fr hp a.tmps w)
  (hx:Qn C ρ hp w px (a.eval x)) (hv:qD px i d fr hp K):Qz C ρ o a w K:=by
 unfold qD at hv;split at hv
 ·rename_i ps;split at hv
  ·rename_i p jn;obtain⟨jG,hv⟩:=hv;obtain⟨vs,ex,h1,h2⟩:=hx;have hi:i<vs.size:=by rw[h1];exact(Kaf.1 jn).1
   have hr:=h2 i p jn;have hg:vs.getD i undef=vs[i]:=by simp[Array.getD,hi]
   rw[hg]at hr;refine Qz.mk hd aw h (fun w'=>?_) (Qn.oc hr) hv;unfold execOp;simp only[ho,ex,Kar,Instr.extract,KbC hi];rfl
  ·exact hv.elim
 ·rename_i ps;split at hv
  ·rename_i p jn;obtain⟨vs,ex,h1,h2⟩:=hx;have hi:i<vs.size:=by rw[h1];exact(Kaf.1 jn).1
   have hr:=h2 i p jn;have hg:vs.getD i undef=vs[i]:=by simp[Array.getD,hi]
   rw[hg]at hr;refine Qz.mk hd aw h (fun w'=>?_) (Qn.ZX hr) hv;unfold execOp;simp only[ho,ex,Kar,Instr.extract,KbC hi];rfl
  ·exact hv.elim
 ·exact hv.elim
theorem P7{o:Oper}{x:Operand}{px:PV}{d:Nat}(ho:o.op= .move x∨o.op= .assign x)(hd:o.dst=some d)(aw:d<C.N)(h:Qv C ρ fr hp a.tmps w)
  (hx:Qn C ρ hp w px (a.eval x)) (hv:K (af fr d px) hp):Qz C ρ o a w K:=by
 refine Qz.mk hd aw h (fun w'=>?_) hx hv;rcases ho with ho|ho<;>(unfold execOp;simp only[ho];rfl)
theorem acO{o:Oper}{c x y:Operand}{pc px py:PV}{d:Nat}(ho:o.op= .pick c x y)(hd:o.dst=some d)(aw:d<C.N)(h:Qv C ρ fr hp a.tmps w)
  (hc:Qn C ρ hp w pc (a.eval c)) (hx:Qn C ρ hp w px (a.eval x)) (hy:Qn C ρ hp w py (a.eval y))
  (hv:vf pc px py d fr hp K):Qz C ρ o a w K:=by
 obtain⟨t,rfl,hv⟩:∃t,pc= .bool t/\((t=true->K (af fr d px) hp)/\(t=false->K (af fr d py) hp)):=by
  cases pc with
  |bool t=>exact⟨t,rfl,hv⟩
  |_=>exact hv.elim
 have ec:=hc.Bs;cases t with
 |true=>refine Qz.mk hd aw h (fun w'=>?_) hx (hv.1 rfl);unfold execOp;simp only[ho,ec];rfl
 |false=>refine Qz.mk hd aw h (fun w'=>?_) hy (hv.2 rfl);unfold execOp;simp only[ho,ec];rfl
theorem F9{P:Program}{T:TypeId}{k0:IntKind}(hu:P.underlying T=some (.int k0))(d:Nat)(k:IntKind)(n m:Int)(w:World):(Op.equalIn (d+1) T (.int k n) (.int k m)).run P w= .ok (n==m) w:=by unfold Op.equalIn;rw[Kar,jJ hu,Kan];simp
theorem CB{P:Program}{t:TypeId}{cs:Array Value}{off:Nat}{v:Value}(ha:oz P t=some false)(hv:cs[off]? =some v)(w:World):(part t cs off).run P w= .ok v w:=by unfold part;rw[Kar,CA ha,Kan];simp[hv]
theorem Q5z {P : Program} {T : TypeId} {f g : Field} (hu : P.underlying T = some (.struct #[f, g])) (h1 : f.name ≠ "_") (h2 : g.name ≠ "_") (o1 : f.offset = 0) (o2 : g.offset = 1) {k1 k2 : IntKind} (t1 : P.underlying f.type = some (.int k1)) (t2 : P.underlying g.type = some (.int k2))
  (hs:P.stoodInHeld T=false) (k l:IntKind) (x y x' y':Int) (w:World):(Op.equal T (.agg #[.int k x,.int l y]) (.agg #[.int k x',.int l y'])).run P w= .ok (x==x'&&y==y') w:=by
 have a1:oz P f.type=some false:=by simp[oz,t1]
 have a2:oz P g.type=some false:=by simp[oz,t2]
 show(Op.equalIn (9998+1+1) T _ _).run P w=_;rw[Op.equalIn];rw[Kar,jJ hu,Kan];have hp:Sem.run P program w= .ok P w:=rfl;rw[Kar,hp,Kan,hs];simp only[Kbs,if_false];rw[<-Array.forIn_toList];simp only[List.forIn_cons,List.forIn_nil,Kar,o1,o2,h1,h2,ne_eq,not_false_eq_true,if_true,CB a1 (show(#[Value.int k x,Value.int l y])[0]? =some _ from rfl),CB a1 (show(#[Value.int k x',Value.int l y'])[0]? =some _ from rfl),
  CB a2 (show(#[Value.int k x,Value.int l y])[1]? =some _ from rfl),CB a2 (show(#[Value.int k x',Value.int l y'])[1]? =some _ from rfl),F9 t1,F9 t2,Kan]
 have q1:∀n m w,(Op.equalIn 9999 f.type (.int k n) (.int k m)).run P w= .ok (n==m) w:=fun n m w=>F9 t1 9998 k n m w;have q2:∀n m w,(Op.equalIn 9999 g.type (.int l n) (.int l m)).run P w= .ok (n==m) w:=fun n m w=>F9 t2 9998 l n m w;have p2:∀u v w,(part g.type #[u,v] 1).run P w= .ok v w:=fun u v w=>CB a2 (show(#[u,v])[1]? =some _ from rfl) w;by_cases e1:x=x'<;>by_cases e2:y=y'<;>simp[e1,e2,q1,q2,p2]
theorem afO{P:Program}{T:TypeId}{b:Bool}{X Y:Array Value}(h:∀w,(Op.equal T (.agg X) (.agg Y)).run P w= .ok b w)(w:World):(binOp .eql T (.agg X) (.agg Y)).run P w= .ok (.bool b) w:=by show(do pure (Value.bool (<-Op.equal T (.agg X) (.agg Y))):Sem Value).run P w=_;rw[Kar,h,Kan];rfl
theorem afP{P:Program}{T:TypeId}{b:Bool}{X Y:Array Value}(h:∀w,(Op.equal T (.agg X) (.agg Y)).run P w= .ok b w)(w:World):(binOp .neq T (.agg X) (.agg Y)).run P w= .ok (.bool !b) w:=by show(do pure (Value.bool (!(<-Op.equal T (.agg X) (.agg Y)))):Sem Value).run P w=_;rw[Kar,h,Kan];rfl
theorem VM {P : Program} {T:TypeId} {op:BinOp} {x y:Operand} {X Y:Array Value} (h:P.eqGuardType P.depth T=false) (w:World):(eqGuard op T x y (.agg X) (.agg Y)).run P w= .ok () w:=by
  have hp:Sem.run P program w= .ok P w:=rfl
  have hg : (do if !(<-program).eqGuardType (<-program).depth T then return
                if <- Op.eqGuardIn Op.maxDepth T (.agg X) (.agg Y) then unsupported (.noEntry "binop/eql: two nil values of an interface type with methods, in a part of a struct or an array") : Sem Unit).run P w = .ok () w := by
    rw[Kar,hp,Kan,Kar,hp,Kan,h];rfl
  cases op<;>first|rfl|exact hg
theorem al5 {P : Program} {T : TypeId} (h : Jf P T = true) : ∃ f g k1 k2, P.underlying T = some (.struct #[f, g]) /\ f.name ≠ "_" /\ g.name ≠ "_" /\ f.offset = 0 /\ g.offset = 1 /\ P.underlying f.type = some (.int k1) /\ P.underlying g.type = some (.int k2) /\ P.stoodInHeld T = false /\ P.eqGuardType P.depth T = false := by
 unfold Jf at h;split at h
 ·rename_i fs hu;split at h
  ·rename_i f g kW;simp only[KaC,bne_iff_ne,ne_eq,beq_iff_eq,KcK]at h;obtain⟨⟨⟨⟨⟨⟨⟨h1,h2⟩,h3⟩,h4⟩,h5⟩,h6⟩,h7⟩,h8⟩:=h;have:fs= #[f,g]:=by rw[<-Array.toArray_toList (xs:=fs),kW]
   subst this;cases u1:P.underlying f.type with
   |none=>rw[u1]at h5;cases h5
   | some t1=>cases u2:P.underlying g.type with
    |none=>rw[u2]at h6;cases h6
    |some t2=>
     rw[u1]at h5;rw[u2]at h6;cases t1<;>first|(cases h5;done)|skip
     cases t2<;>first|(cases h6;done)|skip
     exact⟨f,g,_,_,hu,h1,h2,h3,h4,u1,u2,h7,h8⟩
  ·cases h
 ·cases h
theorem PY{cs:List PV}{v:Value}{p q:PV}(lK:cs=[p,q])(h:Qn C ρ hp w (.agg cs) v):∃x y,v= .agg #[x,y]/\Qu w (aK C ρ hp) p x/\Qu w (aK C ρ hp) q y:=by
 subst lK;obtain⟨vs,rfl,h1,h2⟩:=h;have hs:vs.size=2:=h1;refine⟨vs.getD 0 undef,vs.getD 1 undef,?_,h2 0 p rfl,h2 1 q rfl⟩;congr 1;apply Array.ext
 ·simp[hs]
 ·intro i hi al;have:i=0∨i=1:=by simp at al;omega
  rcases this with rfl|rfl<;>simp[Array.getD,hs]
theorem adA{o:Oper}{op:BinOp}{ng:Bool}{T T2:TypeId}{x y:Operand}{px py:PV}{d:Nat}(ho:o.op= .binOp op T x y T2)(hop:H6 op=some ng)(cS:Jf C.P T=true)(hd:o.dst=some d)(aw:d<C.N)(h:Qv C ρ fr hp a.tmps w)
  (hx:Qn C ρ hp w px (a.eval x)) (hy:Qn C ρ hp w py (a.eval y)) (hv:tV ng px py d fr hp K):Qz C ρ o a w K:=by
 obtain⟨f,g,k1,k2,hu,h1,h2,h3,h4,u1,u2,h7,h8⟩:=al5 cS;unfold tV at hv;split at hv
 ·rename_i k n l m k' n' l' m';obtain⟨rfl,rfl,hv⟩:=hv;obtain⟨a1,b1,ex,r1,r2⟩:=PY rfl hx;obtain⟨a2,b2,ey,r3,r4⟩:=PY rfl hy;cases r1;cases r2;cases r3;cases r4;have heq:∀w,(Op.equal T (.agg #[.int k n,.int l m]) (.agg #[.int k n',.int l m'])).run C.P w= .ok (n==n'&&m==m') w:=fun w=>Q5z hu h1 h2 h3 h4 u1 u2 h7 k l n m n' m' w;have e:(n==n'&&m==m')=(decide (n=n')&&decide (m=m')):=rfl;rw[e]at heq;cases op<;>first|(cases hop;done)|skip
  ·cases hop;exact Qz.mk hd aw h (si ho ex ey (VM h8) (afO heq)) (Qn.xT _) (by simpa using hv)
  ·cases hop;exact Qz.mk hd aw h (si ho ex ey (VM h8) (afP heq)) (Qn.xT _) (by simpa using hv)
 ·exact hv.elim
end Go.FW
namespace Go.FW
open Go
variable {C : Ctx} {ρ : Nat -> Option Nat} {fr : Fr} {hp : HP} {w : World} {a : Act} {K : Qh}
theorem Q9l{l:List PV}{n:Nat}(h:n<l.length):l[n]? =some (l[n]'h):=Kag h
theorem Kw{P:Program}{t e:TypeId}{n:Nat}{ad:Addr}{len cap:Nat}{k:IntKind}{i:Int}(hu:P.underlying t=some (.slice e))(hn:fa P e=some n)(h0:0<=i)(h1:i<len)(w:World):
  (Instr.indexAt t (.slice (some ad) len cap) (.int k i)).run P w= .ok (.pointer (some (ad.add (i.toNat*n)))) w:=by
 have h2:0<=i/\i<len:=⟨h0,h1⟩
 unfold Instr.indexAt;simp only[asIntOf,Kar,Ka3,Kan,jJ hu,if_pos h2,nt hn]
theorem Uh{P:Program}{t e:TypeId}{n len:Nat}{ad:Addr}{k:IntKind}{i:Int}(hu:P.underlying t=some (.array len e))(hn:fa P e=some n)(h0:0<=i)(h1:i<len)(w:World):
  (Instr.indexAt t (.pointer (some ad)) (.int k i)).run P w= .ok (.pointer (some (ad.add (i.toNat*n)))) w:=by
 have h2:0<=i/\i<len:=⟨h0,h1⟩
 unfold Instr.indexAt;simp only[asIntOf,Kar,Ka3,Kan,jJ hu,Instr.sureAddr,if_pos h2,nt hn]
theorem Qn.B3{β i o:Nat}{v:Value}(h:Qn C ρ hp w (.mp β i o) v):∃b hb,ρ β=some b/\hp β=some hb/\v= .pointer (some ⟨b,i*hb.e+o,none⟩):=h
theorem Qn.N'{β i o b:Nat}{hb:HB}(h1:ρ β=some b)(h2:hp β=some hb):Qn C ρ hp w (.mp β i o) (.pointer (some ⟨b,i*hb.e+o,none⟩)):=⟨b,hb,h1,h2,rfl⟩
theorem ad1{o:Oper}{t e:TypeId}{n:Nat}{x i:Operand}{px pi:PV}{d:Nat}(ho:o.op= .indexAddr t x i)(hd:o.dst=some d)(aw:d<C.N)(h:Qv C ρ fr hp a.tmps w)
  (hu:C.P.underlying t=some (.slice e)) (hn:fa C.P e=some n) (hx:Qn C ρ hp w px (a.eval x)) (hi:Qn C ρ hp w pi (a.eval i)) (hv:jQ n px pi d fr hp K):Qz C ρ o a w K:=by
 unfold jQ at hv;split at hv
 ·rename_i e' xs k m;obtain⟨rfl,h0,h1,hK⟩:=hv;have ei:=hi.mF;have hlen:m<xs.length:=by omega
  generalize ev:a.eval x=vx at hx;cases hx with
  |oS=>simp at h1
  |sl _ _ b off cap vs hX hb hl hc he re hr=>
   have nh:=Q9l h1;have kV:=he _ _ nh;refine Qz.mk hd aw h (v:=.pointer (some ⟨b,off+m.toNat*n,none⟩)) (fun w'=>?_) ?_ hK
   ·unfold execOp;simp only[ho,ei,ev,Kar,Kw hu hn h0 hlen,Kan,KbZ];rfl
   ·exact Qu.pt _ b _ (vs m.toNat) hX hb (fun j hj=>re m.toNat h1 j (by omega)) (fun j y hy=>hr m.toNat _ nh j y hy)
 ·rename_i β o' m k n';obtain⟨h0,h1,h2,hK⟩:=hv;have ei:=hi.mF;obtain⟨hb,g1,g2,⟨g3,_,g5,_⟩|⟨b,cap,g3,g4,g5,g6⟩⟩:=hx
  ·omega
  ·rw[g1]at h2;simp only[Kci,KaH]at h2;subst h2;have hm:n'<m:=by omega
   refine Qz.mk hd aw h (fun w'=>?_) (Qn.N' g3 g1) hK;unfold execOp;simp only[ho,ei,g4,Kar,Kw hu hn h0 hm,Kan,KbZ,KaY,KaK];rfl
 ·rename_i γ o' m k n';obtain⟨h0,h1,h2,hK⟩:=hv;have ei:=hi.mF;obtain⟨hB,hb,b,cap,g1,g3,g4,g5,g6,g7⟩:=hx;rw[g1]at h2;simp only[Kci,KaH]at h2;subst h2;have hm:n'<m:=by omega
  refine Qz.mk hd aw h (p:=.np γ (o'+n'.toNat) 0) (fun w'=>?_) (show dh C ρ hp w (.np γ (o'+n'.toNat) 0) _ from⟨hB,b,hb,g3,g1,rfl⟩) hK;unfold execOp;simp only[ho,ei,g4,Kar,Kw hu hn h0 hm,Kan,KbZ,KaY,KaK];rfl
 ·exact hv.elim
theorem Qu.Z'{X:Nat->Prop}{cs:List PV}{b off k:Nat}(h:Qu w X (.pt cs) (.pointer (some ⟨b,off,none⟩))):Qu w X (.pt (cs.drop k)) (.pointer (some ⟨b,off+k,none⟩)):=by
 cases h with
 |pt _ _ _ vs hX hb hv hr=>
  refine Qu.pt _ b _ (fun j=>vs (k+j)) hX hb (fun j hj=>?_) (fun j y hy=>?_)
  ·have:=hv (k+j) (by simp at hj;omega);rwa[<-Nat.add_assoc]at this
  ·rw[Kbe]at hy;exact hr _ _ hy
theorem Qn.Je{cs:List PV}{v:Value}(h:Qn C ρ hp w (.pt cs) v):∃b off,v= .pointer (some ⟨b,off,none⟩)/\Qu w (aK C ρ hp) (.pt cs) (.pointer (some ⟨b,off,none⟩)):=by
 have h':Qu w (aK C ρ hp) (.pt cs) v:=h;cases h' with
 |pt _ b off vs hX hb hv hr=>exact⟨b,off,rfl,.pt _ b off vs hX hb hv hr⟩
theorem acP{o:Oper}{t e:TypeId}{n len:Nat}{x i:Operand}{px pi:PV}{d:Nat}(ho:o.op= .indexAddr t x i)(hd:o.dst=some d)(aw:d<C.N)(h:Qv C ρ fr hp a.tmps w)
  (hu:C.P.underlying t=some (.array len e)) (hn:fa C.P e=some n) (hx:Qn C ρ hp w px (a.eval x)) (hi:Qn C ρ hp w pi (a.eval i)) (hv:wR len n px pi d fr hp K):Qz C ρ o a w K:=by
 unfold wR at hv;split at hv
 ·rename_i β j o' k m;obtain⟨h0,h1,hK⟩:=hv;have ei:=hi.mF;obtain⟨b,hb,g1,g2,g3⟩:=hx.B3;refine Qz.mk hd aw h (fun w'=>?_) (Qn.N' g1 g2) hK;unfold execOp;simp only[ho,ei,g3,Kar,Uh hu hn h0 h1,Kan,KbZ,Kco];rfl
 ·rename_i cs k m;obtain⟨h0,h1,h2,hK⟩:=hv;have ei:=hi.mF;obtain⟨b,off,ex,hp'⟩:=hx.Je;refine Qz.mk hd aw h (p:=.pt (cs.drop (m.toNat*n))) (v:=.pointer (some ⟨b,off+m.toNat*n,none⟩)) (fun w'=>?_) hp'.Z' hK;unfold execOp;simp only[ho,ei,ex,Kar,Uh hu hn h0 h1,Kan,KbZ];rfl
 ·exact hv.elim
theorem KI{P:Program}{t:TypeId}{fs:Array Field}{j:Nat}{f:Field}{n b off:Nat}(hu:P.underlying t=some (.struct fs))(hf:fs[j]? =some f)(hn:fa P f.type=some n)(h0:n≠0)(w:World):
  (Instr.fieldAt t (.pointer (some ⟨b,off,none⟩)) j).run P w= .ok (.pointer (some ⟨b,off+f.offset,none⟩)) w:=by
 unfold Instr.fieldAt;simp only[Kar,jJ hu,Kan,hf,Instr.sureAddr,Ka3,fieldPlace,nt hn,if_neg h0,KbZ]
theorem ad2{o:Oper}{t:TypeId}{fs:Array Field}{j n:Nat}{f:Field}{x:Operand}{px:PV}{d:Nat}(ho:o.op= .fieldAddr t x j)(hd:o.dst=some d)(aw:d<C.N)(h:Qv C ρ fr hp a.tmps w)
  (hu:C.P.underlying t=some (.struct fs)) (hf:fs[j]? =some f) (hn:fa C.P f.type=some n) (lQ:n≠0) (hx:Qn C ρ hp w px (a.eval x)) (hv:tX f.offset px d fr hp K):Qz C ρ o a w K:=by
 unfold tX at hv;split at hv
 ·rename_i β i o';obtain⟨b,hb,g1,g2,g3⟩:=hx.B3;refine Qz.mk hd aw h (fun w'=>?_) (Qn.N' g1 g2) hv;unfold execOp;simp only[ho,g3,Kar,KI hu hf hn lQ,Kan,Kco];rfl
 ·rename_i γ i o';obtain⟨hB,b,hb,g1,g2,g3⟩:=hx.Oc;refine Qz.mk hd aw h (p:=.np γ i (o'+f.offset)) (fun w'=>?_) (show dh C ρ hp w (.np γ i (o'+f.offset)) _ from⟨hB,b,hb,g1,g2,rfl⟩) hv;unfold execOp;simp only[ho,g3,Kar,KI hu hf hn lQ,Kan,Kco];rfl
 ·rename_i cs;obtain⟨_,hK⟩:=hv;obtain⟨b,off,ex,hp'⟩:=hx.Je;refine Qz.mk hd aw h (p:=.pt (cs.drop f.offset)) (v:=.pointer (some ⟨b,off+f.offset,none⟩)) (fun w'=>?_) hp'.Z' hK;unfold execOp;simp only[ho,ex,Kar,KI hu hf hn lQ,Kan];rfl
 ·exact hv.elim
theorem Am(vs:Array Value)(off n j:Nat)(hj:j<n)(h:off+n<=vs.size):(vs.extract off (off+n)).getD j undef=vs.getD (off+j) undef:=by
 have h1:j<(vs.extract off (off+n)).size:=by simp;omega
 have h2:off+j<vs.size:=by omega
 simp only[KaX,KbC h1,KbC h2,Array.getElem_extract]
theorem Dk{X:Nat->Prop}{ag:Bool}{n off:Nat}{x:PV}{vs:Array Value}(hs:vs.size=n)(hle:off+n<=x.cells.length)(h1:ag=false->n=1)
  (hr:∀j y,j<n->x.cells[off+j]? =some y->Qu w X y (vs.getD j undef)):bT w X (fB ag n off x) (if ag then .agg vs else vs.getD 0 undef):=by
 cases ag with
 | true=>
  refine⟨vs,rfl,by simp[hs];omega,fun i y hy=>?_⟩;have hi:i<n:=by have:=(Kaf.1 hy).1;simp at this;omega
  rw[KaN hi,Kbe]at hy;exact hr i y hi hy
 | false=>
  have hn:=h1 rfl;subst hn;have aw:off<x.cells.length:=by omega
  have e:x.cells[off+0]? =some (x.cells[off]):=by simp[Kag aw]
  have:=hr 0 _ (by omega) e;simp only[fB,Kbs,if_false];have e2:(x.cells.drop off).headD .undef=x.cells[off]:=by rw[KbP,KcJ,Kag aw];rfl
  rw[e2];exact bT.tB this
theorem acQ{o:Oper}{t:TypeId}{fs:Array Field}{j n:Nat}{ag:Bool}{f:Field}{x:Operand}{px:PV}{d:Nat}(ho:o.op= .field t x j)(hd:o.dst=some d)(aw:d<C.N)(h:Qv C ρ fr hp a.tmps w)
  (hu:C.P.underlying t=some (.struct fs)) (hf:fs[j]? =some f) (hn:fa C.P f.type=some n) (kU:oz C.P f.type=some ag) (hx:Qn C ρ hp w px (a.eval x)) (hv:tS f.offset n ag px d fr hp K):Qz C ρ o a w K:=by
 unfold tS at hv;split at hv
 ·rename_i cs;obtain⟨h1,h2,hK⟩:=hv;obtain⟨vs,ex,g1,g2⟩:=hx;have hle:f.offset+n<=vs.size:=by omega
  have iF:=Dk (X:=aK C ρ hp) (w:=w) (ag:=ag) (off:=f.offset) (x:=.agg cs) (vs:=vs.extract f.offset (f.offset+n)) (by simp;omega) h1 h2
   (fun j y hj hy=>by rw[Am vs _ _ _ hj hle];exact g2 _ y hy)
  refine Qz.mk hd aw h (fun w'=>?_) (Qn.oc iF) hK;unfold execOp;simp only[ho,ex,Kar,Instr.field,jJ hu,Kan,hf,asAgg,Ka3,part,CA kU];cases ag with
  |true=>simp only[if_true,Kar,nt hn,Kan,Ka3]
  |false=>
   have gL:=h2 rfl;subst gL;have nU:f.offset<vs.size:=by omega
   simp only[Kbs,if_false,KbC nU,Ka3,Kan];rw[Am vs _ _ 0 (by omega) hle];simp[Array.getD,nU]
 ·rename_i cs;obtain⟨h1,h2,hK⟩:=hv;obtain⟨vs,ex,g1,g2⟩:=hx;have hle:f.offset+n<=vs.size:=by omega
  have iF:=R5 (C:=C) (ρ:=ρ) (hp:=hp) (w:=w) (ag:=ag) (off:=f.offset) (x:=.bo cs) (vs:=vs.extract f.offset (f.offset+n)) (by simp;omega) h1 h2
   (fun j y hj hy=>by rw[Am vs _ _ _ hj hle];exact g2 _ y hy)
  refine Qz.mk hd aw h (fun w'=>?_) iF hK;unfold execOp;simp only[ho,ex,Kar,Instr.field,jJ hu,Kan,hf,asAgg,Ka3,part,CA kU];cases ag with
  |true=>simp only[if_true,Kar,nt hn,Kan,Ka3]
  |false=>
   have gL:=h2 rfl;subst gL;have nU:f.offset<vs.size:=by omega
   simp only[Kbs,if_false,KbC nU,Ka3,Kan];rw[Am vs _ _ 0 (by omega) hle];simp[Array.getD,nU]
 ·exact hv.elim
theorem ad3{o:Oper}{t:TypeId}{x i:Operand}{px pi:PV}{d:Nat}(ho:o.op= .index t x i)(hd:o.dst=some d)(aw:d<C.N)(h:Qv C ρ fr hp a.tmps w)
  (hu:C.P.underlying t=some .string) (hx:Qn C ρ hp w px (a.eval x)) (hi:Qn C ρ hp w pi (a.eval i)) (hv:wY px pi d fr hp K):Qz C ρ o a w K:=by
 unfold wY at hv;split at hv
 ·rename_i s k m;obtain⟨h0,h1,hK⟩:=hv;have ei:=hi.mF;have ex:=hx.Jh;have nU:m.toNat<s.size:=by omega
  have e0:s.get! m.toNat=s[m.toNat]'nU:=by simp[ByteArray.get!,getElem!_pos,nU];rfl
  have e1:(if 0<=m then s[m.toNat]? else none)=some (s.get! m.toNat):=by rw[if_pos h0,getElem?_pos s m.toNat nU,e0]
  refine Qz.mk hd aw h (fun w'=>?_) (Qn.mkInt _ _) hK;unfold execOp;simp only[ho,ex,ei,Kar,Instr.index,asIntOf,jJ hu,Kan,Ka3,e1]
 ·exact hv.elim
theorem ad4{o:Oper}{t e:TypeId}{len n:Nat}{ag:Bool}{x i:Operand}{px pi:PV}{d:Nat}(ho:o.op= .index t x i)(hd:o.dst=some d)(aw:d<C.N)(h:Qv C ρ fr hp a.tmps w)
  (hu:C.P.underlying t=some (.array len e)) (hn:fa C.P e=some n) (kU:oz C.P e=some ag) (hx:Qn C ρ hp w px (a.eval x)) (hi:Qn C ρ hp w pi (a.eval i)) (hv:wZ len n ag px pi d fr hp K):Qz C ρ o a w K:=by
 unfold wZ at hv;split at hv
 ·rename_i cs k m;obtain⟨h0,h00,h1,h2,hK⟩:=hv;have ei:=hi.mF;obtain⟨vs,ex,g1,g2⟩:=hx;have hle:m.toNat*n+n<=vs.size:=by omega
  have Ey:0<=m/\m<len:=⟨h0,h00⟩
  have iF:=Dk (X:=aK C ρ hp) (w:=w) (ag:=ag) (off:=m.toNat*n) (x:=.agg cs) (vs:=vs.extract (m.toNat*n) (m.toNat*n+n)) (by simp;omega) h1 h2
   (fun j y hj hy=>by rw[Am vs _ _ _ hj hle];exact g2 _ y hy)
  refine Qz.mk hd aw h (fun w'=>?_) (Qn.oc iF) hK;unfold execOp;simp only[ho,ex,ei,Kar,Instr.index,asIntOf,jJ hu,Kan,Ka3,if_pos Ey,nt hn,part,CA kU];cases ag with
  |true=>simp only[if_true,Kar,nt hn,Kan,Ka3]
  |false=>
   have gL:=h2 rfl;subst gL;have nU:m.toNat*1<vs.size:=by omega
   simp only[Kbs,if_false,KbC nU,Ka3,Kan];rw[Am vs _ _ 0 (by omega) hle];have zA:m.toNat<vs.size:=by omega
   simp[Array.getD,zA]
 ·exact hv.elim
end Go.FW
namespace Go.FW
open Go
variable {C : Ctx} {ρ : Nat -> Option Nat} {fr : Fr} {hp : HP} {w : World} {a : Act} {K : Qh}
def DB(C:Ctx)(ρ:Nat->Option Nat)(o:Oper)(a:Act)(w:World)(K:Qh):Prop:=
 ∃v b,b<w.heap.size/\(∀w',w'.heap[b]? =w.heap[b]? ->(execOp a.eval o).run C.P w'= .ok (.value v) w')/\∃aG hp',Qv C ρ aG hp' (a.put o.dst v).tmps w/\K aG hp'
theorem Gh{P:Program}{t:TypeId}{n b off:Nat}{ag:Bool}{vs:Array Value}(hn:fa P t=some n)(kU:oz P t=some ag)(h1:ag=false->n=1)(hs:vs.size=n)
  (w:World) (hc:∀j,j<n->w.cell? ⟨b,off+j,none⟩=some (vs.getD j undef)):
  (loadVar t ⟨b,off,none⟩).run P w= .ok (if ag then .agg vs else vs.getD 0 undef) w:=by
 unfold loadVar;simp only[Kar,CA kU,Kan];cases ag with
 | true=>
  have hl:=run_loadCells_list (P:=P) w ⟨b,off,none⟩ vs.toList (fun j v hj=>by
   have et:j<vs.size:=by simpa using(Kaf.1 hj).1
   rw[KbZ,hc j (by omega),Gn vs j v hj])
  simp only[Array.length_toList,hs]at hl;simp only[if_true,Kar,nt hn,Kan,hl,Ka3]
 |false=>have gL:=h1 rfl;subst gL;have h0:=hc 0 (by omega);simp only[KaY]at h0;simp only[Kbs,if_false,run_load,h0]
theorem qx{i e o j n cap:Nat}(h1:i<cap)(h2:o+n<=e)(h3:j<n):i*e+o+j<cap*e:=by have:(i+1)*e<=cap*e:=Kaj e h1;rw[KaK,KcT]at this;omega
theorem og{w:World}{b o:Nat}{cur:Array Value}{ty:TypeId}(h:w.heap[b]? =some (.cells cur ty (0,0)))(ho:o<cur.size):w.cell? ⟨b,o,none⟩=some (cur.getD o undef):=by simp[World.cell?,h,ho,Array.getD]
theorem wu{n:Nat}{f:Nat->Value}{j:Nat}(hj:j<n):(Array.ofFn (n:=n) fun i=>f i.val).getD j undef=f j:=by simp[Array.getD,hj]
theorem afQ{o:Oper}{t:TypeId}{n:Nat}{ag:Bool}{x:Operand}{px:PV}{d:Nat}(ho:o.op= .load t x)(hd:o.dst=some d)(aw:d<C.N)(h:Qv C ρ fr hp a.tmps w)
  (hn:fa C.P t=some n) (kU:oz C.P t=some ag) (hx:Qn C ρ hp w px (a.eval x)) (hv:kf n ag px d fr hp K):DB C ρ o a w K:=by
 have fin:∀(b off:Nat)(vs:Array Value)(p:PV),a.eval x= .pointer (some ⟨b,off,none⟩)->(ag=false->n=1)->b<w.heap.size->vs.size=n->
   (∀j,j<n->w.cell? ⟨b,off+j,none⟩=some (vs.getD j undef))->bT w (aK C ρ hp) p (if ag then .agg vs else vs.getD 0 undef)->K (af fr d p) hp->DB C ρ o a w K:=by
  intro b off vs p ex h1 hb hs hc hr hK;refine⟨_,b,hb,fun w' pZ=>?_,af fr d p,hp,by rw[hd];exact h.af (Qn.oc hr) aw,hK⟩;have:=Gh (P:=C.P) hn kU h1 hs w' (fun j hj=>by rw[yg pZ];exact hc j hj);unfold execOp;simp only[ho,ex,Kar,Instr.loadAt,Instr.sureAddr,Ka3,Kan,this]
 unfold kf at hv;split at hv
 ·rename_i β i o';split at hv
  ·rename_i hb ae;obtain⟨h1,h2,h3,hK⟩:=hv;obtain⟨b,hb2,g1,g2,g3⟩:=hx.B3;rw[ae]at g2;cases g2;have bE:=h.own β hb ae;have bl:=bE.dd;rw[g1]at bl;obtain⟨_,nU,cur,cap,c1,c2,c3,c4,c5⟩:=bl;have gR:=Kag h1;have kV:=(bE.len i _ gR).1;have eD:i<cap:=by omega
   have tf:∀j,j<n->i*hb.e+o'+j<cur.size:=fun j hj=>by rw[c2];exact qx eD h2 hj
   refine fin b (i*hb.e+o') (Array.ofFn (n:=n) fun j=>cur.getD (i*hb.e+o'+j.val) undef) _ g3 h3 nU (by simp) (fun j hj=>?_) ?_ hK
   ·rw[wu (f:=fun j=>cur.getD (i*hb.e+o'+j) undef) hj];exact og c1 (tf j hj)
   ·refine Dk (by simp) (by rw[kV];exact h2) h3 (fun j y hj hy=>?_);rw[wu (f:=fun j=>cur.getD (i*hb.e+o'+j) undef) hj,Kco];exact c5 i _ gR (o'+j) y hy
  ·exact hv.elim
 ·rename_i cs;obtain⟨h1,h3,hK⟩:=hv;obtain⟨b,off,ex,NH⟩:=hx.Je;cases NH with
  | pt _ _ _ vs hX hb IA hr=>
   refine fin b off (Array.ofFn (n:=n) fun j=>vs j.val) _ ex h3 hb (by simp) (fun j hj=>?_) ?_ hK
   ·rw[wu hj];exact IA j (by omega)
   ·refine Dk (by simp) (by simpa[PV.cells]using h1) h3 (fun j y hj hy=>?_);rw[wu hj];exact hr j y (by simpa[PV.cells]using hy)
 ·rename_i β o' m;obtain⟨rfl,rfl,hK⟩:=hv;obtain⟨b,u,e1,e2,e3,e4,e5⟩:=hx;refine⟨_,b,e2,fun w' pZ=>?_,af fr d (.aB β o' m),hp,by rw[hd];exact h.af (p:=.aB β o' m) (v:=u) e5 aw,hK⟩;have:=Gh (P:=C.P) (t:=t) (b:=b) (off:=0) (vs:= #[u]) hn kU (fun _=>rfl) rfl w' (fun j hj=>by
   obtain rfl:j=0:=by omega
   rw[yg pZ];simpa using e4)
  unfold execOp;simp only[ho,e1,Kar,Instr.loadAt,Instr.sureAddr,Ka3,Kan,this];rfl
 ·rename_i γ i o';split at hv
  ·rename_i bu e ty xs aj;obtain⟨rfl,h1,h2,h3,hK⟩:=hv;obtain⟨hB,b,hb,g1,g2,g3⟩:=hx.Oc;have bb:=h.cN bu;rw[aj]at bb;obtain⟨_,BC,b',ax,cur,cap,q1,q2,q3,q4,q5,q6,q7,q8,q9,Fx,z8⟩:=bb;rw[g1]at q1;cases q1;rw[g2]at q2;cases q2;rw[q4]at g3;have nU:b<w.heap.size:=(KbW.1 q6).1;have gR:=Kag h1;have kV:=Fx i _ gR;have eD:i<cap:=by omega
   have tf:∀j,j<n->i*e+o'+j<cur.size:=fun j hj=>by rw[q7];exact qx eD h2 hj
   have kd:∀j,j<n->w.cell? ⟨b,i*e+o'+j,none⟩=some ((Array.ofFn (n:=n) fun j=>cur.getD (i*e+o'+j.val) undef).getD j undef):=fun j hj=>by rw[wu (f:=fun j=>cur.getD (i*e+o'+j) undef) hj];exact og q6 (tf j hj)
   have iF:=R5 (C:=C) (ρ:=ρ) (hp:=hp) (w:=w) (ag:=ag) (n:=n) (off:=o') (x:=xs[i]) (vs:=Array.ofFn (n:=n) fun j=>cur.getD (i*e+o'+j.val) undef) (by simp) (by rw[kV];exact h2) h3 (fun j y hj hy=>by rw[wu (f:=fun j=>cur.getD (i*e+o'+j) undef) hj,Kco];exact z8 i _ gR (o'+j) y hy);refine⟨_,b,nU,fun w' pZ=>?_,af fr d _,hp,by rw[hd];exact h.af iF aw,hK⟩;have:=Gh (P:=C.P) (b:=b) (off:=i*e+o') (vs:=Array.ofFn (n:=n) fun j=>cur.getD (i*e+o'+j.val) undef) hn kU h3 (by simp) w' (fun j hj=>by rw[yg pZ];exact kd j hj);unfold execOp;simp only[ho,g3,Kar,Instr.loadAt,Instr.sureAddr,Ka3,Kan,this]
  ·exact hv.elim
 ·exact hv.elim
theorem UZ{tmps:Array Value}(h:Qv C ρ fr hp tmps w){β b:Nat}{hb:HB}{l:List Nat}(_hB:aR β=false)(ae:hp β=some hb)(hl:β∈l)(bK:ρ β=some b):¬aK C ρ (bW hp l) b:=by
 have bl:=(h.own β hb ae).dd;rw[bK]at bl;rintro(hx|⟨γ,hg,h1,h2,h3⟩)
 ·exact Ctx.H4 bl.1 (Ba _hB) hx
 ·obtain⟨rT,g1,_,_,_,_,g6⟩:=Ck h1;have:=h.inj γ β b (by simp[g1]) (by simp[ae]) h3 bK;subst this;exact g6 h2 hl
theorem GQ{tmps:Array Value}(h:Qv C ρ fr hp tmps w){p:PV}{v:Value}{l:List Nat}(hr:dh C ρ hp w p v)(hl:∀β∈p.cn,β∈l)(hu:cZ hp p≠ .undef):Qu w (aK C ρ (bW hp l)) (cZ hp p) v:=by
 cases p with
 | mp β i o=>
  obtain⟨b,hb,g1,g2,rfl⟩:=hr;have zV:=hl β (by simp[PV.cn]);have bE:=h.own β hb g2;have bl:=bE.dd;rw[g1]at bl;obtain⟨_,aw,cur,cap,c1,c2,c3,c4,c5⟩:=bl;have hB:aR β=false:=by
   cases hq:aR β with
   |false=>rfl
   |true=>simp[cZ,hq]at hu
  simp only[cZ,g2,hB]at hu⊢;cases hx:hb.xs[i]? with
  |none=>simp[hx]at hu
  | some x=>
   simp only[Kbs,if_false];have hi:i<hb.xs.length:=(Kaf.1 hx).1;have kV:=(bE.len i x hx).1;refine Qu.pt _ b _ (fun j=>cur.getD (i*hb.e+o+j) undef) (UZ h hB g2 zV g1) aw (fun j hj=>?_) (fun j y hy=>?_)
   ·have et:o+(j+1)<=hb.e:=by simp[kV]at hj;omega
    exact og c1 (by rw[c2];exact qx (by omega) et (Nat.lt_succ_self j))
   ·rw[Kbe]at hy;rw[Kco];exact(c5 i x hx (o+j) y hy).freeze
 | aB β o n=>
  obtain⟨hb,g1,g2,g3⟩:=hr;have hB:aR β=false:=by
   cases hq:aR β with
   |false=>rfl
   |true=>simp[cZ,hq]at hu
  simp only[cZ,g1,hB];rcases g3 with⟨g3,rfl,rfl,rfl⟩|⟨b,cap,g3,rfl,g5,g6⟩
  ·simp only[Kcg];exact .oS _ _ _ (Kbz _)
  ·have zV:=hl β (by simp[PV.cn]);have bE:=h.own β hb g1;have bl:=bE.dd;rw[g3]at bl;obtain⟨_,aw,cur,eW,c1,c2,c3,c4,c5⟩:=bl;obtain⟨cur',ty',d1,d2⟩:=g5;rw[c1]at d1;cases d1;have jk:o+cap=eW:=by rw[c2]at d2;exact(KbJ bE.m6 d2).symm
   subst jk;have hlen:((hb.xs.drop o).take n).length=n:=by simp;omega
   have fJ:∀(i:Nat)(x:PV),((hb.xs.drop o).take n)[i]? =some x->i<n/\hb.xs[o+i]? =some x:=fun i x hx=>by
    have hi:i<n:=by have:=(Kaf.1 hx).1;omega
    rw[KaN hi,Kbe]at hx;exact⟨hi,hx⟩
   have:=Qu.sl (w:=w) (X:=aK C ρ (bW hp l)) hb.e ((hb.xs.drop o).take n) b (o*hb.e) cap (fun i j=>cur.getD ((o+i)*hb.e+j) undef) (UZ h hB g1 zV g3) aw (by omega) (by omega)
    (fun i x hx=>(bE.len _ x (fJ i x hx).2).1)
    (fun i hi j hj=>by rw[hlen]at hi;have:=qx (i:=o+i) (e:=hb.e) (o:=0) (j:=j) (n:=hb.e) (cap:=o+cap) (by omega) (by omega) hj;rw[KaY]at this;rw[show o*hb.e+i*hb.e+j=(o+i)*hb.e+j by rw[KaK]];exact og c1 (by rw[c2];exact this))
    (fun i x hx j y hy=>(c5 _ x (fJ i x hx).2 j y hy).freeze)
   rwa[hlen]at this
 |undef=>simp[cZ]at hu
 |rb=>simp[cZ]at hu
 |aI=>simp[cZ]at hu
 |np=>simp[cZ]at hu
 |bo=>simp[cZ]at hu
 |dX=>simp[cZ]at hu
 |aC=>simp[cZ]at hu
 |_=>exact Qu.freeze hr
theorem R6{p:PV}(h:p.ki=true):p≠ .undef:=by cases p<;>simp[PV.ki]at h⊢
theorem OM{p:PV}(h:p.aN=true):p≠ .undef:=by cases p<;>simp[PV.aN]at h⊢
theorem tH{tmps:Array Value}(h:Qv C ρ fr hp tmps w){p:PV}{v:Value}{l:List Nat}(hr:Qn C ρ hp w p v)(hl:∀β∈p.refs,β∈l)(hd:(aU hp p).aN=true):bT w (aK C ρ (bW hp l)) (aU hp p) v:=by
 cases p with
 | fn f first cap=>
  obtain⟨fv,cv,rfl,h1,h2,h3,h4⟩:=hr;simp only[aU,PV.aN,KaC,Kax,Kaq,forall_exists_index,and_imp,forall_apply_eq_imp_iff₂]at hd;refine Qu.fn f _ _ fv cv (by simp[h1]) (by simp[h2]) (fun i x hx=>?_) (fun i x hx=>?_)
  ·simp only[Kas,Kaa]at hx;obtain⟨y,hy,rfl⟩:=hx;exact GQ h (h3 i y hy) (fun β ae=>hl β (Kv hy β ae)) (R6 (hd.1 y (Kai hy)))
  ·simp only[Kas,Kaa]at hx;obtain⟨y,hy,rfl⟩:=hx;exact GQ h (h4 i y hy) (fun β ae=>hl β (KG hy β ae)) (R6 (hd.2 y (Kai hy)))
 |mp β i o=>exact bT.tB (GQ (p:=.mp β i o) h hr hl (OM hd))
 |aB β o n=>exact bT.tB (GQ (p:=.aB β o n) h hr hl (OM hd))
 |undef=>simp[aU,cZ,PV.aN]at hd
 |rb=>simp[aU,cZ,PV.aN]at hd
 |aI=>simp[aU,cZ,PV.aN]at hd
 |np=>simp[aU,cZ,PV.aN]at hd
 |bo=>simp[aU,cZ,PV.aN]at hd
 |dX=>simp[aU,cZ,PV.aN]at hd
 |aC=>simp[aU,cZ,PV.aN]at hd
 |aH ps=>simp[aU,cZ,PV.aN]at hd
 |agg cs=>exact bT.mono (p:=.agg cs) hr (fun _ _ _=>rfl) (fun _ _ hn hx=>hn (K9 hx)) (Kae _)
 |_=>exact Qu.freeze hr
end Go.FW
namespace Go.FW
open Go
variable {C : Ctx} {ρ : Nat -> Option Nat} {fr : Fr} {hp : HP} {w : World} {a : Act} {K : Qh}
theorem wv{x:Option Operand}{y:Option aX}{W2 n:Int}(h:Qv C ρ fr hp a.tmps w)(ho:qB x=some y)(hb:jL W2 (y.map (ev fr))=some n):
  (x=none/\y=none/\n=W2)∨∃z k,x=some z/\a.eval z= .int k n/\y.isSome=true:=by
 cases x with
 |none=>simp[qB]at ho;subst ho;simp[jL]at hb;exact .inl ⟨rfl,rfl,hb.symm⟩
 | some z=>
  simp only[qB,Kaa]at ho;obtain⟨u,hu,rfl⟩:=ho;have hr:=cR h hu;simp only[Kci]at hb;cases hp':ev fr u with
  |int k m=>rw[hp']at hb hr;simp[jL]at hb;subst hb;exact .inr ⟨z,k,rfl,hr.mF,rfl⟩
  |_=>rw[hp']at hb;simp[jL]at hb
theorem yc{P:Program}{k:IntKind}{i:Int}{y:Nat}{code:BoundsCode}(h0:0<=i)(h1:i<=y)(w:World):(Instr.sliceBound (.int k i) y code).run P w= .ok i.toNat w:=by
 unfold Instr.sliceBound;have:0<=i/\i<=y:=⟨h0,h1⟩
 simp only[asIntOf,Kar,Ka3,Kan,if_pos this]
theorem Gz{P:Program}{len cap:Nat}{lo hi mx:Option Operand}{L H M:Int}(eval:Operand->Value)
  (hL:(lo=none/\L=0)∨∃z k,lo=some z/\eval z= .int k L)
  (hH:(hi=none/\H=len)∨∃z k,hi=some z/\eval z= .int k H)
  (hM:(mx=none/\M=len)∨∃z k,mx=some z/\eval z= .int k M) (hm:mx.isSome=true->hi.isSome=true)
  (h0:0<=L) (h1:L<=H) (h2:H<=M) (h3:M<=len) (h4:len<=cap):
  ∃m,L.toNat<=m/\H.toNat<=m/\m<=cap/\(mx=none->m=cap)/\∀w,(Instr.sliceBounds true len cap (lo.map eval) (hi.map eval) (mx.map eval)).run P w= .ok (L.toNat,H.toNat,m) w:=by
 have c1:H<=(cap:Int):=by omega
 rcases hM with⟨rfl,hM⟩|⟨zm,km,rfl,hM⟩
 ·refine⟨cap,by omega,by omega,Kae _,fun _=>rfl,fun w=>?_⟩;rcases hH with⟨rfl,hH⟩|⟨zh,kh,rfl,hH⟩<;>rcases hL with⟨rfl,hL⟩|⟨zl,kl,rfl,hL⟩
  ·subst hH;subst hL;simp[Instr.sliceBounds,Kar]
  ·subst hH;have e:=yc (P:=P) (k:=kl) (code:=.sliceB) (y:=len) h0 h1;simp[Instr.sliceBounds,Kar,hL,e]
  ·subst hL;have e:=yc (P:=P) (k:=kh) (code:=.sliceAcap) (y:=cap) (by omega) c1;simp[Instr.sliceBounds,Kar,hH,e]
  ·have e:=yc (P:=P) (k:=kh) (code:=.sliceAcap) (y:=cap) (by omega) c1;have e2:=yc (P:=P) (k:=kl) (code:=.sliceB) (y:=H.toNat) h0 (by omega);simp[Instr.sliceBounds,Kar,hH,hL,e,e2]
 ·rcases hH with⟨rfl,hH⟩|⟨zh,kh,rfl,hH⟩
  ·simp at hm
  have e:=yc (P:=P) (k:=km) (code:=.slice3Acap) (y:=cap) (i:=M) (by omega) (by omega);have e1:=yc (P:=P) (k:=kh) (code:=.slice3B) (y:=M.toNat) (i:=H) (by omega) (by omega);refine⟨M.toNat,by omega,by omega,by omega,fun h=>by simp at h,fun w=>?_⟩;rcases hL with⟨rfl,hL⟩|⟨zl,kl,rfl,hL⟩
  ·subst hL;simp[Instr.sliceBounds,Kar,hH,hM,e,e1]
  ·have e2:=yc (P:=P) (k:=kl) (code:=.slice3C) (y:=H.toNat) (i:=L) h0 (by omega);simp[Instr.sliceBounds,Kar,hH,hM,hL,e,e1,e2]
theorem Gi{P:Program}{t e:TypeId}{n len cap l h m:Nat}{ad:Option Addr}{lo hi mx:Option Value}(hu:P.underlying t=some (.slice e))(hn:fa P e=some n)(w:World)
  (hb:(Instr.sliceBounds true len cap lo hi mx).run P w= .ok (l,h,m) w):
  (Instr.sliceAt t (.slice ad len cap) lo hi mx).run P w= .ok (.slice (if m=l then ad else ad.map (·.add (l*n))) (h-l) (m-l)) w:=by
 unfold Instr.sliceAt Instr.slice;simp only[Kar,jJ hu,Kan,hb,nt hn,Ka3]
theorem UB{xs:List PV}{H L i:Nat}{x:PV}(hx:((xs.take H).drop L)[i]? =some x):xs[L+i]? =some x/\L+i<H:=by
 rw[Kbe]at hx;have hi:L+i<H:=by have:=(Kaf.1 hx).1;simp at this;omega
 rw[KaN hi]at hx;exact⟨hx,hi⟩
theorem Qu.part{X:Nat->Prop}{e:Nat}{xs:List PV}{ad:Option Addr}{cap L H m:Nat}(h:Qu w X (.sl e xs) (.slice ad xs.length cap))(h1:L<=H)(h2:H<=xs.length)(h3:H<=m)(h4:m<=cap):
  Qu w X (.sl e ((xs.take H).drop L)) (.slice (if m=L then ad else ad.map (·.add (L*e))) (H-L) (m-L)):=by
 by_cases he:H=L
 ·subst he;have:(xs.take H).drop H=[]:=List.drop_eq_nil_of_le (by simp;omega);rw[this,KbA];refine .oS _ _ _ ?_;cases h with
  |oS _ _ _ hc=>omega
  |sl _ _ b off _ vs hX hb hl hc=>omega
 ·have hlen:((xs.take H).drop L).length=H-L:=by simp;omega
  cases h with
  |oS=>simp at h2;omega
  | sl _ _ b off _ vs hX hb hl hc he' hv hr=>
   have hm:¬m=L:=by omega
   rw[if_neg hm];simp only[Kci,KbZ];have:=Qu.sl (w:=w) (X:=X) e ((xs.take H).drop L) b (off+L*e) (m-L) (fun i j=>vs (L+i) j) hX hb (by omega) (by omega)
    (fun i x hx=>he' _ x (UB hx).1)
    (fun i hi j hj=>by have:=hv (L+i) (by omega) j hj;rw[show off+L*e+i*e+j=off+(L+i)*e+j by rw[KaK];omega];exact this)
    (fun i x hx j y hy=>hr _ x (UB hx).1 j y hy)
   rwa[hlen]at this
theorem afR{o:Oper}{t e:TypeId}{n:Nat}{x:Operand}{px:PV}{lo hi mx:Option Operand}{Jd Fu Fv:Option aX}{d:Nat}(ho:o.op= .slice t x lo hi mx)(hd:o.dst=some d)(aw:d<C.N)(h:Qv C ρ fr hp a.tmps w)
  (hu:C.P.underlying t=some (.slice e)) (hn:fa C.P e=some n) (hx:Qn C ρ hp w px (a.eval x)) (nb:qB lo=some Jd) (rU:qB hi=some Fu) (zE:qB mx=some Fv)
  (hv:kj n px (Jd.map (ev fr)) (Fu.map (ev fr)) (Fv.map (ev fr)) d fr hp K):Qz C ρ o a w K:=by
 have n8:∀ {x:Option Operand} {y:Option aX},qB x=some y->(x.isSome=true↔y.isSome=true):=by
  intro x y Fi;cases x with
  |none=>simp[qB]at Fi;subst Fi;simp
  |some z=>simp only[qB,Kaa]at Fi;obtain⟨u,_,rfl⟩:=Fi;simp
 have common:∀(hp':HP)(xs:List PV)(len cap:Nat)(ad:Option Addr)(L H M:Int),Qv C ρ fr hp' a.tmps w->len=xs.length->a.eval x= .slice ad len cap->len<=cap->
   Qu w (aK C ρ hp') (.sl n xs) (.slice ad xs.length cap)->jL 0 (Jd.map (ev fr))=some L->jL len (Fu.map (ev fr))=some H->jL len (Fv.map (ev fr))=some M->
   0<=L->L<=H->H<=M->M<=len->((Fv.map (ev fr)).isSome=true->(Fu.map (ev fr)).isSome=true)->K (af fr d (.sl n ((xs.take H.toNat).drop L.toNat))) hp'->Qz C ρ o a w K:=by
  intro hp' xs len cap ad L H M hs hl ex eD hr bL bH bM h0 h1 h2 h3 hm hK;have e1:=wv h nb bL;have e2:=wv h rU bH;have e3:=wv h zE bM;obtain⟨m,q1,q2,q3,_,q4⟩:∃m,L.toNat<=m/\H.toNat<=m/\m<=cap/\(mx=none->m=cap)/\∀w',(Instr.sliceBounds true len cap (lo.map a.eval) (hi.map a.eval) (mx.map a.eval)).run C.P w'= .ok (L.toNat,H.toNat,m) w':=by
   refine Gz (P:=C.P) a.eval ?_ ?_ ?_ (fun hq=>(n8 rU).2 (by simpa using hm (by simpa using(n8 zE).1 hq))) h0 h1 h2 h3 eD
   ·rcases e1 with⟨q1,_,q3⟩|⟨z,k,q1,q2,_⟩
    ·exact .inl ⟨q1,q3⟩
    ·exact .inr ⟨z,k,q1,q2⟩
   ·rcases e2 with⟨q1,_,q3⟩|⟨z,k,q1,q2,_⟩
    ·exact .inl ⟨q1,q3⟩
    ·exact .inr ⟨z,k,q1,q2⟩
   ·rcases e3 with⟨q1,_,q3⟩|⟨z,k,q1,q2,_⟩
    ·exact .inl ⟨q1,q3⟩
    ·exact .inr ⟨z,k,q1,q2⟩
  have hp:=hr.part (L:=L.toNat) (H:=H.toNat) (m:=m) (by omega) (by omega) q2 q3;refine⟨_,fun w'=>?_,af fr d _,hp',by rw[hd];exact hs.af (Qn.oc (bT.tB hp)) aw,hK⟩;unfold execOp;simp only[ho,ex,Kar,Gi hu hn w' (q4 w'),Kan];rfl
 unfold kj at hv;split at hv
 ·
  split at hv
  ·rename_i L H M bL bH bM;obtain⟨rfl,rfl,rfl,hm,hK⟩:=hv;have ex:=hx.z7;refine Qz.mk hd aw h (p:=.au) (v:=.slice none 0 0) (fun w'=>?_) Qu.au hK;have e1:=wv h nb bL;have e2:=wv h rU bH;have e3:=wv h zE bM;obtain⟨m,q1,q2,q3,_,q4⟩:∃m,(0:Int).toNat<=m/\(0:Int).toNat<=m/\m<=0/\(mx=none->m=0)/\∀w',(Instr.sliceBounds true 0 0 (lo.map a.eval) (hi.map a.eval) (mx.map a.eval)).run C.P w'= .ok ((0:Int).toNat,(0:Int).toNat,m) w':=by
    refine Gz (P:=C.P) a.eval ?_ ?_ ?_ (fun hq=>(n8 rU).2 (by simpa using hm (by simpa using(n8 zE).1 hq))) (Int.le_refl _) (Int.le_refl _) (Int.le_refl _) (by simp) (Kae _)
    ·rcases e1 with⟨q1,_,q3⟩|⟨z,k,q1,q2,_⟩
     ·exact .inl ⟨q1,q3⟩
     ·exact .inr ⟨z,k,q1,q2⟩
    ·rcases e2 with⟨q1,_,q3⟩|⟨z,k,q1,q2,_⟩
     ·exact .inl ⟨q1,by simp⟩
     ·exact .inr ⟨z,k,q1,q2⟩
    ·rcases e3 with⟨q1,_,q3⟩|⟨z,k,q1,q2,_⟩
     ·exact .inl ⟨q1,by simp⟩
     ·exact .inr ⟨z,k,q1,q2⟩
   obtain rfl:m=0:=by omega
   unfold execOp;simp only[ho,ex,Kar,Gi hu hn w' (q4 w'),Kan];rfl
  ·exact hv.elim
 ·rename_i e' xs;split at hv
  ·rename_i L H M bL bH bM;obtain⟨rfl,h0,h1,h2,h3,hm,hK⟩:=hv;obtain⟨ad,cap,ex,zn,iD⟩:=hx.aac;have bk:Qu w (aK C ρ hp) (.sl e' xs) (a.eval x):=hx;rw[ex]at bk;exact common hp xs _ cap ad L H M h rfl ex zn bk bL bH bM h0 h1 h2 h3 hm hK
  ·exact hv.elim
 ·rename_i β o' m;cases Fv with
  |some zm=>revert hv;split<;>simp_all
  |none=>
  split at hv
  ·rename_i L H bL bH bM;obtain⟨he,h0,h1,h2,h3,hK⟩:=hv;have m0:mx=none:=by cases mx<;>simp[qB]at zE⊢
   subst m0;have e1:=wv h nb bL;have e2:=wv h rU bH;obtain⟨hb,g1,g2,g3⟩:=hx;rw[g1]at he;simp only[Kci,KaH]at he;have hL:(lo=none/\L=0)∨∃z k,lo=some z/\a.eval z= .int k L:=by
    rcases e1 with⟨q1,_,q3⟩|⟨z,k,q1,q2,_⟩
    ·exact .inl ⟨q1,q3⟩
    ·exact .inr ⟨z,k,q1,q2⟩
   have hH:(hi=none/\H=(m:Int))∨∃z k,hi=some z/\a.eval z= .int k H:=by
    rcases e2 with⟨q1,_,q3⟩|⟨z,k,q1,q2,_⟩
    ·exact .inl ⟨q1,q3⟩
    ·exact .inr ⟨z,k,q1,q2⟩
   rcases g3 with⟨g3,ex,rfl,rfl⟩|⟨b,cap,g3,ex,g5,g6⟩
   ·obtain⟨m',q1,q2,q3,_,q4⟩:=Gz (P:=C.P) (len:=0) (cap:=0) (mx:=none) (M:=0) a.eval hL hH (.inl ⟨rfl,rfl⟩) (by simp) h0 h1 h2 (by simp) (Kae _);have hH0:H.toNat=0:=by omega
    have hL0:L.toNat=0:=by omega
    have zC:m'=0:=by omega
    refine Qz.mk hd aw h (v:=.slice none 0 0) (fun w'=>?_) ?_ hK
    ·unfold execOp;simp only[ho,ex,Kar,Gi hu hn w' (q4 w'),Kan];simp[hH0,zC,hL0]
    ·exact⟨hb,g1,by omega,.inl ⟨g3,rfl,by omega,by omega⟩⟩
   ·have eD:m<=cap:=by have bl:=(h.own β hb g1).dd;rw[g3]at bl;obtain⟨_,_,cur,eW,c1,c2,c3,c4,c5⟩:=bl;obtain⟨cur',ty',d1,d2⟩:=g5;rw[c1]at d1;cases d1;rw[c2]at d2;have:=KbJ (h.own β hb g1).m6 d2;omega
    obtain⟨m',q1,q2,q3,q5,q4⟩:=Gz (P:=C.P) (len:=m) (cap:=cap) (mx:=none) (M:=(m:Int)) a.eval hL hH (.inl ⟨rfl,rfl⟩) (by simp) h0 h1 h2 (Int.le_refl _) eD;obtain rfl:=q5 rfl;refine Qz.mk hd aw h (v:=.slice (some ⟨b,(o'+L.toNat)*hb.e,none⟩) (H.toNat-L.toNat) (m'-L.toNat)) (fun w'=>?_) ?_ hK
    ·unfold execOp;simp only[ho,ex,Kar,Gi hu hn w' (q4 w'),Kan];congr 1;by_cases hz:L=0
     ·subst hz;simp[Addr.add_zero']
     ·rw[if_neg (by omega)];simp[KbZ,he,KaK]
    ·exact⟨hb,g1,by omega,.inr ⟨b,m'-L.toNat,g3,rfl,by rw[show o'+L.toNat+(m'-L.toNat)=o'+m' by omega];exact g5,by omega⟩⟩
  ·exact hv.elim
 ·exact hv.elim
end Go.FW
namespace Go.FW
open Go
variable {C : Ctx} {ρ : Nat -> Option Nat} {fr : Fr} {hp : HP} {w : World} {a : Act} {K : Qh}
def sE(Q:PV->Value->Prop)(ps:List PV)(vs:Array Value):Prop:=vs.size=ps.length/\∀(i:Nat)(x:PV),ps[i]? =some x->Q x (vs.getD i undef)
abbrev Rows(w:World)(X:Nat->Prop)(ps:List PV)(vs:Array Value):Prop:=sE (Qu w X) ps vs
theorem PZ(off:Nat):∀(l:List Value)(s:Nat)(cs:Array Value),
  ((l.zipIdx s).foldl (fun cs (p:Value×Nat)=>cs.setIfInBounds (off+p.2) p.1) cs).size=cs.size/\
  ∀k,k<cs.size->((l.zipIdx s).foldl (fun cs (p:Value×Nat)=>cs.setIfInBounds (off+p.2) p.1) cs).getD k undef=if off+s<=k/\k<off+s+l.length then l.getD (k-off-s) undef else cs.getD k undef
 | [],s,cs=>by refine⟨rfl,fun k hk=>?_⟩;simp only[List.zipIdx_nil,List.foldl_nil,Kbk,KaY];rw[if_neg (by omega)]
 | c::l,s,cs=>by
  obtain⟨h1,h2⟩:=PZ off l (s+1) (cs.setIfInBounds (off+s) c);simp only[List.zipIdx_cons,List.foldl_cons];refine⟨by rw[h1];simp,fun k hk=>?_⟩;rw[h2 k (by simpa using hk)];by_cases hks:k=off+s
  ·subst hks;rw[if_neg (by omega),if_pos (by simp)];simp[Array.getD,hk]
  ·by_cases hr:off+(s+1)<=k/\k<off+(s+1)+l.length
   ·rw[if_pos hr,if_pos (by simp;omega)];have:k-off-s=(k-off-(s+1))+1:=by omega
    rw[this];simp
   ·rw[if_neg hr,if_neg (by simp;omega)];simp only[KaX];rw[KcI (by omega)]
theorem Q52(cs:Array Value)(v:Array Value)(off:Nat):
  v.zipIdx.foldl (fun cs (x:Value×Nat)=>match x with|(c,j)=>cs.setIfInBounds (off+j) c) cs=(v.toList.zipIdx).foldl (fun cs (p:Value×Nat)=>cs.setIfInBounds (off+p.2) p.1) cs:=by
 rw[<-Array.foldl_toList,Array.toList_zipIdx]
theorem sE.aso{Q:PV->Value->Prop}{ps qs:List PV}{vs us:Array Value}{off:Nat}(h:sE Q ps vs)(hq:sE Q qs us)(hle:off+qs.length<=ps.length):
  sE Q (ps.take off++qs++ps.drop (off+qs.length)) (us.zipIdx.foldl (fun cs (x:Value×Nat)=>match x with|(c,j)=>cs.setIfInBounds (off+j) c) vs):=by
 obtain⟨h1,h2⟩:=h;obtain⟨q1,q2⟩:=hq;rw[Q52];obtain⟨f1,f2⟩:=PZ off us.toList 0 vs;refine⟨by rw[f1,h1];simp;omega,fun i x hx=>?_⟩;have hi:i<ps.length:=by have:=(Kaf.1 hx).1;simp at this;omega
 rw[f2 i (by omega)];simp only[KaY,Array.length_toList,Kcw];rw[Kbt,Ka2]at hx;by_cases c1:i<off
 ·rw[if_neg (by omega)];rw[if_pos (by simp;omega),KaN c1]at hx;exact h2 i x hx
 ·rw[if_neg (by simp;omega)]at hx;have ht:(ps.take off).length=off:=by simp;omega
  rw[ht,Ka2]at hx;by_cases c2:i-off<qs.length
  ·rw[if_pos c2]at hx;rw[if_pos (by omega)];have:=q2 _ _ hx
   rwa[show us.toList.getD (i-off) undef=us.getD (i-off) undef by simp[KaX]]
  ·rw[if_neg c2,Kbe]at hx;rw[if_neg (by omega)];rw[show off+qs.length+(i-off-qs.length)=i by omega]at hx;exact h2 i x hx
theorem GA{Q:PV->Value->Prop}(place:Nat->Option (Nat×Nat)):∀(parts:List (Nat×Value))(qs:List (Nat×List PV))(ps:List PV)(vs:Array Value),sE Q ps vs->parts.length=qs.length->
  (∀(i:Nat)(p:Nat×Value)(q:Nat×List PV),parts[i]? =some p->qs[i]? =some q->place p.1=some (q.1,q.2.length)/\sE Q q.2 p.2.cells/\q.1+q.2.length<=ps.length)->
  ∃fC,Instr.fill place vs parts=some fC/\sE Q (jN ps qs) fC
 | [],[],ps,vs,h,_,_=>⟨vs,rfl,h⟩
 | [],q::qs,_,_,_,hl,_=>by simp at hl
 |p::parts,[],_,_,_,hl,_=>by simp at hl
 | (i,v)::parts,(off,xs)::qs,ps,vs,h,hl,hp=>by
  obtain⟨h1,h2,h3⟩:=hp 0 (i,v) (off,xs) rfl rfl;have dM:v.cells.size=xs.length:=h2.1;have hn:¬((v.cells.size≠xs.length||decide (off+v.cells.size>vs.size))=true):=by have:=h.1;simp only[Kct,decide_eq_true_eq,not_or];exact⟨by simp[dM],by rw[dM,this];simp only at h3;omega⟩
  have hlen:(ps.take off++xs++ps.drop (off+xs.length)).length=ps.length:=by simp;simp only at h3;omega
  obtain⟨fC,g1,g2⟩:=GA place parts qs _ _ (h.aso h2 h3) (by simpa using hl) (fun j p q zH hqj=>by obtain⟨k1,k2,k3⟩:=hp (j+1) p q (by simpa using zH) (by simpa using hqj);exact⟨k1,k2,by rw[hlen];exact k3⟩);refine⟨fC,?_,g2⟩;unfold Instr.fill;simp only[h1];rw[if_neg hn];exact g1
theorem bT.rows{X:Nat->Prop}{p:PV}{v:Value}(h:bT w X p v):Rows w X p.cells v.cells:=h.cells
theorem uV{P:Program}{t:TypeId}{n by_:Nat}{z:PV}(h:l9 P t=some (n,by_,z)):∃(i:TypeInfo)(zv:Value),P.info? t=some i/\i.zero=some zv/\i.size=n/\i.bytes=by_/\uU zv=some z:=by simp only[l9,Kab,Kaa,Prod.mk.injEq]at h;obtain⟨i,h1,zv,h2,p,h3,h4,h5,h6⟩:=h;subst h6;exact⟨i,zv,h1,h2,h4,h5,h3⟩
theorem yd{P:Program}{t:TypeId}{i:TypeInfo}{zv:Value}(h1:P.info? t=some i)(h2:i.zero=some zv)(w:World):(zeroValue t).run P w= .ok zv w:=by simp[zeroValue,typeInfo,h1,h2]
theorem ON{parts:List (Nat×Operand)}{ps:List (Nat×Nat×aX)}{f:Nat×Operand->Option (Nat×Nat×aX)}(h:parts.mapM f=some ps){eval:Operand->Value}{i:Nat}{p:Nat×Value}{q:Nat×Nat×aX}
  (h1:(parts.map fun x=>(x.1,eval x.2))[i]? =some p) (h2:ps[i]? =some q):∃x,parts[i]? =some x/\f x=some q/\p=(x.1,eval x.2):=by
 obtain⟨x,hx,hf⟩:=(oZ h).2 i q h2;refine⟨x,hx,hf,?_⟩;simp only[Kas,hx,Kci,KaH]at h1;exact h1.symm
theorem ad5{o:Oper}{t:TypeId}{parts:Array (Nat×Operand)}{z:PV}{n by_:Nat}{ps:List (Nat×Nat×aX)}{d:Nat}(ho:o.op= .build t parts)(hd:o.dst=some d)(aw:d<C.N)(h:Qv C ρ fr hp a.tmps w)
  (hz:l9 C.P t=some (n,by_,z)) (eF:DA C.P t parts.toList=some ps)
  (hv:FU z.cells (ps.map fun p=>(p.1,p.2.1,ev fr p.2.2)) d fr hp K):Qz C ρ o a w K:=by
 obtain⟨bR,hK⟩:=hv;obtain⟨ti,zv,i1,i2,i3,i4,i5⟩:=uV hz;have I3:Rows w (aK C ρ (bW hp ((ps.map fun p=>(p.1,p.2.1,ev fr p.2.2)).flatMap fun p=>p.2.2.refs))) z.cells zv.cells:=(uN i5).rows;have iX:(parts.map fun(x:Nat×Operand)=>(x.1,a.eval x.2)).toList=parts.toList.map fun x=>(x.1,a.eval x.2):=by simp
 have key:∀(f:Nat×Operand->Option (Nat×Nat×aX))(place:Nat->Option (Nat×Nat)),parts.toList.mapM f=some ps->(∀x q,f x=some q->place x.1=some (q.1,q.2.1)/\cx x.2=some q.2.2)->
   ∃fC,Instr.fill place zv.cells (parts.map fun(x:Nat×Operand)=>(x.1,a.eval x.2)).toList=some fC/\
    Rows w (aK C ρ (bW hp ((ps.map fun p=>(p.1,p.2.1,ev fr p.2.2)).flatMap fun p=>p.2.2.refs))) (jN z.cells ((ps.map fun p=>(p.1,p.2.1,ev fr p.2.2)).map fun p=>(p.1,(aU hp p.2.2).cells))) fC:=by
  intro f place hm hf;rw[iX];refine GA place _ _ _ _ I3 (by simp[(oZ hm).1]) (fun i p q pV xM=>?_);simp only[KbH,Kas,Kaa]at xM;obtain⟨q0,gO,rfl⟩:=xM;obtain⟨x,hx,qS,rfl⟩:=ON hm pV gO;obtain⟨f1,f2⟩:=hf x q0 qS;obtain⟨o1,o2,o3⟩:=bR (q0.1,q0.2.1,ev fr q0.2.2) (Kaq.2 ⟨q0,Kai gO,rfl⟩);simp only[Function.comp]at o1 o2 o3⊢;refine⟨by rw[o2];exact f1,?_,by rw[o2];exact o3⟩;exact(tH h (cR h f2) (fun β ae=>Kat.2 ⟨_,Kaq.2 ⟨q0,Kai gO,rfl⟩,ae⟩) o1).rows
 have fin:∀fC,(∀w',(Instr.build t (parts.map fun(x:Nat×Operand)=>(x.1,a.eval x.2))).run C.P w'= .ok (.agg fC) w')->
   Rows w (aK C ρ (bW hp ((ps.map fun p=>(p.1,p.2.1,ev fr p.2.2)).flatMap fun p=>p.2.2.refs))) (jN z.cells ((ps.map fun p=>(p.1,p.2.1,ev fr p.2.2)).map fun p=>(p.1,(aU hp p.2.2).cells))) fC->Qz C ρ o a w K:=by
  intro fC cH hr;refine⟨.agg fC,fun w'=>?_,_,_,by rw[hd];exact(h.freeze _).af (p:=.agg _) ⟨fC,rfl,hr.1,hr.2⟩ aw,hK⟩;unfold execOp;simp only[ho,Kar];have:=cH w';rw[show(parts.map fun(x:Nat×Operand)=>(x.1,a.eval x.2))=(parts.map fun x=>match x with|(i,x)=>(i,a.eval x))from rfl]at this;rw[this];rfl
 unfold DA at eF;split at eF
 ·rename_i fs hu;simp only[Kab]at eF;obtain⟨pl,aV,hm⟩:=eF;obtain⟨fC,g1,g2⟩:=key _ (fun i=>pl[i]?) hm (fun x q hq=>by simp only[Kab,Kaa]at hq;obtain⟨r,hr,y,hy,rfl⟩:=hq;exact⟨by simpa using hr,hy⟩);refine fin fC (fun w'=>?_) g2;unfold Instr.build;have jn:=run_places (P:=C.P) w' fs.toList pl aV;simp[Kar,yd i1 i2,jJ hu,KbN,jn]at g1⊢;simp[g1]
 ·rename_i len e hu;simp only[Kab]at eF;obtain⟨m,zC,hm⟩:=eF;obtain⟨fC,g1,g2⟩:=key _ (fun i=>some (i*m,m)) hm (fun x q hq=>by simp only[Kaa]at hq;obtain⟨y,hy,rfl⟩:=hq;exact⟨rfl,hy⟩);refine fin fC (fun w'=>?_) g2;unfold Instr.build;simp only[Kar,yd i1 i2,jJ hu,nt zC,Kan,g1,Ka3]
 ·simp at eF
theorem L8{xs:List Operand}{ys:List aX}(h:Qv C ρ fr hp a.tmps w)(hm:xs.mapM cx=some ys):(ys.map (ev fr)).length=xs.length/\∀(i:Nat)(x:PV),(ys.map (ev fr))[i]? =some x->Qn C ρ hp w x ((xs.map a.eval).toArray.getD i undef):=by
 obtain⟨h1,h2⟩:=oZ hm;refine⟨by simp[h1],fun i x hx=>?_⟩;simp only[Kas,Kaa]at hx;obtain⟨y,hy,rfl⟩:=hx;obtain⟨z,hz,ho⟩:=h2 i y hy;have e:((xs.map a.eval).toArray.getD i undef)=a.eval z:=by simp[KaX,Kas,hz]
 rw[e];exact cR h ho
theorem Qn.toA{p:PV}{v:Value}(h:Qn C ρ hp w p v)(hc:p.nk=true):dh C ρ hp w p v:=by cases p<;>first|exact h|simp[PV.nk]at hc
theorem afS{o:Oper}{f:FuncId}{first cap:Array Operand}{pf pc:List aX}{d:Nat}(ho:o.op= .makeFunc (.func f) first cap)(hd:o.dst=some d)(aw:d<C.N)(h:Qv C ρ fr hp a.tmps w)
  (h1:first.toList.mapM cx=some pf) (h2:cap.toList.mapM cx=some pc)
  (hv:(pf.map (ev fr)++pc.map (ev fr)).all PV.nk=true/\K (af fr d (.fn f (pf.map (ev fr)) (pc.map (ev fr)))) hp):Qz C ρ o a w K:=by
 obtain⟨hc,hK⟩:=hv;rw[Kax]at hc;obtain⟨f1,f2⟩:=L8 h h1;obtain⟨c1,c2⟩:=L8 h h2;refine Qz.mk hd aw h (v:=.func (.func f) (first.map a.eval) (cap.map a.eval)) (fun w'=>?_) ?_ hK
 ·unfold execOp;simp only[ho,Kar,Instr.makeFunc,Ka3,Kan]
 ·refine⟨_,_,rfl,by simpa using f1.symm,by simpa using c1.symm,fun i x hx=>?_,fun i x hx=>?_⟩
  ·have:=f2 i x hx;rw[show(first.toList.map a.eval).toArray=first.map a.eval from Array.ext' (by simp)]at this;exact this.toA (hc x (Kcn _ (Kai hx)))
  ·have:=c2 i x hx;rw[show(cap.toList.map a.eval).toArray=cap.map a.eval from Array.ext' (by simp)]at this;exact this.toA (hc x (KbI _ (Kai hx)))
theorem acR{o:Oper}{x:Operand}{px:PV}(ho:o.op= .nilCheck x)(aw:∀d,o.dst=some d->d<C.N)(h:Qv C ρ fr hp a.tmps w)
  (hx:Qn C ρ hp w px (a.eval x)) (hv:DK px o.dst fr hp K):Qz C ρ o a w K:=by
 have key:(∃b o',a.eval x= .pointer (some ⟨b,o',none⟩))∨(∃f fv cv,a.eval x= .func (.func f) fv cv)->(∀d,o.dst=some d->K (af fr d px) hp)->(o.dst=none->K fr hp)->Qz C ρ o a w K:=by
  intro NO k1 k2;have cH:∀w',(execOp a.eval o).run C.P w'= .ok (.value (a.eval x)) w':=by intro w';unfold execOp;rcases NO with⟨b,o',e⟩|⟨f,fv,cv,e⟩<;>simp only[ho,e]<;>rfl
  cases hd:o.dst with
  |some d=>exact⟨_,cH,_,_,by rw[hd];exact h.af hx (aw d hd),k1 d hd⟩
  |none=>exact⟨_,cH,fr,hp,by rw[hd];exact h,k2 hd⟩
 cases px with
 |mp β i o'=>obtain⟨b,hb,_,_,e⟩:=hx.B3;refine key (.inl ⟨_,_,e⟩) (fun d hd=>?_) (fun hd=>?_)<;>(rw[hd]at hv;exact hv)
 |pt cs=>obtain⟨b,off,e,_⟩:=hx.Je;refine key (.inl ⟨_,_,e⟩) (fun d hd=>?_) (fun hd=>?_)<;>(rw[hd]at hv;exact hv)
 |fn f first cap=>obtain⟨fv,cv,e,_⟩:=hx;refine key (.inr ⟨_,_,_,e⟩) (fun d hd=>?_) (fun hd=>?_)<;>(rw[hd]at hv;exact hv)
 |_=>exact hv.elim
end Go.FW
namespace Go.FW
open Go
variable {C : Ctx} {ρ : Nat -> Option Nat} {fr : Fr} {hp : HP} {w : World} {a : Act} {K : Qh}
def dw(C:Ctx)(two:Bool)(w:World)(K:Qh)(a':Act)(w':World):Prop:=
 a'.defers=[]/\(∃aG hp',ft C aG hp' a'.tmps w'/\K aG hp')/\(two=true->Ext eP w w')
theorem lZ{P:Program}{o:Oper}{v:Value}{w w':World}{a:Act}{K':Act->World->Prop}{Q:Exit->Act->World->Prop}(hr:(execOp a.eval o).run P w= .ok (.value v) w')(hK:K' (a.put o.dst v) w'):o.wp P a w K' Q:=by unfold Oper.wp;rw[hr];exact hK
theorem yh{a:Act}{d:Option Nat}{v:Value}:(a.put d v).defers=a.defers:=by cases d<;>rfl
theorem U'(w:World)(o:Obj)(k:Nat)(h:k<w.heap.size):(w.alloc o).heap[k]? =w.heap[k]? :=by show(w.heap.push o)[k]? =_;rw[Array.getElem?_push,if_neg (by omega)]
theorem qj(w:World)(o:Obj):(w.alloc o).heap[w.heap.size]? =some o:=by show(w.heap.push o)[w.heap.size]? =_;simp
theorem KO(w:World)(o:Obj):(w.alloc o).heap.size=w.heap.size+1:=by show(w.heap.push o).size=_;simp
theorem Ext.alloc(w:World)(o:Obj)(Y:Nat->Prop):Ext Y w (w.alloc o):=⟨rfl,rfl,rfl,by rw[KO];omega,fun b hb _=>U' w o b hb⟩
theorem Ext.drew(w:World)(Y:Nat->Prop):Ext Y w w.drew:=⟨rfl,rfl,rfl,Kae _,fun _ _ _=>rfl⟩
theorem Ad{d:Nat}(h:d<C.N):bJ d=false:=by have:=C.hN;simp[bJ];omega
theorem Qv.B4{tmps:Array Value}{aG:Fr}(h:Qv C ρ fr hp tmps w)(d:Nat)(hB:aR d=false)(tc:Ac C ρ hp w d fr aG)(ax:HB)(cur:Array Value)(cap:Nat)(w':World)(hw:w'=w.alloc (.cells cur ax.ty)∨w'=w.drew.alloc (.cells cur ax.ty))
  (hs:cur.size=cap*ax.e) (hle:ax.xs.length<=cap) (hm:cap<=maxLen) (he:0<ax.e) (hl:∀(i:Nat)(x:PV),ax.xs[i]? =some x->x.cells.length=ax.e/\x.aN=true)
  (hc:∀(i:Nat)(x:PV),ax.xs[i]? =some x->∀(j:Nat)(y:PV),x.cells[j]? =some y->Qu w (aK C ρ hp) y (cur.getD (i*ax.e+j) undef)):
  Qv C (rb ρ d (some w.heap.size)) aG (Qj hp d ax) tmps w'/\Ext eP w w':=by
 have lM:∀Y,Ext Y w w':=fun Y=>by
  rcases hw with rfl|rfl
  ·exact Ext.alloc w _ Y
  ·exact(Ext.drew w Y).trans (Ext.alloc w.drew _ Y)
 have dM:w'.heap.size=w.heap.size+1:=by rcases hw with rfl|rfl<;>rw[KO]<;>rfl
 have auc:w'.heap[w.heap.size]? =some (.cells cur ax.ty (0,0)):=by
  rcases hw with rfl|rfl
  ·exact qj w _
  ·exact qj w.drew _
 refine⟨h.B7 d (some w.heap.size) ax hB tc (lM _) (fun c dA=>?_) he hl (by simp) (fun c dA=>?_),lM _⟩
 ·cases dA;exact⟨.inl h.ext.size,by omega,.inl (Kae _)⟩
 ·cases dA;exact⟨cur,cap,auc,hs,hle,hm,hc⟩
theorem Qv.Ja{tmps:Array Value}(h:Qv C ρ fr hp tmps w)(d:Nat)(hB:bJ d=false)(ax:HB)(cur:Array Value)(cap:Nat)(w':World)(hw:w'=w.alloc (.cells cur ax.ty)∨w'=w.drew.alloc (.cells cur ax.ty))
  (hs:cur.size=cap*ax.e) (hle:ax.xs.length<=cap) (hm:cap<=maxLen) (he:0<ax.e) (hl:∀(i:Nat)(x:PV),ax.xs[i]? =some x->x.cells.length=ax.e/\x.aN=true)
  (hc:∀(i:Nat)(x:PV),ax.xs[i]? =some x->∀(j:Nat)(y:PV),x.cells[j]? =some y->Qu w (aK C ρ hp) y (cur.getD (i*ax.e+j) undef)):
  Qv C (rb ρ d (some w.heap.size)) (cP d fr) (Qj hp d ax) tmps w'/\Ext eP w w':=
 h.B4 d (Bb hB) (GP hB) ax cur cap w' hw hs hle hm he hl hc
theorem qo:maxLen=9223372036854775807:=rfl
theorem dw.ob{two:Bool}{o:Oper}{d:Nat}{v:Value}{p:PV}{w':World}{aG:Fr}{hp':HP}{ρ':Nat->Option Nat}(hd:o.dst=some d)(aw:d<C.N)(bq:a.defers=[])
  (h:Qv C ρ' aG hp' a.tmps w') (hx:two=true->Ext eP w w') (hv:Qn C ρ' hp' w' p v) (hK:K (af aG d p) hp'):dw C two w K (a.put o.dst v) w':=by
 refine⟨by rw[yh];exact bq,⟨_,hp',⟨ρ',?_⟩,hK⟩,hx⟩;rw[hd];exact h.af hv aw
theorem bT.aaa{X:Nat->Prop}{p:PV}{v:Value}{n:Nat}(h:bT w X p v)(hn:p.cells.length=n):v.cells.size=1*n/\∀(i:Nat)(x:PV),[p][i]? =some x->∀(j:Nat)(y:PV),x.cells[j]? =some y->Qu w X y (v.cells.getD (i*n+j) undef):=by
 obtain⟨h1,h2⟩:=h.cells;refine⟨by omega,fun i x hx j y hy=>?_⟩
 match i,hx with
 |0,hx=>simp at hx;subst hx;simpa using h2 j y hy
 |i+1,hx=>simp at hx
theorem TU{d n ty:Nat}{x:PV}{w':World}:Qn C (rb ρ d (some w.heap.size)) (Qj hp d ⟨n,ty,[x],false⟩) w' (.mp d 0 0) (.pointer (some ⟨w.heap.size,0,none⟩)):=by refine⟨w.heap.size,⟨n,ty,[x],false⟩,kn _ _ _,by simp[Qj],by simp⟩
theorem ad6{o:Oper}{t:TypeId}{n:Nat}{x:Operand}{px:PV}{d:Nat}{Q:Exit->Act->World->Prop}(ho:o.op= .box t x)(hd:o.dst=some d)(aw:d<C.N)(bq:a.defers=[])(h:Qv C ρ fr hp a.tmps w)
  (hx:Qn C ρ hp w px (a.eval x)) (hv:jB n t px d fr hp K):o.wp C.P a w (dw C true w K) Q:=by
 unfold jB at hv;split at hv
 ·rename_i β o' m hm;have zI:px= .aB β o' m:=by
   cases px with
   |aB ya o2 m2=>
    simp only at hm;split at hm
    ·cases hm;rfl
    ·cases hm
   |_=>cases hm
  subst zI;have hs:=h.grow (w':=w.alloc (.cells (a.eval x).cells t)) (Ext.alloc w _ _);have bk:fF ρ hp (w.alloc (.cells (a.eval x).cells t)) β o' m (a.eval x):=fF.move hx ⟨rfl,fun hb ae=>⟨hb,ae,rfl,Kae _,fun b cap _ hc=>oh (U' w _ b (oo hc)) hc⟩⟩;have zn:(a.eval x).cells= #[a.eval x]:=by obtain⟨ad,cap,e⟩:=Qn.Oa hx;rw[e];rfl
  refine lZ (v:=.pointer (some ⟨w.heap.size,0,none⟩)) (w':=w.alloc (.cells (a.eval x).cells t)) ?_ (dw.ob (p:=.rb β o' m) hd aw bq hs (fun _=>Ext.alloc w _ _) ⟨w.heap.size,a.eval x,rfl,by rw[KO];omega,?_,?_,bk⟩ hv)
  ·unfold execOp;simp only[ho,Instr.box,newVar,newRow];simp
  ·rintro(hq|⟨γ,hg,g1,_,g3⟩)
   ·have:=C.Es _ hq;have:=h.ext.size;omega
   ·have:=(h.own γ hg g1).dd;rw[g3]at this;have:=this.2.1;omega
  ·have:=qj w (.cells (a.eval x).cells t);rw[og this (by rw[zn];simp),zn];rfl
 obtain⟨h1,h2,h3,hK⟩:=hv;have hr:=tH h hx (fun β ae=>ae) h1;obtain⟨r1,r2⟩:=hr.aaa h2;obtain⟨hs,he⟩:=(h.freeze px.refs).Ja d (Ad aw) ⟨n,t,[aU hp px],false⟩ (a.eval x).cells 1 _ (.inl rfl) r1 (by simp) (by rw[qo];omega) h3
  (fun i y hy=>by
   match i,hy with
   |0,hy=>simp at hy;subst hy;exact⟨h2,h1⟩
   |i+1,hy=>simp at hy) r2
 refine lZ (v:=.pointer (some ⟨w.heap.size,0,none⟩)) (w':=w.alloc (.cells (a.eval x).cells t)) ?_ (dw.ob hd aw bq hs (fun _=>he) TU hK);unfold execOp;simp only[ho,Instr.box,newVar,newRow];simp
theorem Q9m{o:Oper}{t:TypeId}{n:Nat}{ti:TypeInfo}{zv:Value}{z:PV}{d:Nat}{Q:Exit->Act->World->Prop}(ho:o.op= .alloc t)(hd:o.dst=some d)(aw:d<C.N)(bq:a.defers=[])(h:Qv C ρ fr hp a.tmps w)
  (i1:C.P.info? t=some ti) (i2:ti.zero=some zv) (hz:uU zv=some z) (hv:jB n t z d fr hp K):o.wp C.P a w (dw C true w K) Q:=by
 unfold jB at hv;split at hv
 ·rename_i β o' m hm;have hd:=(KH hz).1;cases z with
  |aB=>simp[PV.aN]at hd
  |_=>cases hm
 obtain⟨h1,h2,h3,hK⟩:=hv;have hr:=tH (C:=C) (ρ:=ρ) (hp:=hp) h (Qn.oc (uN (w:=w) hz)) (fun β ae=>ae) h1;obtain⟨r1,r2⟩:=hr.aaa h2;obtain⟨hs,he⟩:=(h.freeze z.refs).Ja d (Ad aw) ⟨n,t,[aU hp z],false⟩ zv.cells 1 _ (.inl rfl) r1 (by simp) (by rw[qo];omega) h3
  (fun i y hy=>by
   match i,hy with
   |0,hy=>simp at hy;subst hy;exact⟨h2,h1⟩
   |i+1,hy=>simp at hy) r2
 refine lZ (v:=.pointer (some ⟨w.heap.size,0,none⟩)) (w':=w.alloc (.cells zv.cells t)) ?_ (dw.ob hd aw bq hs (fun _=>he) TU hK);unfold execOp;simp only[ho,Instr.alloc,Kar,yd i1 i2,Kan,newVar,newRow];simp
theorem P0{i e j:Nat}(hj:j<e):(i*e+j)%e=j:=by rw[KbQ,Kc1,KaS hj]
theorem afT{i e j:Nat}(hj:j<e):(i*e+j)/e=i:=by rw[KbQ,Kcx _ _ (by omega),Kb4 hj,Kbh]
theorem Q08{z:Array Value}{n k:Nat}(hk:k<n)(hz:0<z.size):(madeCells z n).getD k undef=z.getD (k%z.size) undef:=by have h1:k%z.size<z.size:=Kbx _ hz;simp[madeCells,Array.getD,hk,h1]
theorem TW{d:Nat}{hb:HB}{n cap:Nat}{w':World}{cur:Array Value}(hle:n<=hb.xs.length)(as6:w'.heap[w.heap.size]? =some (.cells cur hb.ty (0,0)))(hs:cur.size=cap*hb.e)(hm:cap<=maxLen):
  Qn C (rb ρ d (some w.heap.size)) (Qj hp d hb) w' (.ms d n) (.slice (some ⟨w.heap.size,0,none⟩) n cap):=
 ⟨hb,by simp[Qj],by omega,.inr ⟨w.heap.size,cap,kn _ _ _,by simp,⟨cur,hb.ty,as6,by rw[Kbh];exact hs⟩,by omega⟩⟩
theorem afU{o:Oper}{t e:TypeId}{n by_:Nat}{z:PV}{l c:Operand}{pl pc:PV}{d:Nat}{Q:Exit->Act->World->Prop}(ho:o.op= .makeSlice t l c)(hd:o.dst=some d)(aw:d<C.N)(bq:a.defers=[])(h:Qv C ρ fr hp a.tmps w)
  (hu:C.P.underlying t=some (.slice e)) (hz:l9 C.P e=some (n,by_,z)) (hl:Qn C ρ hp w pl (a.eval l)) (hc:Qn C ρ hp w pc (a.eval c)) (hv:qe n by_ e z pl pc d fr hp K):o.wp C.P a w (dw C true w K) Q:=by
 unfold qe at hv;split at hv
 ·rename_i kl L kc Cc;obtain⟨h0,h1,h2,h3,h4,h5,hK⟩:=hv;obtain⟨ti,zv,i1,i2,i3,i4,i5⟩:=uV hz;have el:=hl.mF;have ec:=hc.mF;have gd:=(uN (w:=w) (X:=aK C ρ hp) i5).cells;have v5:zv.cells.size=n:=by rw[gd.1];exact h1
  have cH:=run_make (P:=C.P) w t e ti zv hu i1 i2 kl kc L Cc h2 h3 (by rw[i4];exact h4) h5;rw[i3]at cH;obtain⟨hs,he⟩:=h.Ja d (Ad aw) ⟨n,e,List.replicate L.toNat z,false⟩ (madeCells zv.cells (Cc.toNat*n)) Cc.toNat _ (.inl rfl) (size_madeCells _ _) (by simp;omega) (by rw[qo];omega) h0
   (fun i x hx=>by have bk:=Kai hx;obtain rfl:=(Kc9.1 bk).2;exact⟨h1,(KH i5).1⟩)
   (fun i x hx j y hy=>by
    have hi:i<L.toNat:=by have:=(Kaf.1 hx).1;simpa using this
    obtain rfl:=(Kc9.1 (Kai hx)).2;have hj:j<n:=by have:=(Kaf.1 hy).1;omega
    have zA:i*n+0+j<Cc.toNat*n:=qx (by omega) (by omega:0+n<=n) hj;rw[Q08 (by omega) (by omega),v5,P0 hj];exact gd.2 j y hy)
  refine lZ (v:=.slice (some ⟨w.heap.size,0,none⟩) L.toNat Cc.toNat) ?_ (dw.ob hd aw bq hs (fun _=>he) (TW (by simp) (qj w _) (size_madeCells _ _) (by rw[qo];omega)) hK);unfold execOp;simp only[ho,el,ec,Kar,cH,Kan];rfl
 ·exact hv.elim
end Go.FW
namespace Go.FW
open Go
variable {C : Ctx} {ρ : Nat -> Option Nat} {fr : Fr} {hp : HP} {w : World} {a : Act} {K : Qh}
theorem VN(n:Nat):∀(xs:List (List PV))(s:Nat)(pre rest:List PV),(∀x∈xs,x.length=n)->pre.length=s*n->rest.length=xs.length*n->
  jN (pre++rest) ((xs.zipIdx s).map fun p=>(p.2*n,p.1))=pre++xs.flatten
 | [],s,pre,rest,_,_,hr=>by simp at hr;subst hr;simp[jN]
 | x::xs,s,pre,rest,hx,hp,hr=>by
  have vZ:=hx x (by simp);simp only[List.zipIdx_cons,Kba,jN];have e1:(pre++rest).take (s*n)=pre:=by rw[<-hp];exact List.take_left
  have e2:(pre++rest).drop (s*n+x.length)=rest.drop n:=by rw[vZ,<-hp,<-List.drop_drop,List.drop_left]
  rw[e1,e2];have hlen:(pre++x).length=(s+1)*n:=by simp[hp,vZ,KaK]
  have zK:(rest.drop n).length=xs.length*n:=by simp[hr,KaK]
  rw[VN n xs (s+1) (pre++x) (rest.drop n) (fun y hy=>hx y (by simp[hy])) hlen zK];simp
theorem AD{n:Nat}(hn:0<n):∀(xs:List (List PV))(i j:Nat)(x:List PV)(y:PV),(∀x∈xs,x.length=n)->xs[i]? =some x->x[j]? =some y->xs.flatten[i*n+j]? =some y
 | [],i,j,x,y,_,h,_=>by simp at h
 |z::xs,0,j,x,y,hl,h,hy=>by simp at h;subst h;have hj:j<z.length:=(Kaf.1 hy).1;simp only[List.flatten_cons,KcM,Kbh];rw[KbD hj];exact hy
 |z::xs,i+1,j,x,y,hl,h,hy=>by simp at h;have hz:=hl z (by simp);simp only[List.flatten_cons];rw[KbX (by rw[hz,KaK];omega)];rw[show(i+1)*n+j-z.length=i*n+j by rw[hz,KaK];omega];exact AD hn xs i j x y (fun q hq=>hl q (by simp[hq])) h hy
theorem Q40{parts:List (Nat×Operand)}{len i:Nat}{p:Nat×Operand}(h:parts.map (·.1)=List.range len)(hp:parts[i]? =some p):p.1=i:=by
 have h1:(parts.map (·.1))[i]? =some p.1:=by simp[hp]
 rw[h]at h1;have hi:i<len:=by have:=(Kaf.1 h1).1;simpa using this
 rw[Kb8 hi]at h1;simp at h1;exact h1.symm
theorem ad7{X:Nat->Prop}{e:TypeId}{n N by_:Nat}{z:PV}{zv:Value}(i5:uU zv=some z)(hz:z.cells.length=n)(hn:0<n):
  Rows w X ((List.range N).map fun k=>z.cells.getD (k%n) .undef) ((Array.range N).map (zv.cells[· %zv.cells.size]!)):=by
 have gd:=(uN (w:=w) (X:=X) i5).cells;refine⟨by simp,fun i x hx=>?_⟩;have hi:i<N:=by have:=(Kaf.1 hx).1;simpa using this
 simp only[Kas,Kb8 hi,Kci,KaH]at hx;have hm:i%n<z.cells.length:=by rw[hz];exact Kbx _ hn
 have bk:z.cells[i%n]? =some x:=by rw[<-hx];simp[hm]
 have:=gd.2 _ x bk;have hs:zv.cells.size=n:=by rw[gd.1];exact hz
 have nf:i%n<zv.cells.size:=by omega
 have e2:((Array.range N).map (zv.cells[· %zv.cells.size]!)).getD i undef=zv.cells.getD (i%n) undef:=by have hmn:i%n<n:=Kbx _ hn;simp[Array.getD,hi,hs,hmn,getElem!_def,KbC nf]
 rw[e2];exact this
theorem afV{o:Oper}{t e:TypeId}{len n by_:Nat}{z:PV}{parts:Array (Nat×Operand)}{ps:List aX}{d:Nat}{Q:Exit->Act->World->Prop}(ho:o.op= .buildSlice t len parts)(hd:o.dst=some d)(aw:d<C.N)(bq:a.defers=[])(h:Qv C ρ fr hp a.tmps w)
  (hu:C.P.underlying t=some (.slice e)) (hz:l9 C.P e=some (n,by_,z)) (vU:parts.toList.map (·.1)=List.range len) (Zt:len*n<=16777216) (mD:z.cells.length=n) (eF:(parts.toList.mapM fun p=>cx p.2)=some ps)
  (hv:DU n e (ps.map (ev fr)) d fr hp K):o.wp C.P a w (dw C true w K) Q:=by
 obtain⟨h0,bR,hK⟩:=hv;obtain⟨ti,zv,i1,i2,i3,i4,i5⟩:=uV hz;obtain⟨m1,m2⟩:=oZ eF;have hlen:parts.toList.length=len:=by have:=congrArg List.length vU;simpa using this
 have aV:ps.length=len:=by omega
 let xs:List (List PV):=(ps.map (ev fr)).map fun p=>(aU hp p).cells
 have ee:∀x∈xs,x.length=n:=by intro x hx;simp only[xs,Kaq]at hx;obtain⟨p,⟨q,hq,rfl⟩,rfl⟩:=hx;exact(bR _ (Kaq.2 ⟨q,hq,rfl⟩)).2
 have N4:xs.length=len:=by simp[xs,aV]
 have iX:(parts.map fun(x:Nat×Operand)=>(x.1,a.eval x.2)).toList=parts.toList.map fun x=>(x.1,a.eval x.2):=by simp
 have Xv:Rows w (aK C ρ (bW hp ((ps.map (ev fr)).flatMap PV.refs))) ((List.range (len*n)).map fun k=>z.cells.getD (k%n) .undef) ((Array.range (len*n)).map ((if len*n=0 then(#[]:Array Value)else zv.cells)[· %(if len*n=0 then(#[]:Array Value)else zv.cells).size]!)):=by
  by_cases th:len*n=0
  ·rw[if_pos th,th];exact⟨by simp,by simp⟩
  ·rw[if_neg th];exact ad7 (e:=e) (by_:=by_) i5 mD h0
 obtain⟨fC,g1,g2⟩:=GA (fun i=>some (i*n,n)) (parts.toList.map fun x=>(x.1,a.eval x.2)) ((xs.zipIdx 0).map fun p=>(p.2*n,p.1)) _ _ Xv (by simp[N4,hlen]) (fun i p q pV xM=>by
  simp only[Kas,Kaa]at pV xM;obtain⟨x,hx,rfl⟩:=pV;obtain⟨q0,gO,rfl⟩:=xM;rw[List.getElem?_zipIdx]at gO;simp only[Kaa]at gO;obtain⟨y,hy,rfl⟩:=gO;simp only[Kbh];have ZJ:=ee y (Kai hy);simp only[xs,Kas,Kaa]at hy;obtain⟨pv,⟨u,mC,rfl⟩,rfl⟩:=hy;obtain⟨x',bk,Ny⟩:=m2 i u mC;rw[hx]at bk;cases bk;have hi:i<len:=by have:=(Kaf.1 hx).1;omega
  obtain⟨o1,o2⟩:=bR (ev fr u) (Kaq.2 ⟨u,Kai mC,rfl⟩);refine⟨by rw[Q40 vU hx,ZJ],(tH h (cR h Ny) (fun β ae=>Kat.2 ⟨_,Kaq.2 ⟨u,Kai mC,rfl⟩,ae⟩) o1).rows,?_⟩;rw[ZJ];simp;have:(i+1)*n<=len*n:=Kaj n hi;rw[KaK]at this;omega)
 have Nk:=VN n xs 0 [] ((List.range (len*n)).map fun k=>z.cells.getD (k%n) .undef) ee (by simp) (by simp[N4]);simp only[KaO]at Nk;rw[Nk]at g2;have nR:xs.flatten.length=len*n:=by
  have:=g2.1;have hb:=Xv.1;have h2:jN ((List.range (len*n)).map fun k=>z.cells.getD (k%n) .undef) ((xs.zipIdx 0).map fun p=>(p.2*n,p.1))=xs.flatten:=Nk;rw[List.length_flatten];have:xs.map List.length=List.replicate xs.length n:=by apply Ka7 (by simp);intro i h1 h2;simp only[Ka8,List.getElem_replicate];exact ee _ (Kah _)
  rw[this,List.sum_replicate_nat,N4]
 have kd:fC.size=len*n:=by rw[g2.1,nR]
 obtain⟨hs,he⟩:=(h.freeze ((ps.map (ev fr)).flatMap PV.refs)).Ja d (Ad aw) ⟨n,e,(ps.map (ev fr)).map (aU hp),false⟩ fC len _ (.inl rfl) kd (by simp[aV]) (by rw[qo];have:len*1<=len*n:=KaE len h0;omega) h0
  (fun i x hx=>by simp only[Kas,Kaa]at hx;obtain⟨p,⟨u,mC,rfl⟩,rfl⟩:=hx;obtain⟨o1,o2⟩:=bR (ev fr u) (Kaq.2 ⟨u,Kai mC,rfl⟩);exact⟨o2,o1⟩)
  (fun i x hx j y hy=>by refine g2.2 _ y (AD h0 xs i j x.cells y ee ?_ hy);simp only[Kas,Kaa,xs]at hx⊢;obtain⟨p,jn,rfl⟩:=hx;exact⟨p,jn,rfl⟩)
 refine lZ (v:=.slice (some ⟨w.heap.size,0,none⟩) len len) ?_ (dw.ob hd aw bq hs (fun _=>he) ?_ hK)
 ·unfold execOp;have kD:¬(len*n>2^24):=by omega
  have zG:(parts.map fun x=>match x with|(i,x)=>(i,a.eval x)).toList=parts.toList.map fun x=>(x.1,a.eval x.2):=iX;simp only[ho,Instr.buildSlice,Kar,jJ hu,Kan,nt (show fa C.P e=some n by simp[fa,i1,i3]),if_neg kD,zG];by_cases th:len*n=0
  ·simp only[if_pos th]at g1⊢;simp only[Ka3,Kan,Kar,g1,newRow];simp
  ·simp only[if_neg th]at g1⊢;simp only[Ka3,Kan,Kar,yd i1 i2,g1,newRow];simp
 ·rw[show(ps.map (ev fr)).length=len by simp[aV]];exact TW (by simp[aV]) (qj w _) kd (by rw[qo];have:len*1<=len*n:=KaE len h0;omega)
theorem Cs(w:World)(b:Nat)(cur:Array Value):Ext (fun c=>c=b) w (w.setRow b cur):=
 ⟨rfl,rfl,rfl,by simp,fun k hk hn=>setRow_other w b k _ hn⟩
theorem Cl{cur:Array Value}{p:Nat}{cs:List Value}{k:Nat}(hle:p+cs.length<=cur.size)(hk:k<cur.size):
  ((cur.toList.take p++cs++cur.toList.drop (p+cs.length)).toArray).getD k undef=if p<=k/\k<p+cs.length then cs.getD (k-p) undef else cur.getD k undef:=by
 have bI:k<cur.toList.length:=by simpa using hk
 have ht:(cur.toList.take p).length=p:=by simp;omega
 simp only[KaX,List.getElem?_toArray,Kbt,Kad];rw[Ka2,ht];by_cases c1:k<p
 ·rw[if_pos c1,if_neg (by omega),KaN c1];simp
 ·rw[if_neg c1,Ka2];by_cases c2:k-p<cs.length
  ·rw[if_pos c2,if_pos (by omega)]
  ·rw[if_neg c2,if_neg (by omega),Kbe];rw[show p+cs.length+(k-p-cs.length)=k by omega];simp
theorem Cn{cur:Array Value}{p:Nat}{cs:List Value}(hle:p+cs.length<=cur.size):((cur.toList.take p++cs++cur.toList.drop (p+cs.length)).toArray).size=cur.size:=by simp;omega
theorem UC{P:Program}{t:TypeId}{n b off:Nat}{ty:TypeId}{v:Value}{cur:Array Value}(hn:fa P t=some n)(hs:v.cells.size=n)(hg:w.heap[b]? =some (.cells cur ty (0,0)))(hle:off+n<=cur.size)(h1:∀u∈v.cells.toList,u.oneCell'=true):
  (storeVar t ⟨b,off,none⟩ v).run P w= .ok () (w.setRow b (cur.toList.take off++v.cells.toList++cur.toList.drop (off+n)).toArray):=by
 unfold storeVar;have bc:=run_storeCells_at P b off ty v.cells.toList 0 cur w hg (by simp[hs];omega) h1;simp only[KaY,Array.length_toList,hs]at bc;have aJ:¬(v.cells.size≠n):=by simp[hs]
 simp only[Kar,nt hn,Kan,if_neg aJ];exact bc
theorem afW{x:PV}{o:Nat}{v:PV}{j:Nat}(hl:o+v.cells.length<=x.cells.length)(hj:j<x.cells.length):
  (uI x o v).cells[j]? =if o<=j/\j<o+v.cells.length then v.cells[j-o]? else x.cells[j]? :=by
 show(x.cells.take o++v.cells++x.cells.drop (o+v.cells.length))[j]? =_;rw[Kbt];have ht:(x.cells.take o).length=o:=by simp;omega
 rw[Ka2,ht];by_cases c1:j<o
 ·rw[if_pos c1,if_neg (by omega),KaN c1]
 ·rw[if_neg c1,Ka2];by_cases c2:j-o<v.cells.length
  ·rw[if_pos c2,if_pos (by omega)]
  ·rw[if_neg c2,if_neg (by omega),Kbe];rw[show o+v.cells.length+(j-o-v.cells.length)=j by omega]
theorem al6{x:PV}{o:Nat}{v:PV}(hl:o+v.cells.length<=x.cells.length):(uI x o v).cells.length=x.cells.length:=by show(List.take o x.cells++v.cells++List.drop (o+v.cells.length) x.cells).length=_;simp;omega
theorem P3{e i j m k n:Nat}(hj:j<e)(hk:k+n<=e)(aJ:i≠m):¬(m*e+k<=i*e+j/\i*e+j<m*e+k+n):=by
 intro⟨h1,h2⟩;rcases Nat.lt_or_gt_of_ne aJ with h|h
 ·have:(i+1)*e<=m*e:=Kaj e h;rw[KaK]at this;omega
 ·have:(m+1)*e<=i*e:=Kaj e h;rw[KaK]at this;omega
theorem Dl{l:List PV}{i k:Nat}{nx x:PV}(h:(l.set i nx)[k]? =some x):(i=k/\x=nx)∨(i≠k/\l[k]? =some x):=by
 by_cases IF:i=k
 ·subst IF;have hi:i<l.length:=by have:=(Kaf.1 h).1;simpa using this
  rw[List.getElem?_set_self hi]at h;cases h;exact .inl ⟨rfl,rfl⟩
 ·rw[Kc3 IF]at h;exact .inr ⟨IF,h⟩
theorem df.aS{p:PV}{v:Value}(h:df C ρ hp w p v):p.aS=[p]:=by
 cases p with
 |agg=>cases h
 |bo=>cases h
 |_=>rfl
theorem VO{l:List PV}(h:∀c∈l,c.aS=[c]):(fo l).aS=l:=by
 unfold fo;split
 ·exact h _ (by simp)
 ·exact Q9i _
theorem R7{py:PV}{v:Value}{cs:List PV}(h:Qn C ρ hp w py v)(hs:fU py=some cs):v.cells.size=cs.length/\(∀(j:Nat)(y:PV),cs[j]? =some y->df C ρ hp w y (v.cells.getD j undef))/\∀u∈v.cells.toList,u.oneCell'=true:=by
 have one:∀ {p:PV},df C ρ hp w p v->p≠ .undef->cs=[p]->v.cells.size=cs.length/\(∀(j:Nat)(y:PV),cs[j]? =some y->df C ρ hp w y (v.cells.getD j undef))/\∀u∈v.cells.toList,u.oneCell'=true:=by
  rintro p hr hu rfl;obtain⟨h1,h2⟩:=hr.uH hu;rw[h2];refine⟨rfl,fun j y hy=>?_,fun u mC=>?_⟩
  ·match j,hy with
   |0,hy=>simp at hy;subst hy;exact hr
   |j+1,hy=>simp at hy
  ·simp at mC;subst mC;exact h1
 cases py with
 | bo cs'=>
  simp only[fU]at hs;split at hs
  ·rename_i cU;simp only[KaH]at hs;subst hs;obtain⟨vs,rfl,h1,h2⟩:=h;refine⟨h1,h2,fun u hu=>?_⟩;obtain⟨j,hj,rfl⟩:=KaV hu;have et:j<vs.size:=by simpa[Value.cells]using hj
   have hp:j<cs'.length:=by omega
   have h3:=h2 j cs'[j] (Kag hp);have h4:=Kax.1 cU cs'[j] (Kah hp);have:=(h3.uH (fun e=>by rw[e]at h4;cases h4)).1;simpa[Array.getD,et,Value.cells]using this
  ·cases hs
 |aI γ o n=>simp only[fU,KaH]at hs;exact one (p:=.aI γ o n) h (by simp) hs.symm
 |aB β o n=>
  simp only[fU]at hs;split at hs
  ·rename_i hB;simp only[KaH]at hs;exact one (p:=.aB β o n) ⟨hB,h⟩ (by simp) hs.symm
  ·cases hs
 |int k n=>simp only[fU,KaH]at hs;exact one (p:=.int k n) h (by simp) hs.symm
 |bool b=>simp only[fU,KaH]at hs;exact one (p:=.bool b) h (by simp) hs.symm
 |au=>simp only[fU,KaH]at hs;exact one (p:=.au) h (by simp) hs.symm
 |sl e xs=>simp only[fU,KaH]at hs;exact one (p:=.sl e xs) h (by simp) hs.symm
 |pt cs'=>simp only[fU,KaH]at hs;exact one (p:=.pt cs') h (by simp) hs.symm
 |agg cs'=>simp only[fU,KaH]at hs;subst hs;have hr:bT w (aK C ρ hp) (.agg cs') v:=h;obtain⟨h1,h2⟩:=hr.cells;exact⟨h1,fun j y hy=>df.ZW (h2 j y hy),hr.ZZ⟩
 |_=>cases hs
theorem Qv.ZS{tmps:Array Value}{w':World}(h:Qv C ρ fr hp tmps w){γ b e ty:Nat}{hb:HB}{xs':List PV}{cur':Array Value}{cap:Nat}(hB:bJ γ=true)(he:0<e)(aj:hp γ=some hb)(na:hb.fz=false)(bG:hb.xs=[])(xC:hb.e=e)(ht:hb.ty=ty)(bK:ρ γ=some b)
  (hx:Ext (fun c=>c=b) w w') (eD:∀e cap,dH w b e cap->dH w' b e cap) (h1:w'.heap[b]? =some (.cells cur' ty (0,0))) (h2:cur'.size=cap*e) (h3:xs'.length<=cap) (h4:cap<=maxLen)
  (h5:∀(i:Nat)(x:PV),xs'[i]? =some x->x.aS.length=e) (h6:∀(i:Nat)(x:PV),xs'[i]? =some x->∀(j:Nat)(y:PV),x.aS[j]? =some y->df C ρ hp w y (cur'.getD (i*e+j) undef)):
  Qv C ρ (FW.af (iP γ fr) γ (.aC γ e ty xs')) hp tmps w':=by
 have M0:aK C ρ hp b:=.inr ⟨γ,hb,aj,na,bK⟩;have zF:eH γ=false:=by
  cases hq:eH γ with
  |false=>rfl
  |true=>have:=(h.own γ hb aj).ro hq;rw[na]at this;cases this
 have dA:nB w w' (aK C ρ hp) (aK C ρ hp):=⟨fun c hc hn=>hx.block c hc (fun e=>hn (e▸M0)),fun _ _ hn=>hn,hx.size⟩
 have bE:=(h.own γ hb aj).dd;rw[bK]at bE;have lM:Ext C.Y0 C.w0 w':=by refine h.ext.trans' (Y':=fun c=>c=b) hx ?_;intro c hc he;subst he;exact(Ctx.H5 bE.1 zF).resolve_left (by omega)
 have EM:∀β c,C.fx β=some c->∀e cap,dH C.w0 c e cap->dH w' c e cap:=fun b0 c dA e cap jk=>by
  have lH:=h.fT b0 c dA e cap jk;by_cases kB:c=b
  ·rw[kB]at lH ⊢;exact eD e cap lH
  ·exact oh (hx.block c (oo lH) kB) lH
 have ra:∀β hg c,β≠γ->hp β=some hg->ρ β=some c->¬c=b:=fun β hg c aJ iZ hr e=>aJ (h.inj β γ b (by simp[iZ]) (by simp[aj]) (e▸hr) bK);have c0:∀β,vl ρ ρ hp hp w w' β:=fun β=>⟨rfl,fun hg iZ=>⟨hg,iZ,rfl,Kae _,fun c cap hr jk=>by
  by_cases aJ:β=γ
  ·subst aJ;rw[bK]at hr;cases hr;exact eD _ _ jk
  ·exact oh (hx.block c (oo jk) (ra β hg c aJ iZ hr)) jk⟩⟩
 refine⟨h.sz,lM,EM,fun β hg ae=>?_,h.inj,fun i=>?_⟩
 ·obtain⟨p1,p2,p3,p4,p5⟩:=h.own β hg ae;refine⟨p1,p2,?_,p4,p5⟩;by_cases aJ:β=γ
  ·subst aJ;rw[aj]at ae;cases ae;rw[bK]at p3⊢;exact⟨p3.1,Kby p3.2.1 hx.size,cur',cap,by rw[h1,ht],by rw[xC];exact h2,by rw[bG];simp,h4,by rw[bG];simp⟩
  ·cases hr:ρ β with
   |none=>rw[hr]at p3;exact p3
   |some c=>rw[hr]at p3;exact⟨p3.1,Kby p3.2.1 hx.size,p3.2.2.move (hx.block c p3.2.1 (ra β hg c aJ ae hr)) rfl rfl rfl dA.rc⟩
 ·unfold FW.af;split
  ·exact⟨hB,he,b,hb,cur',cap,bK,aj,bG,xC,ht,h1,h2,h3,h4,h5,fun i x hi j y hy=>(h6 i x hi j y hy).move dA (fun β _=>c0 β)⟩
  ·have bb:=h.cN i;unfold iP;generalize fr i=p at bb;have mv:(∀bu e ty xs,p= .aC bu e ty xs->bu≠γ)->Qn C ρ hp w' p (tmps.getD i undef):=fun hq=>
    bb.move dA (fun β _=>⟨(c0 β).r,(c0 β).h⟩) (fun β _=>c0 β) (fun bu e ty xs e1=>⟨rfl,fun hg iZ=>by have aJ:=hq bu e ty xs e1;refine⟨hg,iZ,rfl,Kae _,fun c cap hr jk=>oh (hx.block c (oo jk) (ra bu hg c aJ iZ hr)) jk,fun he=>⟨he,rfl,fun c hr=>hx.block c ?_ (ra bu hg c aJ iZ hr)⟩⟩;have:=(h.own bu hg iZ).dd;rw[hr]at this;exact this.2.1⟩)
   cases p with
   |aC bu e' ty' xs=>
    simp only[gE];split
    ·trivial
    ·rename_i aJ;exact mv (fun _ _ _ _ e1=>by cases e1;exact aJ)
   |_=>exact mv (fun _ _ _ _ e1=>by cases e1)
theorem P4{l cs:List PV}{o j:Nat}(hl:o+cs.length<=l.length)(hj:j<l.length):(qC l o cs)[j]? =if o<=j/\j<o+cs.length then cs[j-o]? else l[j]? :=by
 unfold qC;rw[Kbt];have ht:(l.take o).length=o:=by simp;omega
 rw[Ka2,ht];by_cases c1:j<o
 ·rw[if_pos c1,if_neg (by omega),KaN c1]
 ·rw[if_neg c1,Ka2];by_cases c2:j-o<cs.length
  ·rw[if_pos c2,if_pos (by omega)]
  ·rw[if_neg c2,if_neg (by omega),Kbe];rw[show o+cs.length+(j-o-cs.length)=j by omega]
theorem L9{l cs:List PV}{o:Nat}(hl:o+cs.length<=l.length):(qC l o cs).length=l.length:=by unfold qC;simp;omega
theorem afX {o:Oper} {t:TypeId} {n:Nat} {x y:Operand} {px py:PV} {Q:Exit->Act->World->Prop} (ho:o.op= .store t x y) (hd:o.dst=none) (bq:a.defers=[]) (h:Qv C ρ fr hp a.tmps w)
  (hn:fa C.P t=some n) (hx:Qn C ρ hp w px (a.eval x)) (hy:Qn C ρ hp w py (a.eval y)) (hv:qf n px py fr hp K):o.wp C.P a w (dw C false w K) Q:=by
 unfold qf at hv;split at hv
 ·rename_i β i o';split at hv
  ·rename_i hb ae;obtain⟨h1,h2,h3,h4,h5,hK⟩:=hv;obtain⟨b,hb0,g1,g2,ex⟩:=hx.B3;obtain⟨hb1,g3,e1,e2,e3,e4,_⟩:=Gm (l:=py.refs) g2;rw[ae]at g3;cases g3;have zj:=e4 h1;subst zj;have hf:=h.freeze py.refs;have hr:=tH h hy (fun β ae=>ae) h2;have zR:=hr.cells;have bE:=hf.own β hb ae;have bl:=bE.dd;rw[g1]at bl;obtain⟨b1,b2,cur,cap,c1,c2,c3,c4,c5⟩:=bl;have gR:=Kag h4;have kV:=(bE.len i _ gR).1;have kd:(a.eval y).cells.size=n:=by rw[zR.1,h3]
   have tf:i*hb.e+o'+n<=cur.size:=by rw[c2];have:(i+1)*hb.e<=cap*hb.e:=Kaj _ (by omega);rw[KaK]at this;omega
   have cH:=UC (P:=C.P) (w:=w) (off:=i*hb.e+o') hn kd c1 tf hr.ZZ;have iH:(a.eval y).cells.toList.length=n:=by simp[kd]
   have eZ:∀k,k<cur.size->((cur.toList.take (i*hb.e+o')++(a.eval y).cells.toList++cur.toList.drop (i*hb.e+o'+n)).toArray).getD k undef=if i*hb.e+o'<=k/\k<i*hb.e+o'+n then(a.eval y).cells.getD (k-(i*hb.e+o')) undef else cur.getD k undef:=by intro k hk;have:=Cl (cur:=cur) (p:=i*hb.e+o') (cs:=(a.eval y).cells.toList) (k:=k) (by omega) hk;rw[iH]at this;rw[this];simp[KaX,Kad]
   have je:((cur.toList.take (i*hb.e+o')++(a.eval y).cells.toList++cur.toList.drop (i*hb.e+o'+n)).toArray).size=cur.size:=by
    have:=Cn (cur:=cur) (p:=i*hb.e+o') (cs:=(a.eval y).cells.toList) (by omega)
    rwa[iH]at this
   have pS:(if n=hb.e then aU hp py else uI (hb.xs[i]'h4) o' (aU hp py)).cells.length=hb.e/\(if n=hb.e then aU hp py else uI (hb.xs[i]'h4) o' (aU hp py)).aN=true:=by
    by_cases hc:n=hb.e
    ·rw[if_pos hc];exact⟨by omega,h2⟩
    ·rw[if_neg hc];exact⟨by rw[al6 (by omega)];exact kV,rfl⟩
   obtain⟨nx,gB⟩:∃nx,nx=(if n=hb.e then aU hp py else uI (hb.xs[i]'h4) o' (aU hp py)):=⟨_,rfl⟩
   rw[<-gB]at hK pS;have bc:=hf.store β b hb { hb with xs:=hb.xs.set i nx } ae h1 (by intro e;rw[e]at h4;simp at h4) g1 (Cs w b _) rfl (by simp) h1
    (fun k x hk=>by
     rcases Dl hk with⟨_,rfl⟩|⟨_,hk⟩
     ·exact pS
     ·exact bE.len k x hk)
    (fun e' eW eD=>by obtain⟨cur',ty',d1,d2⟩:=eD;rw[c1]at d1;cases d1;exact⟨_,_,setRow_heap w b cur _ hb.ty _ c1,by rw[je];exact d2⟩)
    ⟨_, cap,setRow_heap w b cur _ hb.ty _ c1,by rw[je];exact c2,by simpa using c3,c4,fun k x hk j z hz=>by
     have xF:k<hb.xs.length:=by have:=(Kaf.1 hk).1;simpa using this
     have ee:x.cells.length=hb.e:=by
      rcases Dl hk with⟨_,rfl⟩|⟨_,hk⟩
      ·exact pS.1
      ·exact(bE.len k x hk).1
     have hj:j<hb.e:=by have:=(Kaf.1 hz).1;omega
     have aw:k*hb.e+0+j<cap*hb.e:=qx (by omega) (by omega:0+hb.e<=hb.e) hj;show Qu w _ z (Array.getD _ (k*hb.e+j) undef);rw[eZ _ (by omega)];rcases Dl hk with⟨zu,vZ⟩|⟨zu,hk⟩
     ·subst zu;subst vZ;by_cases hc:n=hb.e
      ·rw[gB,if_pos hc]at hz;have qV:o'=0:=by omega
       subst qV;rw[if_pos (by omega)];rw[show i*hb.e+j-(i*hb.e+0)=j by omega];exact zR.2 j z hz
      ·rw[gB,if_neg hc]at hz;rw[afW (by omega) (by omega),h3]at hz;by_cases XQ:o'<=j/\j<o'+n
       ·rw[if_pos XQ]at hz;rw[if_pos (by omega)];rw[show i*hb.e+j-(i*hb.e+o')=j-o' by omega];exact zR.2 _ z hz
       ·rw[if_neg XQ]at hz;rw[if_neg (by omega)];exact c5 i _ gR j z hz
     ·rw[if_neg (P3 hj (by omega) (fun e=>zu e.symm))];exact c5 k x hk j z hz⟩
   unfold Oper.wp;have hex:(execOp a.eval o).run C.P w= .ok .skip (w.setRow b (cur.toList.take (i*hb.e+o')++(a.eval y).cells.toList++cur.toList.drop (i*hb.e+o'+n)).toArray):=by unfold execOp;simp only[ho,ex,Kar,Instr.storeAt,Instr.sureAddr,Ka3,Kan,cH]
   rw[hex];refine⟨by rw[yh];exact bq,⟨fr,_,⟨ρ,?_⟩,hK⟩,by simp⟩;rw[hd];exact bc
  ·exact hv.elim
 ·rename_i γ i o';split at hv
  ·rename_i bu e ty xs aj;obtain⟨rfl,⟨hb,k1,k2⟩,h1,h2,hv⟩:=hv;split at hv
   ·rename_i cs lK;obtain⟨h3,hK⟩:=hv;obtain⟨r1,r2,r3⟩:=R7 hy lK;obtain⟨hB,b,ax,g1,g2,ex⟩:=hx.Oc;rw[k1]at g2;cases g2;have bb:=h.cN bu;rw[aj]at bb;obtain⟨_,BC,b',ax,cur,cap,q1,q2,q3,q4,q5,q6,q7,q8,q9,Fx,z8⟩:=bb;rw[g1]at q1;cases q1;rw[k1]at q2;cases q2;rw[q4]at ex;have gR:=Kag h1;have kV:=Fx i _ gR;have kd:(a.eval y).cells.size=n:=by rw[r1,h3]
    have tf:i*e+o'+n<=cur.size:=by rw[q7];have:(i+1)*e<=cap*e:=Kaj _ (by omega);rw[KaK]at this;omega
    have cH:=UC (P:=C.P) (w:=w) (off:=i*e+o') hn kd q6 tf r3;have iH:(a.eval y).cells.toList.length=n:=by simp[kd]
    have eZ:∀k,k<cur.size->((cur.toList.take (i*e+o')++(a.eval y).cells.toList++cur.toList.drop (i*e+o'+n)).toArray).getD k undef=if i*e+o'<=k/\k<i*e+o'+n then(a.eval y).cells.getD (k-(i*e+o')) undef else cur.getD k undef:=by intro k hk;have:=Cl (cur:=cur) (p:=i*e+o') (cs:=(a.eval y).cells.toList) (k:=k) (by omega) hk;rw[iH]at this;rw[this];simp[KaX,Kad]
    have je:((cur.toList.take (i*e+o')++(a.eval y).cells.toList++cur.toList.drop (i*e+o'+n)).toArray).size=cur.size:=by
     have:=Cn (cur:=cur) (p:=i*e+o') (cs:=(a.eval y).cells.toList) (by omega)
     rwa[iH]at this
    generalize(cur.toList.take (i*e+o')++(a.eval y).cells.toList++cur.toList.drop (i*e+o'+n)).toArray=W at cH eZ je;have Fb:o'+cs.length<=(xs[i]).aS.length:=by rw[kV,h3];exact h2
    have qQ:∀c∈qC (xs[i]).aS o' cs,c.aS=[c]:=by
     intro c hc;obtain⟨j,hj⟩:=KaM hc;have tg:j<(xs[i]).aS.length:=by have:=(Kaf.1 hj).1;rwa[L9 Fb]at this
     rw[P4 Fb tg]at hj;split at hj
     ·exact(r2 _ c hj).aS
     ·exact(z8 i _ gR j c hj).aS
    have jl:=VO qQ;have bc:=h.ZS (w':=w.setRow b W) (xs':=xs.set i (fo (qC (xs[i]).aS o' cs))) (cur':=W) (cap:=cap) hB BC k1 k2 q3 q4 q5 g1 (Cs w b W)
     (fun e2 DV EA=>by obtain⟨avq,ty2,d1,d2⟩:=EA;rw[q6]at d1;cases d1;exact⟨_,_,setRow_heap w b cur _ ty _ q6,by rw[je];exact d2⟩)
     (setRow_heap w b cur W ty _ q6) (by rw[je];exact q7) (by simpa using q8) q9
     (fun k x hk=>by
      rcases Dl hk with⟨_,rfl⟩|⟨_,hk⟩
      ·rw[jl,L9 Fb];exact kV
      ·exact Fx k x hk)
     (fun k x hk j y' n5=>by
      rcases Dl hk with⟨rfl,rfl⟩|⟨aJ,hk⟩
      ·rw[jl]at n5;have tg:j<(xs[i]).aS.length:=by have:=(Kaf.1 n5).1;rwa[L9 Fb]at this
       have uv:j<e:=by omega
       have zA:i*e+0+j<cap*e:=qx (n:=e) (by omega) (by omega) uv;rw[P4 Fb tg]at n5;rw[eZ _ (by omega)];split at n5
       ·rename_i hr;rw[if_pos (by omega),show i*e+j-(i*e+o')=j-o' by omega];exact r2 _ y' n5
       ·rename_i hr;rw[if_neg (by omega)];exact z8 i _ gR j y' n5
      ·have xF:k<xs.length:=(Kaf.1 hk).1;have uv:j<e:=by have:=(Kaf.1 n5).1;have:=Fx k x hk;omega
       have zA:k*e+0+j<cap*e:=qx (n:=e) (by omega) (by omega) uv;rw[eZ _ (by omega),if_neg (P3 uv h2 (fun e=>aJ e.symm))];exact z8 k x hk j y' n5)
    unfold Oper.wp;have hex:(execOp a.eval o).run C.P w= .ok .skip (w.setRow b W):=by unfold execOp;simp only[ho,ex,Kar,Instr.storeAt,Instr.sureAddr,Ka3,Kan,cH]
    rw[hex];refine⟨by rw[yh];exact bq,⟨_,hp,⟨ρ,?_⟩,hK⟩,by simp⟩;rw[hd];exact bc
   ·exact hv.elim
  ·exact hv.elim
 ·exact hv.elim
end Go.FW
namespace Go.FW
open Go
variable {C : Ctx} {ρ : Nat -> Option Nat} {fr : Fr} {hp : HP} {w : World} {a : Act} {K : Qh}
theorem Q56{X:Nat->Prop}{x:PV}{e:Nat}{f:Nat->Value}(he:x.cells.length=e)(h0:0<e)(hr:∀(j:Nat)(y:PV),x.cells[j]? =some y->Qu w X y (f j)):x.aN=true:=by
 by_cases ha:∃cs,x= .agg cs
 ·obtain⟨cs,rfl⟩:=ha;rfl
 ·have hc:x.cells=[x]:=by
   cases x with
   |agg cs=>exact absurd ⟨cs,rfl⟩ ha
   |_=>rfl
  have:=hr 0 x (by rw[hc];rfl);exact bT.data (bT.tB this)
theorem LK{e:Nat}{px:PV}{v:Value}{ys:List PV}{e':Nat}(h:Qv C ρ fr hp a.tmps w)(hx:Qn C ρ hp w px v)(hs:jx hp px=some (e',ys))(h0:0<e)(pL:e'=e∨ys=[]):
  ∃ad cap,v= .slice ad ys.length cap/\(ys≠[]->∃(b off:Nat)(f:Nat->Value),ad=some ⟨b,off,none⟩/\(∀k,k<ys.length*e->w.cell? ⟨b,off+k,none⟩=some (f k))/\
   ∀(i:Nat)(y:PV),ys[i]? =some y->y.cells.length=e/\y.aN=true/\∀(j:Nat)(z:PV),y.cells[j]? =some z->Qu w (aK C ρ hp) z (f (i*e+j))):=by
 cases px with
 |au=>simp[jx]at hs;obtain⟨rfl,rfl⟩:=hs;exact⟨none,0,hx.z7,fun hn=>absurd rfl hn⟩
 | sl e2 xs=>
  simp[jx]at hs;obtain⟨rfl,rfl⟩:=hs;have bk:Qu w (aK C ρ hp) (.sl e2 xs) v:=hx;cases bk with
  |oS _ ad cap hc=>exact⟨ad,cap,rfl,fun hn=>absurd rfl hn⟩
  | sl _ _ b off cap vs hX hb hl hc he hv hr=>
   refine⟨_,cap,rfl,fun hn=>?_⟩;obtain rfl:e2=e:=pL.resolve_right hn;refine⟨b,off,fun k=>vs (k/e2) (k%e2),rfl,fun k hk=>?_,fun i y hy=>?_⟩
   ·have h1:k/e2<xs.length:=(Kbi h0).2 hk;have h2:=Kbx k h0;have:=hv _ h1 _ h2;rw[Kco,KaP,Kbq]at this;exact this
   ·have kV:=he i y hy;refine⟨kV,Q56 kV h0 (hr i y hy),fun j z hz=>?_⟩;have hj:j<e2:=by have:=(Kaf.1 hz).1;omega
    show Qu w _ z (vs ((i*e2+j)/e2) ((i*e2+j)%e2));rw[afT hj,P0 hj];exact hr i y hy j z hz
 | aB β o n=>
  simp only[jx,Kaa,Prod.mk.injEq]at hs;obtain⟨hb,ae,xC,rfl⟩:=hs;obtain⟨hb2,g1,g2,g3⟩:=hx;rw[ae]at g1;cases g1;have hlen:((hb.xs.drop o).take n).length=n:=by simp;omega
  rcases g3 with⟨g3,rfl,rfl,rfl⟩|⟨b,cap,g3,rfl,g5,g6⟩
  ·exact⟨none,0,by simp,fun hn=>absurd (by simp) hn⟩
  ·refine⟨_,cap,by rw[hlen],fun hn=>?_⟩;have bE:=h.own β hb ae;have bl:=bE.dd;rw[g3]at bl;obtain⟨_,aw,cur,eW,c1,c2,c3,c4,c5⟩:=bl;have XC:hb.e=e:=by
    rcases pL with pL|pL
    ·omega
    ·exact absurd pL hn
   refine⟨b,o*hb.e,fun k=>cur.getD (o*hb.e+k) undef,rfl,fun k hk=>?_,fun i y hy=>?_⟩
   ·rw[hlen]at hk;have:(o+n)*e<=eW*e:=Kaj e (by omega);rw[KaK]at this;exact og c1 (by rw[c2,XC];omega)
   ·have hi:i<n:=by have:=(Kaf.1 hy).1;omega
    rw[KaN hi,Kbe]at hy;obtain⟨l1,l2⟩:=bE.len _ y hy;refine⟨by omega,l2,fun j z hz=>?_⟩;have:=c5 _ y hy j z hz;rw[KaK,Kco]at this
    rwa[XC]at this⊢
 |_=>simp[jx]at hs
theorem Ui{P:Program}{t ty e:TypeId}{i:TypeInfo}(ht:P.underlying t=some (.slice e))(hi:P.info? e=some i){base ad:Option Addr}{n cap c:Nat}(hle:n<=cap)(w:World):
  (Builtin.append_ #[t,t] ty #[.slice base n cap,.slice ad 0 c]).run P w= .ok (.slice base n cap) w:=by
 cases ad<;>cases base<;>simp[Builtin.append_,run_underlying ht,sizeOf,typeInfo,hi,Builtin.lenOf,Builtin.firstCells,hle,storeCells,loadCells,loadCellsFrom]
theorem wm{P:Program}{o:Oper}{s x:Operand}{t:TypeId}(ho:o.op= .call { callee:=.builtin .append,args:= #[s,x],argTypes:= #[t,t] }){vs vx v:Value}{w w':World}(es:a.eval s=vs)(ex:a.eval x=vx)
  (hr:(Builtin.append_ #[t,t] o.type #[vs,vx]).run P w= .ok v w'):(execOp a.eval o).run P w= .ok (.value v) w':=by
 unfold execOp;simp only[ho,resolve,Kar,Ka3,Kan,invoke,builtin];simp[es,ex,hr]
def gX(f:Nat->Value)(n:Nat):List Value:=(List.range n).map f
theorem Aj(f:Nat->Value)(n:Nat):(gX f n).length=n:=by simp[gX]
theorem Ct{f:Nat->Value}{n j:Nat}{u:Value}(h:(gX f n)[j]? =some u):j<n/\u=f j:=by
 have hj:j<n:=by have:=(Kaf.1 h).1;simpa[gX]using this
 simp only[gX,Kas,Kb8 hj,Kci,KaH]at h;exact⟨hj,h.symm⟩
theorem Gp{f:Nat->Value}{n j:Nat}(h:j<n):(gX f n).getD j undef=f j:=by simp[gX,Kad,h]
theorem yf(l:List Value)(k:Nat):l.toArray.getD k undef=l.getD k undef:=by simp[KaX,Kad]
theorem mK(xs ys:Array Value)(k:Nat):(xs++ys).getD k undef=if k<xs.size then xs.getD k undef else ys.getD (k-xs.size) undef:=by simp only[KaX,Array.getElem?_append];split<;>rfl
theorem yq{n m e i j:Nat}(h0:i<m)(hj:j<e):i*e+j<m*e/\(n+i)*e+j=n*e+(i*e+j):=by
 constructor
 ·have:(i+1)*e<=m*e:=Kaj e h0;rw[KaK]at this;omega
 ·rw[KaK];omega
theorem yl{β:Nat}{p:PV}{v:Value}(h:df C ρ hp w p v):df C ρ hp w (jv β p) v/\∀γ∈(jv β p).gU,γ≠β:=by
 cases p with
 | aB bA o n=>
  simp only[jv];split
  ·exact⟨trivial,fun γ aj=>by cases aj⟩
  ·rename_i aJ;exact⟨h,fun γ aj=>by simp[PV.gU]at aj;subst aj;exact aJ⟩
 | aI bu o n=>
  simp only[jv];split
  ·exact⟨trivial,fun γ aj=>by cases aj⟩
  ·rename_i aJ;exact⟨h,fun γ aj=>by simp[PV.gU]at aj;subst aj;exact aJ⟩
 |np=>cases h
 |_=>exact⟨h,fun γ aj=>by cases aj⟩
theorem uQ{l:List PV}{f:PV->PV}{i:Nat}{y:PV}(h:(l.map f)[i]? =some y):∃x,l[i]? =some x/\y=f x:=by simp only[Kas,Kaa]at h;obtain⟨x,h1,h2⟩:=h;exact⟨x,h1,h2.symm⟩
theorem CC{β:Nat}:Ac C ρ hp w β fr (fX β fr):=by
 intro i v h;unfold fX;generalize fr i=p at h;have kill:cV β p=cA β p->(∀γ∈p.aQ,γ≠β)->Qn C ρ hp w (cV β p) v/\(∀γ∈(cV β p).refs,γ≠β)/\∀γ∈(cV β p).aQ,γ≠β:=fun e hs=>by
  rw[e];refine⟨Qn.kill h,fun γ aj=>(VL γ aj).1,fun γ aj=>?_⟩;unfold cA at aj;split at aj
  ·cases aj
  ·exact hs γ aj
 cases p with
 | aC γ e ty xs=>
  simp only[cV];split
  ·exact⟨trivial,fun γ aj=>(by cases aj),fun γ aj=>by cases aj⟩
  ·rename_i aJ;obtain⟨h0,he,b,hb,cur,cap,h1,h2,h3,h4,h5,h6,h7,h8,h9,bp,bZ⟩:=h;have qQ:∀(i:Nat)(x:PV),xs[i]? =some x->(fo (x.aS.map (jv β))).aS=x.aS.map (jv β):=fun i x hi=>VO fun c hc=>by obtain⟨d,hd,rfl⟩:=Kaq.1 hc;obtain⟨j,hj⟩:=KaM hd;exact(yl (bZ i x hi j d hj)).1.aS
   refine⟨⟨h0,he,b,hb,cur,cap,h1,h2,h3,h4,h5,h6,h7,by simpa using h8,h9,fun i x hi=>?_,fun i x hi j y hy=>?_⟩,fun γ aj=>(by cases aj),fun bu aj=>?_⟩
   ·obtain⟨x0,bG,rfl⟩:=uQ hi;rw[qQ i x0 bG,Kal];exact bp i x0 bG
   ·obtain⟨x0,bG,rfl⟩:=uQ hi;rw[qQ i x0 bG]at hy;obtain⟨y0,du,rfl⟩:=uQ hy;exact(yl (bZ i x0 bG j y0 du)).1
   ·rcases KaG.1 aj with rfl|aj
    ·exact aJ
    ·obtain⟨x,hx,aj⟩:=Kat.1 aj;obtain⟨y,hy,aj⟩:=Kat.1 aj;obtain⟨i,hi⟩:=KaM hx;obtain⟨x0,bG,rfl⟩:=uQ hi;rw[qQ i x0 bG]at hy;obtain⟨j,hj⟩:=KaM hy;obtain⟨y0,du,rfl⟩:=uQ hj;exact(yl (bZ i x0 bG j y0 du)).2 bu aj
 | bo cs=>
  obtain⟨vs,rfl,h1,h2⟩:=h;refine⟨⟨vs,rfl,by simpa using h1,fun i x hi=>?_⟩,fun γ aj=>(by cases aj),fun γ aj=>?_⟩
  ·obtain⟨x0,bG,rfl⟩:=uQ hi;exact(yl (h2 i x0 bG)).1
  ·obtain⟨x,hx,aj⟩:=Kat.1 aj;obtain⟨i,hi⟩:=KaM hx;obtain⟨x0,bG,rfl⟩:=uQ hi;exact(yl (h2 i x0 bG)).2 γ aj
 | dX cs=>
  obtain⟨vs,rfl,h1,h2⟩:=h;refine⟨⟨vs,rfl,by simpa using h1,fun i x hi=>?_⟩,fun γ aj=>(by cases aj),fun γ aj=>?_⟩
  ·obtain⟨x0,bG,rfl⟩:=uQ hi;exact(yl (h2 i x0 bG)).1
  ·obtain⟨x,hx,aj⟩:=Kat.1 aj;obtain⟨i,hi⟩:=KaM hx;obtain⟨x0,bG,rfl⟩:=uQ hi;exact(yl (h2 i x0 bG)).2 γ aj
 |aI γ o n=>
  simp only[cV];split
  ·exact⟨trivial,fun γ aj=>(by cases aj),fun γ aj=>by cases aj⟩
  ·rename_i aJ;exact⟨h,fun γ aj=>(by cases aj),fun bu aj=>by simp[PV.aQ]at aj;subst aj;exact aJ⟩
 |np γ o n=>
  simp only[cV];split
  ·exact⟨trivial,fun γ aj=>(by cases aj),fun γ aj=>by cases aj⟩
  ·rename_i aJ;exact⟨h,fun γ aj=>(by cases aj),fun bu aj=>by simp[PV.aQ]at aj;subst aj;exact aJ⟩
 | fn f first cap=>
  by_cases hc:(first.flatMap PV.fh++cap.flatMap PV.fh).contains β=true
  ·simp only[cV,hc,if_true];exact⟨trivial,fun γ aj=>(by cases aj),fun γ aj=>by cases aj⟩
  ·exact kill (by simp only[cV,hc];rfl) (fun γ aj e=>hc (by subst e;exact Kcy.2 aj))
 |_=>exact kill rfl (fun γ aj=>by cases aj)
end Go.FW
namespace Go.FW
open Go
variable {C : Ctx} {ρ : Nat -> Option Nat} {fr : Fr} {hp : HP} {w : World} {a : Act} {K : Qh}
theorem RU{o:Oper}{s x:Operand}{t e:TypeId}{n by_:Nat}{z:PV}{px:PV}{ys:List PV}{e' d:Nat}{β:Nat}{aG:Fr}{Q:Exit->Act->World->Prop}
  (ho:o.op= .call { callee:=.builtin .append,args:= #[s,x],argTypes:= #[t,t] }) (hd:o.dst=some d) (aw:d<C.N) (bq:a.defers=[]) (h:Qv C ρ fr hp a.tmps w)
  (hu:C.P.underlying t=some (.slice e)) (hz:l9 C.P e=some (n,by_,z)) (hx:Qn C ρ hp w px (a.eval x)) (rZ:jx hp px=some (e',ys)) (h0:0<n) (mD:z.cells.length=n) (pL:e'=n∨ys=[])
  (es:a.eval s= .slice none 0 0) (hb:ys.length*by_<=140737488355328) (hm:ys.length<=9223372036854775807)
  (tc:Ac C ρ hp w β fr aG) (hB:aR β=false)
  (hK:K (af aG d (.ms β ys.length)) (Qj hp β ⟨n,e,ys,false⟩)):o.wp C.P a w (dw C false w K) Q:=by
 obtain⟨ti,zv,i1,i2,i3,i4,i5⟩:=uV hz;obtain⟨ad,cap,ex,Ex⟩:=LK h hx rZ h0 pL;by_cases qc:ys=[]
 ·subst qc;have cH:=Ui (P:=C.P) (ty:=o.type) (ad:=ad) (c:=cap) hu i1 (base:=none) (n:=0) (cap:=0) (Kae 0) w;have hs:=h.B7 (w':=w) β none ⟨n,e,[],false⟩ hB tc (Ext.refl _ _) (by simp) h0 (by simp) (by simp) (by simp);refine lZ (wm ho es ex cH) (dw.ob hd aw bq hs (by simp) ?_ hK);exact⟨⟨n,e,[],false⟩,by simp[Qj],by simp,.inl ⟨kn _ _ _,rfl,rfl,rfl⟩⟩
 ·obtain⟨b,off,f,rfl,hf,jl⟩:=Ex qc;have th:0<ys.length:=List.length_pos_iff.2 qc;have cH:=run_append_nil (P:=C.P) w t o.type e ti zv hu i1 i2 ⟨b,off,none⟩ ys.length cap (gX f (ys.length*n)) (by rw[Aj,i3])
   (fun j v hj=>by obtain⟨et,rfl⟩:=Ct hj;rw[KbZ];exact hf j et) th (by omega) (by rw[i4];omega)
  have iY:=grownCap_ge w ys.length 0 e;have lJ:=grownCap_le_maxLen w ys.length 0 e (by rw[qo];exact hm);generalize grownCap w ys.length 0 e=G at cH iY lJ;have v5:zv.cells.size=n:=by have:=(uN (w:=w) (X:=aK C ρ hp) i5).cells.1;omega
  obtain⟨hs,lM⟩:=h.B4 β hB tc ⟨n,e,ys,false⟩ ((gX f (ys.length*n)).toArray++Builtin.zeroCells zv.cells (G-ys.length)) G _ (.inr rfl)
   (by simp[Aj,size_zeroCells,v5,<-Nat.add_mul];congr 1;omega) iY lJ h0 (fun i y hy=>⟨(jl i y hy).1,(jl i y hy).2.1⟩)
   (fun i y hy j z hz=>by
    have hi:i<ys.length:=(Kaf.1 hy).1;have hj:j<n:=by have:=(Kaf.1 hz).1;have:=(jl i y hy).1;omega
    obtain⟨q1,_⟩:=yq (n:=0) hi hj;show Qu w _ z (Array.getD _ (i*n+j) undef);rw[mK,if_pos (by simpa[Aj]using q1)];have:=(jl i y hy).2.2 j z hz;rw[yf,Gp q1];exact this)
  refine lZ (wm ho es ex cH) (dw.ob hd aw bq hs (by simp) ?_ hK);exact⟨⟨n,e,ys,false⟩,by simp[Qj],by simp,.inr ⟨w.heap.size,G,kn _ _ _,by simp,⟨_,e,qj w.drew _,by simp[Aj,size_zeroCells,v5,<-Nat.add_mul];congr 1;omega⟩,by omega⟩⟩
theorem RW{o:Oper}{s x:Operand}{t e:TypeId}{n by_:Nat}{z:PV}{px:PV}{ys:List PV}{e' d:Nat}{β m:Nat}{hb:HB}{aG:Fr}{Q:Exit->Act->World->Prop}
  (ho:o.op= .call { callee:=.builtin .append,args:= #[s,x],argTypes:= #[t,t] }) (hd:o.dst=some d) (aw:d<C.N) (bq:a.defers=[]) (h:Qv C ρ fr hp a.tmps w)
  (hu:C.P.underlying t=some (.slice e)) (hz:l9 C.P e=some (n,by_,z)) (hx:Qn C ρ hp w px (a.eval x)) (rZ:jx hp px=some (e',ys)) (h0:0<n) (mD:z.cells.length=n) (pL:e'=n∨ys=[])
  (hs:Qn C ρ hp w (.ms β m) (a.eval s)) (tc:Ac C ρ hp w β fr aG) (hB:aR β=false) (ae:hp β=some hb) (na:hb.fz=false) (hbe:hb.e=n) (dU:hb.ty=e) (kZ:m<=hb.xs.length)
  (M8:(m+ys.length)*by_<=140737488355328) (EU:m+ys.length<=9223372036854775807)
  (hK:K (af aG d (.ms β (m+ys.length))) (Qj hp β ⟨n,e,hb.xs.take m++ys,false⟩)):o.wp C.P a w (dw C false w K) Q:=by
 obtain⟨hb2,g1,g2,g3⟩:=hs;rw[ae]at g1;cases g1;have qY:(hb.xs.take m).length=m:=by simp;omega
 rw[Kbh]at g2;rcases g3 with⟨g3,es,rfl,_⟩|⟨b,cap,g3,es,g5,g6⟩
 ·simp only[Kbh,Kcg,KaO]at hK M8 EU;exact RU ho hd aw bq h hu hz hx rZ h0 mD pL es M8 EU tc hB hK
 rw[KcM]at es;rw[Kbh]at g5 g6;obtain⟨ti,zv,i1,i2,i3,i4,i5⟩:=uV hz;obtain⟨ad,Fy,ex,Ex⟩:=LK h hx rZ h0 pL;have bE:=h.own β hb ae;have bl:=bE.dd;rw[g3]at bl;obtain⟨b1,b2,cur,eW,c1,c2,c3,c4,c5⟩:=bl;replace b1:=Ctx.xm b1 hB;obtain⟨cur',ty',d1,d2⟩:=g5;rw[c1]at d1;cases d1;obtain rfl:eW=cap:=KbJ bE.m6 (by omega);subst dU;subst hbe;have m9:aK C ρ hp b:=.inr ⟨β,hb,ae,na,g3⟩;have BG:∀(i:Nat)(x:PV),(hb.xs.take m++ys)[i]? =some x->(i<m/\hb.xs[i]? =some x)∨(m<=i/\ys[i-m]? =some x):=by
  intro i x bk;rw[Ka2,qY]at bk;by_cases hi:i<m
  ·rw[if_pos hi,KaN hi]at bk;exact .inl ⟨hi,bk⟩
  ·rw[if_neg hi]at bk;exact .inr ⟨by omega,bk⟩
 by_cases qc:ys=[]
 ·subst qc;have cH:=Ui (P:=C.P) (ty:=o.type) (ad:=ad) (c:=Fy) hu i1 (base:=some ⟨b,0,none⟩) (n:=m) (cap:=eW) (by omega) w;have hr:=h.B7 (w':=w) β (some b) ⟨hb.e,hb.ty,hb.xs.take m++[],false⟩ hB tc (Ext.refl _ _) (fun c hc=>by cases hc;exact⟨b1,b2,.inr ⟨g3,hb,ae,na⟩⟩) bE.m6
   (fun i x bk=>by
    rcases BG i x bk with⟨_,hq⟩|⟨_,hq⟩
    ·exact bE.len i x hq
    ·simp at hq) (by simp)
   (fun c hc=>by
    cases hc;refine⟨cur,eW,c1,c2,by simp;omega,c4,fun i x bk j y hy=>?_⟩;rcases BG i x bk with⟨_,hq⟩|⟨_,hq⟩
    ·exact c5 i x hq j y hy
    ·simp at hq)
  refine lZ (wm ho es ex cH) (dw.ob hd aw bq hr (by simp) ?_ hK);exact⟨⟨hb.e,hb.ty,hb.xs.take m++[],false⟩,by simp[Qj],by simp;omega,.inr ⟨b,eW,kn _ _ _,by simp,⟨cur,hb.ty,c1,by rw[Kbh];exact c2⟩,by omega⟩⟩
 obtain⟨sb,off,f,rfl,hf,jl⟩:=Ex qc;have th:0<ys.length:=List.length_pos_iff.2 qc;have BI:∀(j:Nat)(v:Value),(gX f (ys.length*hb.e))[j]? =some v->w.cell? ((⟨sb,off,none⟩:Addr).add j)=some v:=fun j v hj=>by obtain⟨et,rfl⟩:=Ct hj;rw[KbZ];exact hf j et
 have tl:∀u∈gX f (ys.length*hb.e),u.oneCell'=true:=by
  intro u mC;obtain⟨k,hk⟩:=KaM mC;obtain⟨bI,rfl⟩:=Ct hk;have hi:k/hb.e<ys.length:=(Kbi h0).2 bI;have hj:=Kbx k h0;obtain⟨l1,l2,l3⟩:=jl _ _ (Kag hi);have tg:k%hb.e<(ys[k/hb.e]'hi).cells.length:=by omega
  have:=l3 _ _ (Kag tg);rw[KaP,Kbq]at this;exact this.uH.1
 have jc:=Aj f (ys.length*hb.e);have Nv:m*hb.e+(gX f (ys.length*hb.e)).length=(m+ys.length)*hb.e:=by rw[jc,KaK]
 by_cases BN:m+ys.length<=eW
 ·have rS:m*hb.e+(gX f (ys.length*hb.e)).length<=cur.size:=by rw[Nv,c2];exact Kaj _ BN
  have cH:=run_append_room (P:=C.P) w t o.type hb.ty ti hu i1 b m eW cur c1 ⟨sb,off,none⟩ ys.length Fy (gX f (ys.length*hb.e)) (by rw[jc,i3]) BI tl BN (by rw[i3];exact rS);rw[i3]at cH;have je:=Cn (cur:=cur) (p:=m*hb.e) (cs:=gX f (ys.length*hb.e)) rS;have eZ:=fun k hk=>Cl (cur:=cur) (p:=m*hb.e) (cs:=gX f (ys.length*hb.e)) (k:=k) rS hk;generalize hW:(cur.toList.take (m*hb.e)++gX f (ys.length*hb.e)++cur.toList.drop (m*hb.e+(gX f (ys.length*hb.e)).length)).toArray=W at cH je eZ;have hr:=h.B7 (w':=w.setRow b W) β (some b) ⟨hb.e,hb.ty,hb.xs.take m++ys,false⟩ hB tc ((Cs w b W).mono (fun i _ hi=>⟨hi▸g3,hb,ae,na⟩))
   (fun c hc=>by cases hc;exact⟨b1,by simpa using b2,.inr ⟨g3,hb,ae,na⟩⟩) bE.m6
   (fun i x bk=>by
    rcases BG i x bk with⟨_,hq⟩|⟨_,hq⟩
    ·exact bE.len i x hq
    ·exact⟨(jl _ x hq).1,(jl _ x hq).2.1⟩) (by simp)
   (fun c hc=>by
    cases hc;refine⟨W,eW,setRow_heap w b cur W hb.ty _ c1,by rw[je];exact c2,by simp;omega,c4,fun i x bk j y hy=>?_⟩;show Qu w _ y (Array.getD W (i*hb.e+j) undef);rcases BG i x bk with⟨hi,hq⟩|⟨hi,hq⟩
    ·have hj:j<hb.e:=by have:=(Kaf.1 hy).1;have:=(bE.len i x hq).1;omega
     have q1:=(yq (n:=0) hi hj).1;have q2:m*hb.e<=eW*hb.e:=Kaj _ (by omega);rw[eZ _ (by omega),if_neg (by omega)];exact c5 i x hq j y hy
    ·have dZ:i-m<ys.length:=(Kaf.1 hq).1;have hj:j<hb.e:=by have:=(Kaf.1 hy).1;have:=(jl _ x hq).1;omega
     obtain⟨q1,q2⟩:=yq (n:=m) dZ hj;rw[show m+(i-m)=i by omega]at q2;rw[eZ _ (by omega),if_pos (by omega),q2,show m*hb.e+((i-m)*hb.e+j)-m*hb.e=(i-m)*hb.e+j by omega,Gp q1];exact(jl _ x hq).2.2 j y hy)
  refine lZ (wm ho es ex cH) (dw.ob hd aw bq hr (by simp) ?_ hK);exact⟨⟨hb.e,hb.ty,hb.xs.take m++ys,false⟩,by simp[Qj],by simp;omega,.inr ⟨b,eW,kn _ _ _,by simp,⟨W,hb.ty,setRow_heap w b cur W hb.ty _ c1,by rw[je,Kbh];exact c2⟩,by omega⟩⟩
 ·have av3:m*hb.e<=cur.size:=by rw[c2];exact Kaj _ (by omega)
  have ir:(cur.toList.take (m*hb.e)).length=m*hb.e:=by simp;omega
  have holds:∀(j:Nat)(v:Value),(cur.toList.take (m*hb.e))[j]? =some v->w.cell? ((⟨b,0,none⟩:Addr).add j)=some v:=fun j v hj=>by
   have et:j<m*hb.e:=by have:=(Kaf.1 hj).1;omega
   rw[KaN et]at hj;rw[KbZ,Kbh,og c1 (by omega),Gn cur j v hj]
  have cH:=run_append_grow (P:=C.P) w t o.type hb.ty ti zv hu i1 i2 ⟨b,0,none⟩ m eW (cur.toList.take (m*hb.e)) (by rw[ir,i3]) holds ⟨sb,off,none⟩ ys.length Fy (gX f (ys.length*hb.e)) (by rw[jc,i3]) BI
   (by omega) (by omega) (growslice_fits (by omega) (by rw[i4];exact M8))
  have iY:=grownCap_ge w (m+ys.length) eW hb.ty;have lJ:=grownCap_le_maxLen w (m+ys.length) eW hb.ty (by rw[qo];exact EU);generalize grownCap w (m+ys.length) eW hb.ty=G at cH iY lJ;have v5:zv.cells.size=hb.e:=by have:=(uN (w:=w) (X:=aK C ρ hp) i5).cells.1;omega
  have lK:((cur.toList.take (m*hb.e)).toArray++(gX f (ys.length*hb.e)).toArray++Builtin.zeroCells zv.cells (G-(m+ys.length))).size=G*hb.e:=by simp only[Kcp,Kb9,ir,jc,size_zeroCells,v5,<-Nat.add_mul];congr 1;omega
  obtain⟨hr,lM⟩:=h.B4 β hB tc ⟨hb.e,hb.ty,hb.xs.take m++ys,false⟩ _ G _ (.inr rfl) lK (by simp;omega) lJ bE.m6
   (fun i x bk=>by
    rcases BG i x bk with⟨_,hq⟩|⟨_,hq⟩
    ·exact bE.len i x hq
    ·exact⟨(jl _ x hq).1,(jl _ x hq).2.1⟩)
   (fun i x bk j y hy=>by
    show Qu w _ y (Array.getD _ (i*hb.e+j) undef);rcases BG i x bk with⟨hi,hq⟩|⟨hi,hq⟩
    ·have hj:j<hb.e:=by have:=(Kaf.1 hy).1;have:=(bE.len i x hq).1;omega
     have q1:=(yq (n:=0) hi hj).1;rw[mK,if_pos (by simp only[Kcp,Kb9,ir];omega),mK,if_pos (by simp only[Kb9,ir];omega),yf,
      Kad,KaN q1]
     have:=c5 i x hq j y hy;simpa[KaX]using this
    ·have dZ:i-m<ys.length:=(Kaf.1 hq).1;have hj:j<hb.e:=by have:=(Kaf.1 hy).1;have:=(jl _ x hq).1;omega
     obtain⟨q1,q2⟩:=yq (n:=m) dZ hj;rw[show m+(i-m)=i by omega]at q2;rw[q2,mK,if_pos (by simp only[Kcp,Kb9,ir,jc];omega),mK,if_neg (by simp only[Kb9,ir];omega),yf];simp only[Kb9,ir];rw[show m*hb.e+((i-m)*hb.e+j)-m*hb.e=(i-m)*hb.e+j by omega,Gp q1];exact(jl _ x hq).2.2 j y hy)
  refine lZ (wm ho es ex cH) (dw.ob hd aw bq hr (by simp) ?_ hK);exact⟨⟨hb.e,hb.ty,hb.xs.take m++ys,false⟩,by simp[Qj],by simp;omega,.inr ⟨w.heap.size,G,kn _ _ _,by simp,⟨_,hb.ty,qj w.drew _,by rw[Kbh];exact lK⟩,by omega⟩⟩
theorem ad8{o:Oper}{s x:Operand}{t e:TypeId}{n by_:Nat}{z:PV}{ps px:PV}{d:Nat}{Q:Exit->Act->World->Prop}
  (ho:o.op= .call { callee:=.builtin .append,args:= #[s,x],argTypes:= #[t,t] }) (hd:o.dst=some d) (aw:d<C.N) (bq:a.defers=[]) (h:Qv C ρ fr hp a.tmps w)
  (hu:C.P.underlying t=some (.slice e)) (hz:l9 C.P e=some (n,by_,z)) (mD:z.cells.length=n) (hs:Qn C ρ hp w ps (a.eval s)) (hx:Qn C ρ hp w px (a.eval x))
  (atX:jx hp px=none->w6 n by_ e ps px d fr hp K->o.wp C.P a w (dw C false w K) Q) (hv:ia n by_ e ps px d fr hp K):o.wp C.P a w (dw C false w K) Q:=by
 unfold ia at hv;split at hv
 ·exact atX (by assumption) hv
 ·rename_i e' ys rZ;obtain⟨h0,pL,hv⟩:=hv;cases ps with
  |au=>obtain⟨k1,k2,hK⟩:=hv;exact RU (β:=d) ho hd aw bq h hu hz hx rZ h0 mD pL hs.z7 k1 k2 (GP (Ad aw)) (Bb (Ad aw)) hK
  | aB β o' m=>
   cases o' with
   |succ o'=>exact hv.elim
   |zero=>
   simp only at hv;split at hv
   ·rename_i hb ae;rcases hv with⟨k0,k1,k2,k3,k4,k5,k6,hK⟩|⟨k0,kY,⟨_,k1,k2,k3,k4,k5,k6⟩,hK⟩
    ·exact RW ho hd aw bq h hu hz hx rZ h0 mD pL hs (GP k0) (Bb k0) ae k1 k2 k3 k4 k5 k6 hK
    ·exact RW ho hd aw bq h hu hz hx rZ h0 mD pL hs CC kY ae k1 k2 k3 k4 k5 k6 hK
   ·exact hv.elim
  |_=>exact hv.elim
theorem Q41{P:Program}{t ty e:TypeId}{n:Nat}(ht:P.underlying t=some (.slice e))(hn:fa P e=some n){base ad:Option Addr}{dl dc sl sc:Nat}(hz:Nat.min sl dl=0)(w:World):
  (Builtin.copy_ #[t,t] ty #[.slice base dl dc,.slice ad sl sc]).run P w= .ok (goInt 0) w:=by
 have hs:=nt hn;cases ad<;>cases base<;>simp[Builtin.copy_,run_underlying ht,hs,Builtin.lenOf,Builtin.firstCells,hz,storeCells,loadCells,loadCellsFrom]
theorem Va{P:Program}{o:Oper}{s x:Operand}{t:TypeId}(ho:o.op= .call { callee:=.builtin .copy,args:= #[s,x],argTypes:= #[t,t] }){vs vx v:Value}{w w':World}(es:a.eval s=vs)(ex:a.eval x=vx)
  (hr:(Builtin.copy_ #[t,t] o.type #[vs,vx]).run P w= .ok v w'):(execOp a.eval o).run P w= .ok (.value v) w':=by
 unfold execOp;simp only[ho,resolve,Kar,Ka3,Kan,invoke,builtin];simp[es,ex,hr]
theorem Q42{P:Program}(w:World)(t ty elem:TypeId)(g o MH asj n:Nat)(a:Addr)(Oj avd:Nat)(cur:Array Value)(ty':TypeId)(cs:List Value)
  (hu:P.underlying t=some (.slice elem)) (hs:fa P elem=some n)
  (hg:w.heap[g]? =some (.cells cur ty' (0,0))) (hn:cs.length=Nat.min Oj MH*n)
  (rZ:∀j v,cs[j]? =some v->w.cell? (a.add j)=some v) (rS:o+cs.length<=cur.size) (h1:∀v∈cs,v.oneCell'=true):
  (Builtin.copy_ #[t,t] ty #[.slice (some ⟨g,o,none⟩) MH asj,.slice (some a) Oj avd]).run P w=
   .ok (goInt (Nat.min Oj MH)) (w.setRow g (cur.toList.take o++cs++cur.toList.drop (o+cs.length)).toArray):=by
 have hl:=run_loadCells_list (P:=P) w a cs rZ;have bc:=run_storeCells_at P g o ty' cs 0 cur w hg (by simpa using rS) h1;have hz:=nt hs;simp[Builtin.copy_,run_underlying hu,hz,Builtin.lenOf,Builtin.firstCells,<-hn,hl,bc]
theorem ad9{o:Oper}{s x:Operand}{t e:TypeId}{n:Nat}{ps px:PV}{d:Nat}{Q:Exit->Act->World->Prop}
  (ho:o.op= .call { callee:=.builtin .copy,args:= #[s,x],argTypes:= #[t,t] }) (hd:o.dst=some d) (aw:d<C.N) (bq:a.defers=[]) (h:Qv C ρ fr hp a.tmps w)
  (hu:C.P.underlying t=some (.slice e)) (hn:fa C.P e=some n) (hs:Qn C ρ hp w ps (a.eval s)) (hx:Qn C ρ hp w px (a.eval x))
  (hv:sK n ps px d fr hp K):o.wp C.P a w (dw C false w K) Q:=by
 unfold sK at hv;split at hv
 ·rename_i e' ys β m rZ;split at hv
  ·rename_i hb ae;obtain⟨k0,k1,k2,k3,k4,hK⟩:=hv;obtain⟨hb2,g1,g2,g3⟩:=hs;rw[ae]at g1;cases g1;obtain⟨ad,Fy,ex,Ex⟩:=LK (e:=n) h hx rZ k0 k3;have bE:=h.own β hb ae;have zero:Nat.min ys.length m=0->o.wp C.P a w (dw C false w K) Q:=by
    intro h0;have cH:∀base cap,a.eval s= .slice base m cap->(execOp a.eval o).run C.P w= .ok (.value (goInt 0)) w:=fun base cap es=>
     Va ho es ex (Q41 (P:=C.P) (ty:=o.type) hu hn h0 w)
    have e2:({ hb with xs:=ys.take m++hb.xs.drop ys.length }:HB)=hb:=by
     have:ys.take m++hb.xs.drop ys.length=hb.xs:=by
      rcases Nat.min_eq_zero_iff.1 h0 with hq|hq
      ·have:ys=[]:=Kb5 hq;subst this;simp
      ·have:hb.xs=[]:=Kb5 (by omega);subst hq;simp[this]
     rw[this]
    have e3:Qj hp β hb=hp:=by
     funext γ;unfold Qj;split
     ·rename_i he;rw[he,ae]
     ·rfl
    rw[e2,e3,show(min (ys.length:Int) (m:Int))=0 by have:min ys.length m=0:=h0;omega]at hK;obtain⟨ad',eW,es⟩:=Qn.Oa (C:=C) (ρ:=ρ) (hp:=hp) (w:=w) ⟨hb,ae,g2,g3⟩;exact lZ (cH _ _ es) (dw.ob hd aw bq h (by simp) (Qn.mkInt _ _) hK)
   by_cases IL:Nat.min ys.length m=0
   ·exact zero IL
   rcases g3 with⟨g3,es,zC,_⟩|⟨b,cap,g3,es,g5,g6⟩
   ·exact(IL (by rw[zC];simp)).elim
   rw[KcM]at es;have qc:ys≠[]:=by rintro rfl;exact IL (by simp)
   obtain⟨sb,off,f,rfl,hf,jl⟩:=Ex qc;have bl:=bE.dd;rw[g3]at bl;obtain⟨b1,b2,cur,eW,c1,c2,c3,c4,c5⟩:=bl;obtain⟨k,hk⟩:∃k,k=min ys.length m:=⟨_,rfl⟩
   have jc:=Aj f (k*n);have zw:k*n<=ys.length*n:=Kaj _ (by omega);have tl:∀u∈gX f (k*n),u.oneCell'=true:=by
    intro u mC;obtain⟨q,hq⟩:=KaM mC;obtain⟨jo,rfl⟩:=Ct hq;have hi:q/n<ys.length:=(Kbi k0).2 (by omega);have hj:=Kbx q k0;obtain⟨l1,l2,l3⟩:=jl _ _ (Kag hi);have tg:q%n<(ys[q/n]'hi).cells.length:=by omega
    have:=l3 _ _ (Kag tg);rw[KaP,Kbq]at this;exact this.uH.1
   have hkc:k*n<=eW*n:=Kaj _ (by omega);have rS:0+(gX f (k*n)).length<=cur.size:=by rw[jc,c2,k2];omega
   have cH:=Q42 (P:=C.P) w t o.type e b 0 m cap n ⟨sb,off,none⟩ ys.length Fy cur hb.ty (gX f (k*n)) hu hn c1 (by rw[jc,hk])
    (fun j v hj=>by obtain⟨et,rfl⟩:=Ct hj;rw[KbZ];exact hf j (by omega)) rS tl
   have je:=Cn (cur:=cur) (p:=0) (cs:=gX f (k*n)) rS;have eZ:=fun q hq=>Cl (cur:=cur) (p:=0) (cs:=gX f (k*n)) (k:=q) rS hq;generalize hW:(cur.toList.take 0++gX f (k*n)++cur.toList.drop (0+(gX f (k*n)).length)).toArray=W at cH je eZ;have ee:(ys.take m++hb.xs.drop ys.length).length=hb.xs.length:=by simp;omega
   have fJ:∀(i:Nat)(x:PV),(ys.take m++hb.xs.drop ys.length)[i]? =some x->(i<k/\ys[i]? =some x)∨(k<=i/\hb.xs[i]? =some x):=by
    intro i x bk;rw[Ka2]at bk;have ht:(ys.take m).length=k:=by simp;omega
    rw[ht]at bk;by_cases hi:i<k
    ·rw[if_pos hi,KaN (by omega)]at bk;exact .inl ⟨hi,bk⟩
    ·rw[if_neg hi,Kbe]at bk;refine .inr ⟨by omega,?_⟩;have jY:ys.length+(i-k)<hb.xs.length:=(Kaf.1 bk).1
     rwa[show ys.length+(i-k)=i by omega]at bk
   have bc:=h.store β b hb { hb with xs:=ys.take m++hb.xs.drop ys.length } ae k1 (by intro e;rw[e]at k4;simp at k4;exact IL (by simp[k4])) g3 (Cs w b W) rfl ee k1
    (fun i x bk=>by
     rcases fJ i x bk with⟨_,hq⟩|⟨_,hq⟩
     ·exact⟨by rw[(jl _ x hq).1];exact k2.symm,(jl _ x hq).2.1⟩
     ·exact bE.len i x hq)
    (fun e' DV eD=>by obtain⟨cur',ty',d1,d2⟩:=eD;rw[c1]at d1;cases d1;exact⟨_,_,setRow_heap w b cur _ hb.ty _ c1,by rw[je];exact d2⟩)
    ⟨W,eW,setRow_heap w b cur W hb.ty _ c1,by rw[je];exact c2,by rw[ee];exact c3,c4,fun i x bk j y hy=>by
     show Qu w _ y (Array.getD W (i*hb.e+j) undef);rcases fJ i x bk with⟨hi,hq⟩|⟨hi,hq⟩
     ·have hj:j<n:=by have:=(Kaf.1 hy).1;have:=(jl _ x hq).1;omega
      have q1:=(yq (n:=0) hi hj).1;rw[k2,eZ _ (by rw[c2,k2];omega),if_pos (by omega),Kcw,Gp q1];exact(jl _ x hq).2.2 j y hy
     ·have jY:i<hb.xs.length:=(Kaf.1 hq).1;have hj:j<hb.e:=by have:=(Kaf.1 hy).1;have:=(bE.len i x hq).1;omega
      have:=c5 i x hq j y hy;have q2:k*n<=i*n:=Kaj _ hi;have q3:=(yq (n:=0) (show i<eW by omega) (show j<n by omega)).1;rw[eZ _ (by rw[c2,k2];omega),if_neg (by rw[k2];omega)];exact this⟩
   rw[show(min (ys.length:Int) (m:Int))=((Nat.min ys.length m:Nat):Int)by have:Nat.min ys.length m=min ys.length m:=rfl;omega]at hK;exact lZ (Va ho es ex cH) (dw.ob hd aw bq bc (by simp) (Qn.mkInt _ _) hK)
  ·exact hv.elim
 ·exact hv.elim
theorem acS{o:Oper}{t:TypeId}{parts:Array (Nat×Operand)}{z:PV}{n by_:Nat}{ps:List (Nat×Nat×aX)}{d:Nat}(ho:o.op= .build t parts)(hd:o.dst=some d)(aw:d<C.N)(h:Qv C ρ fr hp a.tmps w)
  (hz:l9 C.P t=some (n,by_,z)) (eF:DA C.P t parts.toList=some ps)
  (hv:wJ z.cells.length (ps.map fun p=>(p.1,p.2.1,ev fr p.2.2))/\K (af fr d (.bo (jN z.cells ((ps.map fun p=>(p.1,p.2.1,ev fr p.2.2)).map fun p=>(p.1,(fU p.2.2).getD []))))) hp):Qz C ρ o a w K:=by
 obtain⟨bR,hK⟩:=hv;obtain⟨ti,zv,i1,i2,i3,i4,i5⟩:=uV hz;have I3:sE (df C ρ hp w) z.cells zv.cells:=by have h0:Rows w (aK C ρ hp) z.cells zv.cells:=(uN i5).rows;exact⟨h0.1,fun i x hx=>df.ZW (h0.2 i x hx)⟩
 have iX:(parts.map fun(x:Nat×Operand)=>(x.1,a.eval x.2)).toList=parts.toList.map fun x=>(x.1,a.eval x.2):=by simp
 have key:∀(f:Nat×Operand->Option (Nat×Nat×aX))(place:Nat->Option (Nat×Nat)),parts.toList.mapM f=some ps->(∀x q,f x=some q->place x.1=some (q.1,q.2.1)/\cx x.2=some q.2.2)->
   ∃fC,Instr.fill place zv.cells (parts.map fun(x:Nat×Operand)=>(x.1,a.eval x.2)).toList=some fC/\
    sE (df C ρ hp w) (jN z.cells ((ps.map fun p=>(p.1,p.2.1,ev fr p.2.2)).map fun p=>(p.1,(fU p.2.2).getD []))) fC:=by
  intro f place hm hf;rw[iX];refine GA place _ _ _ _ I3 (by simp[(oZ hm).1]) (fun i p q pV xM=>?_);simp only[KbH,Kas,Kaa]at xM;obtain⟨q0,gO,rfl⟩:=xM;obtain⟨x,hx,qS,rfl⟩:=ON hm pV gO;obtain⟨f1,f2⟩:=hf x q0 qS;obtain⟨cs,o1,o2,o3⟩:=bR (q0.1,q0.2.1,ev fr q0.2.2) (Kaq.2 ⟨q0,Kai gO,rfl⟩);simp only[Function.comp]at o1 o2 o3⊢;simp only[o1,Kbb];obtain⟨r1,r2,_⟩:=R7 (cR h f2) o1;exact⟨by rw[o2];exact f1,⟨r1,r2⟩,by rw[o2];exact o3⟩
 have fin:∀fC,(∀w',(Instr.build t (parts.map fun(x:Nat×Operand)=>(x.1,a.eval x.2))).run C.P w'= .ok (.agg fC) w')->
   sE (df C ρ hp w) (jN z.cells ((ps.map fun p=>(p.1,p.2.1,ev fr p.2.2)).map fun p=>(p.1,(fU p.2.2).getD []))) fC->Qz C ρ o a w K:=by
  intro fC cH hr;refine⟨.agg fC,fun w'=>?_,_,_,by rw[hd];exact h.af (p:=.bo _) ⟨fC,rfl,hr.1,hr.2⟩ aw,hK⟩;unfold execOp;simp only[ho,Kar];have:=cH w';rw[show(parts.map fun(x:Nat×Operand)=>(x.1,a.eval x.2))=(parts.map fun x=>match x with|(i,x)=>(i,a.eval x))from rfl]at this;rw[this];rfl
 unfold DA at eF;split at eF
 ·rename_i fs hu;simp only[Kab]at eF;obtain⟨pl,aV,hm⟩:=eF;obtain⟨fC,g1,g2⟩:=key _ (fun i=>pl[i]?) hm (fun x q hq=>by simp only[Kab,Kaa]at hq;obtain⟨r,hr,y,hy,rfl⟩:=hq;exact⟨by simpa using hr,hy⟩);refine fin fC (fun w'=>?_) g2;unfold Instr.build;have jn:=run_places (P:=C.P) w' fs.toList pl aV;simp[Kar,yd i1 i2,jJ hu,KbN,jn]at g1⊢;simp[g1]
 ·rename_i len e hu;simp only[Kab]at eF;obtain⟨m,zC,hm⟩:=eF;obtain⟨fC,g1,g2⟩:=key _ (fun i=>some (i*m,m)) hm (fun x q hq=>by simp only[Kaa]at hq;obtain⟨y,hy,rfl⟩:=hq;exact⟨rfl,hy⟩);refine fin fC (fun w'=>?_) g2;unfold Instr.build;simp only[Kar,yd i1 i2,jJ hu,nt zC,Kan,g1,Ka3]
 ·simp at eF
end Go.FW
namespace Go.FW
open Go
variable {C : Ctx} {ρ : Nat -> Option Nat} {fr : Fr} {hp : HP} {tmps : Array Value} {w : World} {a : Act} {K : Qh}
theorem La{x:PV}(h:ko x=true):∃β n,x= .aB β 0 n/\5000000<=β:=by
 unfold ko at h;split at h
 ·exact⟨_,_,rfl,by simpa using h⟩
 ·cases h
theorem aea{γ:Nat}:iP γ (fX γ fr)=fX γ fr:=by
 funext i;unfold iP fX;generalize fr i=p;cases p with
 |aC bu e ty xs=>
  simp only[cV];split
  ·rfl
  ·rename_i aJ;simp[gE,aJ]
 |aI bu o n=>simp only[cV];split<;>rfl
 |np bu o n=>simp only[cV];split<;>rfl
 |fn f first cap=>
  simp only[cV];split
  ·rfl
  ·unfold cA;split<;>rfl
 |bo cs=>rfl
 |dX cs=>rfl
 |_=>simp only[cV,cA];split<;>rfl
theorem AE{γ β o n:Nat}{b':Option Nat}{ax:HB}{w':World}{v:Value}(h:Qv C ρ fr hp tmps w)(hx:Ext (fun b=>ρ γ=some b/\∃hb,hp γ=some hb/\hb.fz=false) w w')(aJ:β≠γ)
  (hr:fF ρ hp w β o n v):fF (rb ρ γ b') (Qj hp γ ax) w' β o n v:=
 fF.move hr ⟨tP aJ,fun hb ae=>⟨hb,by simp[Qj,aJ,ae],rfl,Kae _,fun b cap h1 h2=>
  oh (hx.block b (oo h2) (fun⟨e1,hb0,e2,_⟩=>aJ (h.inj β γ b (by simp[ae]) (by simp[e2]) h1 e1))) h2⟩⟩
theorem fF.slice{β o n:Nat}{v:Value}(h:fF ρ hp w β o n v):∃ad m c,v= .slice ad m c:=by
 obtain⟨_,_,_,⟨_,e,_⟩|⟨_,_,_,e,_⟩⟩:=h
 ·exact⟨_,_,_,e⟩
 ·exact⟨_,_,_,e⟩
theorem JW{β:Nat}(h:1000000<=β):bJ β=true:=by simp[bJ];omega
theorem RX{β:Nat}(h:2000000<=β):aR β=false:=by simp[aR];omega
theorem Qv.I'{γ b ty cap:Nat}{cur:Array Value}{xs:List PV}(h:Qv C ρ (fX γ fr) hp tmps w)(hB:bJ γ=true)(aj:hp γ=some ⟨1,ty,[],false⟩)(bK:ρ γ=some b)
  (h1:w.heap[b]? =some (.cells cur ty (0,0))) (h2:cur.size=cap) (h3:xs.length<=cap) (h4:cap<=maxLen) (hr:xs.all ko=true)
  (h6:∀(i β n:Nat),xs[i]? =some (.aB β 0 n)->fF ρ hp w β 0 n (cur.getD i undef)):Qv C ρ (FW.af (fX γ fr) γ (.aC γ 1 ty xs)) hp tmps w:=by
 have gd:∀(i:Nat)(x:PV),xs[i]? =some x->∃β n,x= .aB β 0 n/\5000000<=β:=fun i x hx=>La (Kax.1 hr _ (Kai hx));have:=h.ZS (w':=w) (γ:=γ) (b:=b) (e:=1) (ty:=ty) (xs':=xs) (cur':=cur) (cap:=cap) hB (by omega) aj rfl rfl rfl rfl bK (Ext.refl _ _) (fun _ _ h=>h) h1 (by omega) h3 h4
  (fun i x hx=>by obtain⟨β,n,rfl,_⟩:=gd i x hx;rfl)
  (fun i x hx j y hy=>by
   obtain⟨β,n,rfl,ae⟩:=gd i x hx;rw[show(PV.aB β 0 n).aS=[.aB β 0 n]from rfl]at hy;have hj:j<1:=by have:=(Kaf.1 hy).1;simpa using this
   obtain rfl:j=0:=by omega
   simp at hy;subst hy;rw[KbK,KaY];exact⟨JW (by omega),h6 i β n hx⟩)
 rwa[aea]at this
theorem HU{γ k cap:Nat}{ρ':Nat->Option Nat}{hp':HP}{b ty:Nat}{cur:Array Value}(hB:bJ γ=true)(h1:hp' γ=some ⟨1,ty,[],false⟩)(h2:ρ' γ=some b)(h3:w.heap[b]? =some (.cells cur ty (0,0)))(h4:cur.size=cap)(h5:cap<=maxLen)(h6:k<=cap):
  Qn C ρ' hp' w (.aI γ 0 k) (.slice (some ⟨b,0,none⟩) k cap):=
 ⟨hB,⟨1,ty,[],false⟩,b,cap,h1,h2,by simp,⟨cur,ty,h3,by simp[h4]⟩,by omega,h6⟩
theorem aeb{o:Oper}{t e:TypeId}{len n by_:Nat}{z:PV}{parts:Array (Nat×Operand)}{ps:List aX}{d:Nat}{Q:Exit->Act->World->Prop}(ho:o.op= .buildSlice t len parts)(hd:o.dst=some d)(aw:d<C.N)(bq:a.defers=[])(h:Qv C ρ fr hp a.tmps w)
  (hu:C.P.underlying t=some (.slice e)) (hz:l9 C.P e=some (n,by_,z)) (vU:parts.toList.map (·.1)=List.range len) (mD:z.cells.length=n) (eF:(parts.toList.mapM fun p=>cx p.2)=some ps)
  (Xx:nA (ps.map (ev fr))=true) (hv:Mz n e (ps.map (ev fr)) d fr hp K):o.wp C.P a w (dw C true w K) Q:=by
 obtain⟨rfl,hK⟩:=hv;obtain⟨ti,zv,i1,i2,i3,i4,i5⟩:=uV hz;obtain⟨m1,m2⟩:=oZ eF;obtain⟨u,rfl⟩:∃u,ps=[u]:=by
  match ps,Xx with
  | [],hb=>simp[nA]at hb
  | [u],_=>exact⟨u,rfl⟩
  |u::v::ps,hb=>simp[nA]at hb
 have gd:ko (ev fr u)=true:=by simpa[nA]using Xx
 obtain⟨β,m,iX,ae⟩:=La gd;obtain⟨⟨i,x⟩,zI⟩:∃p,parts.toList=[p]:=by
  match hq:parts.toList with
  | []=>rw[hq]at m1;simp at m1
  | [p]=>exact⟨p,rfl⟩
  |p::q::r=>rw[hq]at m1;simp at m1
 rw[zI]at vU m2;obtain rfl:len=1:=by have:=congrArg List.length vU;simpa using this.symm
 obtain rfl:i=0:=by simpa using vU
 have hxu:cx x=some u:=by obtain⟨x',bk,Ny⟩:=m2 0 u rfl;simp at bk;subst bk;exact Ny
 have hx:=cR h hxu;rw[iX]at hx;have xN:fF ρ hp w β 0 m (a.eval x):=hx;obtain⟨ad,m',c',hvx⟩:=xN.slice;have hN:=C.hN;have s0:iK d<5000000:=by unfold iK;omega
 have hB:bJ (iK d)=true:=JW (by unfold iK;omega);have hY:aR (iK d)=false:=RX (by unfold iK;omega);obtain⟨hs,he⟩:=h.B4 (iK d) hY CC ⟨1,e,[],false⟩ #[a.eval x] 1 _ (.inl rfl) (by simp) (by simp) (by rw[qo];omega) (by simp) (by simp) (by simp);have cS:=hs.I' (cur:= #[a.eval x]) (cap:=1) (xs:=[.aB β 0 m]) hB (by simp[Qj]) (kn _ _ _) (qj w _) (by simp) (by simp) (by rw[qo];omega) (by simp[ko,ae]) (fun i bA n' hi=>by
  match i,hi with
  |0,hi=>simp at hi;obtain⟨rfl,rfl⟩:=hi;exact AE h (Ext.alloc w _ _) (by omega) xN
  |i+1,hi=>simp at hi)
 rw[Kba,Kbu,iX]at hK;refine lZ (v:=.slice (some ⟨w.heap.size,0,none⟩) 1 1) ?_ (dw.ob hd aw bq cS (fun _=>he) (HU hB (by simp[Qj]) (kn _ _ _) (qj w _) (by simp) (by rw[qo];omega) (by omega)) hK);unfold execOp;have zG:(parts.map fun x=>match x with|(i,x)=>(i,a.eval x)).toList=[(0,a.eval x)]:=by simp[zI]
 simp only[ho,Instr.buildSlice,Kar,jJ hu,Kan,nt (show fa C.P e=some 1 by simp[fa,i1,i3]),zG];simp[Ka3,Kar,yd i1 i2,Instr.fill,hvx,Value.cells,newRow,show Array.range 1= #[0]from rfl]
theorem acT {o:Oper} {s x:Operand} {t e:TypeId} {n by_:Nat} {z:PV} {ps px:PV} {d:Nat} {Q:Exit->Act->World->Prop}
  (ho:o.op= .call { callee:=.builtin .append,args:= #[s,x],argTypes:= #[t,t] }) (hd:o.dst=some d) (aw:d<C.N) (bq:a.defers=[]) (h:Qv C ρ fr hp a.tmps w)
  (hu:C.P.underlying t=some (.slice e)) (hz:l9 C.P e=some (n,by_,z)) (mD:z.cells.length=n) (hs:Qn C ρ hp w ps (a.eval s)) (hx:Qn C ρ hp w px (a.eval x))
  (hv:w6 n by_ e ps px d fr hp K):o.wp C.P a w (dw C false w K) Q:=by
 obtain⟨ti,zv,i1,i2,i3,i4,i5⟩:=uV hz;have hN:=C.hN;have s0:iK d<5000000:=by unfold iK;omega
 have W9:bJ (iK d)=true:=JW (by unfold iK;omega);have hYd:aR (iK d)=false:=RX (by unfold iK;omega);unfold w6 at hv;split at hv
 ·rename_i δ;split at hv
  ·rename_i On ty' y atw;obtain⟨rfl,Fj,rfl,hv⟩:=hv;obtain⟨β,m,rfl,ae⟩:=La Fj;obtain⟨_,avF,b,cap,gδ,rδ,ex,_,_,_⟩:=hx;have EB:=h.cN On;rw[atw]at EB;obtain⟨_,_,b2,hb2,cur,DV,q1,q2,q3,q4,q5,q6,q7,q8,q9,_,z8⟩:=EB;rw[gδ]at q2;cases q2;rw[rδ]at q1;cases q1;rw[KcM]at ex;have dt:=z8 0 _ rfl 0 (.aB β 0 m) rfl;simp only[KcM,Kbh]at dt;have xN:fF ρ hp w β 0 m (cur.getD 0 undef):=dt.2;obtain⟨ad,m',c',IA⟩:=xN.slice;have h0s:0<cur.size:=by simp at q8;omega
   have qQ:w.cell? ⟨b,0,none⟩=some (cur.getD 0 undef):=og q6 h0s;obtain⟨u,ZA⟩:∃u,cur.getD 0 undef=u:=⟨_,rfl⟩
   rw[ZA]at xN IA qQ;have BI:∀(j:Nat)(v:Value),[u][j]? =some v->w.cell? ((⟨b,0,none⟩:Addr).add j)=some v:=fun j v hj=>by
    have hj0:j<1:=by have:=(Kaf.1 hj).1;simpa using this
    obtain rfl:j=0:=by omega
    simp at hj;subst hj;rw[KbZ,KaY];exact qQ
   have v5:zv.cells.size=1:=by have:=(uN (w:=w) (X:=aK C ρ hp) i5).cells.1;omega
   split at hv
   ·obtain⟨hb,hK⟩:=hv;have es:=hs.z7;have cH:=run_append_nil (P:=C.P) w t o.type e ti zv hu i1 i2 ⟨b,0,none⟩ 1 cap [u] (by simp[i3]) BI (by omega) (by omega) (by rw[i4];omega);have iY:=grownCap_ge w 1 0 e;have lJ:=grownCap_le_maxLen w 1 0 e (by rw[qo];omega);generalize grownCap w 1 0 e=G at cH iY lJ;have lK:([u].toArray++Builtin.zeroCells zv.cells (G-1)).size=G:=by simp[size_zeroCells,v5];omega
    have as5:([u].toArray++Builtin.zeroCells zv.cells (G-1)).size=G*1:=by omega
    have rT:([u].toArray++Builtin.zeroCells zv.cells (G-1)).getD 0 undef=u:=by rw[mK,if_pos (by simp),yf];rfl
    obtain⟨eu,_⟩:=h.B4 (iK d) hYd CC ⟨1,e,[],false⟩ ([u].toArray++Builtin.zeroCells zv.cells (G-1)) G _ (.inr rfl) as5 (by simp) lJ (by simp) (by simp) (by simp);have cS:=eu.I' (cap:=G) (xs:=[.aB β 0 m]) W9 (by simp[Qj]) (kn _ _ _) (qj w.drew _) lK (by simpa using iY) lJ (by simp[ko,ae]) (fun i bA n' hi=>by
     match i,hi with
     |0,hi=>simp at hi;obtain⟨rfl,rfl⟩:=hi;rw[rT];exact AE h ((Ext.drew w _).trans (Ext.alloc w.drew _ _)) (by omega) xN
     |i+1,hi=>simp at hi)
    exact lZ (wm ho es ex cH) (dw.ob hd aw bq cS (by simp) (HU W9 (by simp[Qj]) (kn _ _ _) (qj w.drew _) lK lJ iY) hK)
   ·rename_i γ k;split at hv
    ·rename_i bu ty2 xs atv;obtain⟨⟨rfl,awu,hY,rfl,rfl,ni,hby,EU⟩,⟨hb,aj,na⟩,hK⟩:=hv;obtain⟨hB,Ev,b1,H3,g1,g2,es,g4,g5,g6⟩:=hs;rw[aj]at g1;cases g1;have EB:=h.cN bu;rw[atv]at EB;obtain⟨_,_,b1',ax,nK,vC,p1,p2,p3,p4,p5,p6,p7,p8,p9,_,p11⟩:=EB;rw[aj]at p2;cases p2;rw[g2]at p1;cases p1;rw[KcM]at es;obtain⟨avp,awy,d1,d2⟩:=g4;rw[p6]at d1;cases d1;rw[p4,KbK,Kbh]at d2;rw[KbK]at p7;obtain rfl:vC=H3:=by omega
     have YR:∀(i bA n':Nat),xs[i]? =some (.aB bA 0 n')->fF ρ hp w bA 0 n' (nK.getD i undef):=fun i bA n' hi=>by have:=p11 i _ hi 0 (.aB bA 0 n') rfl;simp only[KbK,KaY]at this;exact this.2
     have Za:∀(i bA n':Nat),xs[i]? =some (.aB bA 0 n')->bA≠bu:=fun i bA n' hi=>by have:=Kax.1 ni _ (Kai hi);simp[ko]at this;omega
     have cU:(xs++[PV.aB β 0 m]).all ko=true:=by rw[List.all_append,ni];simp[ko,ae]
     have bE:=(h.own bu hb aj).dd;rw[g2]at bE;obtain⟨o1,o2,_⟩:=bE;replace o1:=Ctx.xm o1 hY;have tl:∀u'∈[u],u'.oneCell'=true:=by intro u' mC;simp at mC;subst mC;rw[IA];rfl
     by_cases BN:xs.length+1<=vC
     ·have cH:=run_append_room (P:=C.P) w t o.type ty2 ti hu i1 b1 xs.length vC nK p6 ⟨b,0,none⟩ 1 cap [u] (by simp[i3]) BI tl BN (by simp[i3];omega);rw[i3,KbK]at cH;have rS:xs.length+[u].length<=nK.size:=by simp;omega
      have je:=Cn (cur:=nK) (p:=xs.length) (cs:=[u]) rS;have eZ:=fun k hk=>Cl (cur:=nK) (p:=xs.length) (cs:=[u]) (k:=k) rS hk;generalize hW:(nK.toList.take xs.length++[u]++nK.toList.drop (xs.length+[u].length)).toArray=W at cH je eZ;have hE:Ext (fun c=>ρ bu=some c/\∃hb,hp bu=some hb/\hb.fz=false) w (w.setRow b1 W):=(Cs w b1 W).mono (fun i _ hi=>⟨hi▸g2,hb,aj,na⟩);have Nq:(w.setRow b1 W).heap[b1]? =some (.cells W ty2 (0,0)):=setRow_heap w b1 nK W ty2 _ p6;have eu:=h.B7 (w':=w.setRow b1 W) bu (some b1) ⟨1,ty2,[],false⟩ hY CC hE
       (fun c hc=>by cases hc;exact⟨o1,by simpa using o2,.inr ⟨g2,hb,aj,na⟩⟩) (by simp) (by simp) (by simp)
       (fun c hc=>by cases hc;exact⟨W,vC,Nq,by simp[je];omega,by simp,p9,by simp⟩)
      have cS:=eu.I' (cap:=vC) (xs:=xs++[.aB β 0 m]) hB (by simp[Qj]) (kn _ _ _) Nq (by omega) (by simpa using BN) p9 cU (fun i bA n' hi=>by
       rw[Ka2]at hi;by_cases jY:i<xs.length
       ·rw[if_pos jY]at hi;rw[eZ i (by omega),if_neg (by omega)];exact AE h hE (Za i bA n' hi) (YR i bA n' hi)
       ·rw[if_neg jY]at hi;have uq:i-xs.length<1:=by have:=(Kaf.1 hi).1;simpa using this
        obtain rfl:i=xs.length:=by omega
        rw[KbA]at hi;simp at hi;obtain⟨rfl,rfl⟩:=hi;rw[eZ _ (by omega),if_pos (by simp),KbA];exact AE h hE (by omega) xN)
      exact lZ (wm ho es ex cH) (dw.ob hd aw bq cS (by simp) (HU hB (by simp[Qj]) (kn _ _ _) Nq (by omega) p9 BN) hK)
     ·have ir:(nK.toList.take xs.length).length=xs.length:=by simp;omega
      have holds:∀(j:Nat)(v:Value),(nK.toList.take xs.length)[j]? =some v->w.cell? ((⟨b1,0,none⟩:Addr).add j)=some v:=fun j v hj=>by
       have et:j<xs.length:=by have:=(Kaf.1 hj).1;omega
       rw[KaN et]at hj;rw[KbZ,Kbh,og p6 (by omega),Gn nK j v hj]
      have cH:=run_append_grow (P:=C.P) w t o.type ty2 ti zv hu i1 i2 ⟨b1,0,none⟩ xs.length vC (nK.toList.take xs.length) (by rw[ir,i3,KbK]) holds ⟨b,0,none⟩ 1 cap [u] (by simp[i3]) BI
       (by omega) (by omega) (growslice_fits (by omega) (by rw[i4];exact hby))
      have iY:=grownCap_ge w (xs.length+1) vC ty2;have lJ:=grownCap_le_maxLen w (xs.length+1) vC ty2 (by rw[qo];exact EU);generalize grownCap w (xs.length+1) vC ty2=G at cH iY lJ;have lK:((nK.toList.take xs.length).toArray++[u].toArray++Builtin.zeroCells zv.cells (G-(xs.length+1))).size=G:=by simp only[Kcp,Kb9,ir,size_zeroCells,v5,KaT,Kbk];omega
      have kX:∀i,i<xs.length+1->((nK.toList.take xs.length).toArray++[u].toArray++Builtin.zeroCells zv.cells (G-(xs.length+1))).getD i undef=if i<xs.length then nK.getD i undef else u:=fun i hi=>by
       rw[mK,if_pos (by simp only[Kcp,Kb9,ir,KaT,Kbk];omega),mK,Kb9,ir];by_cases jY:i<xs.length
       ·rw[if_pos jY,if_pos jY,yf,Kad,KaN jY];simp[KaX]
       ·rw[if_neg jY,if_neg jY,yf,show i-xs.length=0 by omega];rfl
      generalize hW:(nK.toList.take xs.length).toArray++[u].toArray++Builtin.zeroCells zv.cells (G-(xs.length+1))=W at cH lK kX;obtain⟨eu,_⟩:=h.B4 bu hY CC ⟨1,ty2,[],false⟩ W G _ (.inr rfl) (by simp[lK]) (by simp) lJ (by simp) (by simp) (by simp);have hE:Ext (fun c=>ρ bu=some c/\∃hb,hp bu=some hb/\hb.fz=false) w (w.drew.alloc (.cells W ty2)):=(Ext.drew w _).trans (Ext.alloc w.drew _ _);have cS:=eu.I' (cap:=G) (xs:=xs++[.aB β 0 m]) hB (by simp[Qj]) (kn _ _ _) (qj w.drew _) lK (by simpa using iY) lJ cU (fun i bA n' hi=>by
       rw[Ka2]at hi;by_cases jY:i<xs.length
       ·rw[if_pos jY]at hi;rw[kX i (by omega),if_pos jY];exact AE h hE (Za i bA n' hi) (YR i bA n' hi)
       ·rw[if_neg jY]at hi;have uq:i-xs.length<1:=by have:=(Kaf.1 hi).1;simpa using this
        obtain rfl:i=xs.length:=by omega
        rw[KbA]at hi;simp at hi;obtain⟨rfl,rfl⟩:=hi;rw[kX _ (by omega),if_neg (by omega)];exact AE h hE (by omega) xN)
      exact lZ (wm ho es ex cH) (dw.ob hd aw bq cS (by simp) (HU hB (by simp[Qj]) (kn _ _ _) (qj w.drew _) lK lJ iY) hK)
    ·exact hv.elim
   ·exact hv.elim
  ·exact hv.elim
 ·exact hv.elim
theorem aec{o:Oper}{t e:TypeId}{len n by_:Nat}{z:PV}{parts:Array (Nat×Operand)}{ps:List aX}{d:Nat}{Q:Exit->Act->World->Prop}(ho:o.op= .buildSlice t len parts)(hd:o.dst=some d)(aw:d<C.N)(bq:a.defers=[])(h:Qv C ρ fr hp a.tmps w)
  (hu:C.P.underlying t=some (.slice e)) (hz:l9 C.P e=some (n,by_,z)) (vU:parts.toList.map (·.1)=List.range len) (Zt:len*n<=16777216) (mD:z.cells.length=n) (eF:(parts.toList.mapM fun p=>cx p.2)=some ps)
  (hv:mu n e (ps.map (ev fr)) d fr hp K):o.wp C.P a w (dw C true w K) Q:=by
 unfold mu at hv;split at hv
 ·rename_i hb;exact aeb ho hd aw bq h hu hz vU mD eF hb hv
 ·exact afV ho hd aw bq h hu hz vU Zt mD eF hv
theorem acU{o:Oper}{s x:Operand}{t e:TypeId}{n by_:Nat}{z:PV}{ps px:PV}{d:Nat}{Q:Exit->Act->World->Prop}
  (ho:o.op= .call { callee:=.builtin .append,args:= #[s,x],argTypes:= #[t,t] }) (hd:o.dst=some d) (aw:d<C.N) (bq:a.defers=[]) (h:Qv C ρ fr hp a.tmps w)
  (hu:C.P.underlying t=some (.slice e)) (hz:l9 C.P e=some (n,by_,z)) (mD:z.cells.length=n) (hs:Qn C ρ hp w ps (a.eval s)) (hx:Qn C ρ hp w px (a.eval x))
  (hv:ia n by_ e ps px d fr hp K):o.wp C.P a w (dw C false w K) Q:=
 ad8 ho hd aw bq h hu hz mD hs hx (fun _ hn=>acT ho hd aw bq h hu hz mD hs hx hn) hv
end Go.FW
namespace Go.FW
open Go
variable {C : Ctx} {ρ : Nat -> Option Nat} {fr : Fr} {hp : HP} {w : World} {a : Act} {K : Qh}
theorem Q58 {P : Program} {g : FuncId} (hg : (P.funcs[g]?).any (fun fn => fn.body.isSome && fn.name != "runtime.NumGoroutine") = true) (args : Array Value) (w : World) :
  (callFunc g args).run P w= .ok (.enter g args) w:=by
 cases hf:P.funcs[g]? with
 |none=>simp[hf]at hg
 |some fn=>
  simp only[hf,Option.any_some,KaC,bne_iff_ne,ne_eq]at hg;obtain⟨h1,h2⟩:=hg;have h3:fn.body.isNone=false:=by cases hb:fn.body<;>simp[hb]at h1⊢
  have h4 : (fn.name == "runtime.NumGoroutine") = false := by simpa using h2
  have hn:¬(fn.body=none):=fun he=>by simp[he]at h1
  unfold callFunc;simp[hf,h2,hn]
theorem acV{o:Oper}{f:Operand}{args:Array Operand}{ts:Array TypeId}{pf:aX}{bx:List aX}{pr:Bool}{Q:Exit->Act->World->Prop}
  (ho:o.op= .call { callee:=.value f,args:=args,argTypes:=ts }) (aw:∀d,o.dst=some d->d<C.N) (bq:a.defers=[]) (h:Qv C ρ fr hp a.tmps w)
  (hf:cx f=some pf) (cK:args.toList.mapM cx=some bx) (hv:gl C pr (ev fr pf) (bx.map (ev fr)) o.dst fr hp K):o.wp C.P a w (dw C pr w K) Q:=by
 have il:=cR h hf;unfold gl at hv;split at hv
 ·rename_i g first cap iX
  rw[iX]at il;obtain⟨hg,as2⟩:=hv;obtain⟨fv,cv,ef,h1,h2,h3,h4⟩:=il;obtain⟨m1,m2⟩:=L8 h cK;have ET:(args.toList.map a.eval).toArray=args.map a.eval:=Array.ext' (by simp);rw[ET]at m2;have hc:=as2 ρ a.tmps w fv cv (args.map a.eval) aw h h1 h2 (by simpa using m1.symm) h3 h4 m2;have hex:(execOp a.eval o).run C.P w= .ok (.enter g (fv++args.map a.eval++cv)) w:=by unfold execOp;simp only[ho,resolve,Kar,Ka3,Kan,ef,Deferred.ofValue,invoke];rw[Q58 hg]
  unfold Oper.wp;rw[hex];refine hc.mono fun e w' hp'=>?_;obtain⟨v,aG,hp',rfl,hs,hx,hK⟩:=hp';refine⟨by rw[yh];exact bq,⟨aG,hp',?_,hK⟩,hx⟩;cases hd:o.dst with
  |some d=>rw[hd]at hs;exact hs
  |none=>rw[hd]at hs;exact hs
 ·exact hv.elim
theorem wx{α:Type}{xs:Array α}{l:List α}(h:xs.toList=l):xs=l.toArray:=by subst h;simp
theorem CX{P:Program}{t e:TypeId}(h:ve P t=some e):P.underlying t=some (.slice e):=by
 unfold ve at h;split at h
 ·rename_i hq;cases h;exact hq
 ·cases h
theorem VP{dr:Bool}{o:Oper}(cL:(gV C.P dr o).cls=0)(aw:∀d,o.dst=some d->d<C.N)(h:Qv C ρ fr hp a.tmps w)(hv:bP C (gV C.P dr o) fr hp K):Qz C ρ o a w K:=by
 unfold gV at cL hv;cases aa:oV C.P dr o with
 |none=>rw[aa]at hv;exact hv.elim
 | some so=>
  rw[aa]at cL hv;simp only[Kbb]at cL hv;unfold oV at aa;split at aa
  case h_1 x d hop hd=>simp only[Kaa]at aa;obtain⟨y,hy,rfl⟩:=aa;exact P7 (.inl hop) hd (aw d hd) h (cR h hy) hv
  case h_2 x d hop hd=>simp only[Kaa]at aa;obtain⟨y,hy,rfl⟩:=aa;exact P7 (.inr hop) hd (aw d hd) h (cR h hy) hv
  case h_3 c x y d hop hd=>
   simp only[Kab,Kaa]at aa;obtain⟨pc,hc,px,hx,py,hy,rfl⟩:=aa;exact acO hop hd (aw d hd) h (cR h hc) (cR h hx) (cR h hy) hv
  case h_4 op t x y t2 d hop hd=>
   simp only[Kab,Kaa]at aa;obtain⟨px,hx,py,hy,rfl⟩:=aa;unfold Cb at hv;split at hv
   ·rename_i ng pT;split at pT
    ·rename_i cS;exact adA hop pT cS hd (aw d hd) h (cR h hx) (cR h hy) hv
    ·cases pT
   split at hv
   ·rename_i ng pT;split at pT
    ·rename_i cS;exact ady hop pT cS hd (aw d hd) h (cR h hx) (cR h hy) hv
    ·cases pT
   refine adu hop hd (aw d hd) h (cR h hx) (cR h hy) (fun hb=>?_) hv;split at hb
   ·assumption
   ·cases hb
  case h_5 op t x d hop hd=>simp only[Kaa]at aa;obtain⟨y,hy,rfl⟩:=aa;exact afN hop hd (aw d hd) h (cR h hy) hv
  case h_6 s t x d hop hd=>
   split at aa
   ·rename_i ds k hS hT;simp only[Kaa]at aa;obtain⟨y,hy,rfl⟩:=aa;exact acN hop hd (aw d hd) h hS hT (cR h hy) hv
   ·cases aa
  case h_7 t x i d hop hd=>
   simp only[Kab]at aa;obtain⟨px,hx,pi,hi,aa⟩:=aa;split at aa
   ·rename_i e hu;simp only[Kaa]at aa;obtain⟨n,hn,rfl⟩:=aa;exact ad1 hop hd (aw d hd) h hu hn (cR h hx) (cR h hi) hv
   ·rename_i len e hu;simp only[Kaa]at aa;obtain⟨n,hn,rfl⟩:=aa;exact acP hop hd (aw d hd) h hu hn (cR h hx) (cR h hi) hv
   ·cases aa
  case h_8 t x i d hop hd=>
   simp only[Kab]at aa;obtain⟨px,hx,pi,hi,aa⟩:=aa;split at aa
   ·rename_i len e hu;simp only[Kab,Kaa]at aa;obtain⟨n,hn,ag,kU,rfl⟩:=aa;exact ad4 hop hd (aw d hd) h hu hn kU (cR h hx) (cR h hi) hv
   ·rename_i hu;cases aa;exact ad3 hop hd (aw d hd) h hu (cR h hx) (cR h hi) hv
   ·cases aa
  case h_9 t x j d hop hd=>
   simp only[Kab]at aa;obtain⟨px,hx,aa⟩:=aa;split at aa
   ·rename_i fs hu;simp only[Kab]at aa;obtain⟨f,hf,n,hn,aa⟩:=aa;split at aa
    ·cases aa
    ·rename_i lQ;simp only[KaH]at aa;subst aa;exact ad2 hop hd (aw d hd) h hu hf hn lQ (cR h hx) hv
   ·cases aa
  case h_10 t x j d hop hd=>
   simp only[Kab]at aa;obtain⟨px,hx,aa⟩:=aa;split at aa
   ·rename_i fs hu;simp only[Kab,Kaa]at aa;obtain⟨f,hf,n,hn,ag,kU,rfl⟩:=aa;exact acQ hop hd (aw d hd) h hu hf hn kU (cR h hx) hv
   ·cases aa
  case h_17 t parts d hop hd=>
   simp only[Kab,Kaa]at aa;obtain⟨⟨n,by_,z⟩,hz,ps,eF,rfl⟩:=aa;simp only[bP,oA]at hv;split at hv
   ·exact acS hop hd (aw d hd) h hz eF hv
   ·exact ad5 hop hd (aw d hd) h hz eF hv
  case h_18 t x lo hi m d hop hd=>
   simp only[Kab,Kaa]at aa;obtain⟨px,hx,Jd,nb,Fu,rU,pm,hm,e,he,n,hn,rfl⟩:=aa;have hu:C.P.underlying t=some (.slice e):=by
    unfold ve at he;split at he
    ·rename_i hq;cases he;exact hq
    ·cases he
   exact afR hop hd (aw d hd) h hu hn (cR h hx) nb rU hm hv
  case h_19 x i d hop hd=>simp only[Kaa]at aa;obtain⟨y,hy,rfl⟩:=aa;exact adz hop hd (aw d hd) h (cR h hy) hv
  case h_20 f first cap d hop hd=>
   simp only[Kab,Kaa]at aa;obtain⟨pf,h1,pc,h2,rfl⟩:=aa;exact afS hop hd (aw d hd) h h1 h2 hv
  case h_11=>simp only[Kab,Kaa]at aa;obtain⟨_,_,_,_,_,_,rfl⟩:=aa;cases cL
  case h_12=>simp only[Kab,Kaa]at aa;obtain⟨_,_,_,_,_,_,rfl⟩:=aa;cases cL
  case h_13=>simp only[Kab,Kaa]at aa;obtain⟨_,_,_,_,rfl⟩:=aa;cases cL
  case h_14=>simp only[Kaa]at aa;obtain⟨_,_,rfl⟩:=aa;cases cL
  case h_15=>simp only[Kab,Kaa]at aa;obtain⟨_,_,_,_,_,_,_,_,rfl⟩:=aa;cases cL
  case h_16=>
   simp only[Kab]at aa;obtain⟨_,_,_,_,aa⟩:=aa;split at aa
   ·simp only[Kaa]at aa;obtain⟨_,_,rfl⟩:=aa;cases cL
   ·cases aa
  case h_21 hop=>simp only[Kaa]at aa;obtain⟨y,hy,rfl⟩:=aa;exact acR hop aw h (cR h hy) hv
  case h_22 c hop=>
   obtain⟨callee,args,ts⟩:=c;split at aa
   ·simp only[Kab,Kaa]at aa;obtain⟨_,_,_,_,rfl⟩:=aa;cases cL
   ·rename_i x t d sZ cK nZ hd;obtain rfl:args= #[x]:=wx cK;obtain rfl:ts= #[t]:=wx nZ;cases sZ;split at aa
    ·rename_i hs;simp only[Kaa]at aa;obtain⟨y,hy,rfl⟩:=aa;exact adx hop hd (aw d hd) h (cR h hy) hs hv
    simp only[Kab,Kaa]at aa;obtain⟨e,he,y,hy,rfl⟩:=aa;exact adw hop hd (aw d hd) h (cR h hy) (CX he) hv
   ·rename_i x y d sZ cK hd;simp only[Kab,Kaa]at aa;obtain⟨px,hx,py,hy,rfl⟩:=aa;obtain rfl:args= #[x,y]:=wx cK;cases sZ;exact afL hop hd (aw d hd) h (cR h hx) (cR h hy) hv
   ·rename_i x y d sZ cK hd;simp only[Kab,Kaa]at aa;obtain⟨px,hx,py,hy,rfl⟩:=aa;obtain rfl:args= #[x,y]:=wx cK;cases sZ;exact afM hop hd (aw d hd) h (cR h hx) (cR h hy) hv
   ·simp only[Kab]at aa;obtain⟨_,_,_,_,_,_,aa⟩:=aa;split at aa
    ·simp only[Kab]at aa;obtain⟨_,_,aa⟩:=aa;split at aa
     ·cases aa;cases cL
     ·cases aa
    ·cases aa
   ·simp only[Kab]at aa;obtain⟨_,_,_,_,_,_,aa⟩:=aa;split at aa
    ·simp only[Kaa]at aa;obtain⟨_,_,rfl⟩:=aa;cases cL
    ·cases aa
   ·cases aa
  case h_23=>cases aa
theorem VQ{dr:Bool}{o:Oper}(cL:(gV C.P dr o).cls=1)(aw:∀d,o.dst=some d->d<C.N)(h:Qv C ρ fr hp a.tmps w)(hv:bP C (gV C.P dr o) fr hp K):DB C ρ o a w K:=by
 unfold gV at cL hv;cases aa:oV C.P dr o with
 |none=>rw[aa]at hv;exact hv.elim
 | some so=>
  rw[aa]at cL hv;simp only[Kbb]at cL hv;unfold oV at aa;split at aa
  case h_11 t x d hop hd=>
   simp only[Kab,Kaa]at aa;obtain⟨px,hx,n,hn,ag,kU,rfl⟩:=aa;exact afQ hop hd (aw d hd) h hn kU (cR h hx) hv
  case h_1=>simp only[Kaa]at aa;obtain⟨_,_,rfl⟩:=aa;cases cL
  case h_2=>simp only[Kaa]at aa;obtain⟨_,_,rfl⟩:=aa;cases cL
  case h_3=>simp only[Kab,Kaa]at aa;obtain⟨_,_,_,_,_,_,rfl⟩:=aa;cases cL
  case h_4=>simp only[Kab,Kaa]at aa;obtain⟨_,_,_,_,rfl⟩:=aa;unfold Cb at cL;split at cL<;>first|(cases cL;done)|(split at cL<;>cases cL)
  case h_5=>simp only[Kaa]at aa;obtain⟨_,_,rfl⟩:=aa;cases cL
  case h_6=>split at aa<;>first|cases aa|(simp only[Kaa]at aa;obtain⟨_,_,rfl⟩:=aa;cases cL)
  case h_7=>
   simp only[Kab]at aa;obtain⟨_,_,_,_,aa⟩:=aa;split at aa<;>first|cases aa|(simp only[Kaa]at aa;obtain⟨_,_,rfl⟩:=aa;cases cL)
  case h_8=>
   simp only[Kab]at aa;obtain⟨_,_,_,_,aa⟩:=aa;split at aa<;>first|(simp only[Kab,Kaa]at aa;obtain⟨_,_,_,_,rfl⟩:=aa;cases cL)|(cases aa;done)|(cases aa;cases cL)
  case h_9=>
   simp only[Kab]at aa;obtain⟨_,_,aa⟩:=aa;split at aa
   ·simp only[Kab]at aa;obtain⟨_,_,_,_,aa⟩:=aa;split at aa<;>first|(cases aa;done)|(simp only[KaH]at aa;subst aa;cases cL)
   ·cases aa
  case h_10=>
   simp only[Kab]at aa;obtain⟨_,_,aa⟩:=aa;split at aa<;>first|(cases aa;done)|(simp only[Kab,Kaa]at aa;obtain⟨_,_,_,_,_,_,rfl⟩:=aa;cases cL)
  case h_12=>simp only[Kab,Kaa]at aa;obtain⟨_,_,_,_,_,_,rfl⟩:=aa;cases cL
  case h_13=>simp only[Kab,Kaa]at aa;obtain⟨_,_,_,_,rfl⟩:=aa;cases cL
  case h_14=>simp only[Kaa]at aa;obtain⟨_,_,rfl⟩:=aa;cases cL
  case h_15=>simp only[Kab,Kaa]at aa;obtain⟨_,_,_,_,_,_,_,_,rfl⟩:=aa;cases cL
  case h_16=>
   simp only[Kab]at aa;obtain⟨_,_,_,_,aa⟩:=aa;split at aa
   ·simp only[Kaa]at aa;obtain⟨_,_,rfl⟩:=aa;cases cL
   ·cases aa
  case h_17=>simp only[Kab,Kaa]at aa;obtain⟨_,_,_,_,rfl⟩:=aa;cases cL
  case h_18=>simp only[Kab,Kaa]at aa;obtain⟨_,_,_,_,_,_,_,_,_,_,_,_,rfl⟩:=aa;cases cL
  case h_19=>simp only[Kaa]at aa;obtain⟨_,_,rfl⟩:=aa;cases cL
  case h_20=>simp only[Kab,Kaa]at aa;obtain⟨_,_,_,_,rfl⟩:=aa;cases cL
  case h_21=>simp only[Kaa]at aa;obtain⟨_,_,rfl⟩:=aa;cases cL
  case h_22=>
   split at aa
   ·simp only[Kab,Kaa]at aa;obtain⟨_,_,_,_,rfl⟩:=aa;cases cL
   ·split at aa
    ·simp only[Kaa]at aa;obtain⟨_,_,rfl⟩:=aa;cases cL
    ·simp only[Kab,Kaa]at aa;obtain⟨_,_,_,_,rfl⟩:=aa;cases cL
   ·simp only[Kab,Kaa]at aa;obtain⟨_,_,_,_,rfl⟩:=aa;cases cL
   ·simp only[Kab,Kaa]at aa;obtain⟨_,_,_,_,rfl⟩:=aa;cases cL
   ·simp only[Kab]at aa;obtain⟨_,_,_,_,_,_,aa⟩:=aa;split at aa
    ·simp only[Kab]at aa;obtain⟨_,_,aa⟩:=aa;split at aa
     ·cases aa;cases cL
     ·cases aa
    ·cases aa
   ·simp only[Kab]at aa;obtain⟨_,_,_,_,_,_,aa⟩:=aa;split at aa
    ·simp only[Kaa]at aa;obtain⟨_,_,rfl⟩:=aa;cases cL
    ·cases aa
   ·cases aa
  case h_23=>cases aa
theorem Qz.wp{o:Oper}{two:Bool}{Q:Exit->Act->World->Prop}(bq:a.defers=[])(h:Qz C ρ o a w K):o.wp C.P a w (dw C two w K) Q:=by obtain⟨v,hr,aG,hp',hs,hK⟩:=h;exact lZ (hr w) ⟨by rw[yh];exact bq,⟨aG,hp',⟨ρ,hs⟩,hK⟩,fun _=>Ext.refl _ _⟩
theorem DB.wp{o:Oper}{two:Bool}{Q:Exit->Act->World->Prop}(bq:a.defers=[])(h:DB C ρ o a w K):o.wp C.P a w (dw C two w K) Q:=by obtain⟨v,b,_,hr,aG,hp',hs,hK⟩:=h;exact lZ (hr w rfl) ⟨by rw[yh];exact bq,⟨aG,hp',⟨ρ,hs⟩,hK⟩,fun _=>Ext.refl _ _⟩
theorem dw.mono{two aah:Bool}{a':Act}{w':World}(h2:aah=true->two=true)(h:dw C two w K a' w'):dw C aah w K a' w':=⟨h.1,h.2.1,fun hh=>h.2.2 (h2 hh)⟩
theorem afY{dr:Bool}{o:Oper}{Q:Exit->Act->World->Prop}(aw:∀d,o.dst=some d->d<C.N)(bq:a.defers=[])(h:Qv C ρ fr hp a.tmps w)(hv:bP C (gV C.P dr o) fr hp K):
  o.wp C.P a w (dw C (!(gV C.P dr o).kv) w K) Q:=by
 by_cases h0:(gV C.P dr o).cls=0
 ·exact(VP h0 aw h hv).wp bq
 by_cases h1:(gV C.P dr o).cls=1
 ·exact(VQ h1 aw h hv).wp bq
 unfold gV at h0 h1 hv⊢;cases aa:oV C.P dr o with
 |none=>rw[aa]at hv;exact hv.elim
 | some so=>
  rw[aa]at h0 h1 hv;simp only[Kbb]at h0 h1 hv⊢;have fin:∀ {two:Bool},(so.kv=false->two=true)->o.wp C.P a w (dw C two w K) Q->o.wp C.P a w (dw C (!so.kv) w K) Q:=fun h2 hw=>
   Oper.wp_mono (fun a' w' hA=>hA.mono (fun hh=>h2 (by simpa using hh))) hw
  unfold oV at aa;split at aa
  case h_12 t x y hop hd=>
   simp only[Kab,Kaa]at aa;obtain⟨px,hx,py,hy,n,hn,rfl⟩:=aa;exact fin (by simp[cO.kv]) (afX hop hd bq h hn (cR h hx) (cR h hy) hv)
  case h_13 t x d hop hd=>
   simp only[Kab,Kaa]at aa;obtain⟨px,hx,n,hn,rfl⟩:=aa;exact fin (fun _=>rfl) (ad6 hop hd (aw d hd) bq h (cR h hx) hv)
  case h_14 t d hop hd=>
   simp only[Kaa]at aa;obtain⟨⟨n,by_,z⟩,hz,rfl⟩:=aa;obtain⟨ti,zv,i1,i2,_,_,i5⟩:=uV hz;exact fin (fun _=>rfl) (Q9m hop hd (aw d hd) bq h i1 i2 i5 hv)
  case h_15 t l c d hop hd=>
   simp only[Kab,Kaa]at aa;obtain⟨pl,hl,pc,hc,e,he,⟨n,by_,z⟩,hz,rfl⟩:=aa;exact fin (fun _=>rfl) (afU hop hd (aw d hd) bq h (CX he) hz (cR h hl) (cR h hc) hv)
  case h_16 t len parts d hop hd=>
   simp only[Kab]at aa;obtain⟨e,he,⟨n,by_,z⟩,hz,aa⟩:=aa;split at aa
   ·rename_i Ey;simp only[Kaa]at aa;obtain⟨ps,eF,rfl⟩:=aa;exact fin (fun _=>rfl) (aec hop hd (aw d hd) bq h (CX he) hz Ey.1 Ey.2.1 Ey.2.2 eF hv)
   ·cases aa
  case h_22 c hop=>
   obtain⟨callee,args,ts⟩:=c;split at aa
   ·rename_i f sZ;simp only[Kab,Kaa]at aa;obtain⟨pf,hf,bx,cK,rfl⟩:=aa;cases sZ;exact fin (two:=dr&& !SY C.P pf) (fun hh=>by simpa[cO.kv]using hh) (acV hop aw bq h hf cK hv)
   ·split at aa
    ·simp only[Kaa]at aa;obtain⟨_,_,rfl⟩:=aa;exact absurd rfl h0
    ·simp only[Kab,Kaa]at aa;obtain⟨_,_,_,_,rfl⟩:=aa;exact absurd rfl h0
   ·simp only[Kab,Kaa]at aa;obtain⟨_,_,_,_,rfl⟩:=aa;exact absurd rfl h0
   ·simp only[Kab,Kaa]at aa;obtain⟨_,_,_,_,rfl⟩:=aa;exact absurd rfl h0
   ·rename_i s x t u d sZ cK nZ hd;simp only[Kab]at aa;obtain⟨ps,hs,px,hx,e,he,aa⟩:=aa;split at aa
    ·rename_i NT;subst NT;simp only[Kab]at aa;obtain⟨⟨n,by_,z⟩,hz,aa⟩:=aa;split at aa
     ·rename_i mD;simp only[KaH]at aa;subst aa;obtain rfl:args= #[s,x]:=wx cK;obtain rfl:ts= #[t,t]:=wx nZ;cases sZ;exact fin (by simp[cO.kv]) (acU hop hd (aw d hd) bq h (CX he) hz mD (cR h hs) (cR h hx) hv)
     ·cases aa
    ·cases aa
   ·rename_i s x t u d sZ cK nZ hd;simp only[Kab]at aa;obtain⟨ps,hs,px,hx,e,he,aa⟩:=aa;split at aa
    ·rename_i NT;subst NT;simp only[Kaa]at aa;obtain⟨n,hn,rfl⟩:=aa;obtain rfl:args= #[s,x]:=wx cK;obtain rfl:ts= #[t,t]:=wx nZ;cases sZ;exact fin (by simp[cO.kv]) (ad9 hop hd (aw d hd) bq h (CX he) hn (cR h hs) (cR h hx) hv)
    ·cases aa
   ·cases aa
  all_goals exfalso
  case h_1=>simp only[Kaa]at aa;obtain⟨_,_,rfl⟩:=aa;exact h0 rfl
  case h_2=>simp only[Kaa]at aa;obtain⟨_,_,rfl⟩:=aa;exact h0 rfl
  case h_3=>simp only[Kab,Kaa]at aa;obtain⟨_,_,_,_,_,_,rfl⟩:=aa;exact h0 rfl
  case h_4=>simp only[Kab,Kaa]at aa;obtain⟨_,_,_,_,rfl⟩:=aa;exact h0 (by unfold Cb;split<;>first|rfl|(split<;>rfl))
  case h_5=>simp only[Kaa]at aa;obtain⟨_,_,rfl⟩:=aa;exact h0 rfl
  case h_6=>split at aa<;>first|(cases aa;done)|(simp only[Kaa]at aa;obtain⟨_,_,rfl⟩:=aa;exact h0 rfl)
  case h_7=>
   simp only[Kab]at aa;obtain⟨_,_,_,_,aa⟩:=aa;split at aa<;>first|(cases aa;done)|(simp only[Kaa]at aa;obtain⟨_,_,rfl⟩:=aa;exact h0 rfl)
  case h_8=>
   simp only[Kab]at aa;obtain⟨_,_,_,_,aa⟩:=aa;split at aa<;>first|(cases aa;done)|(simp only[Kab,Kaa]at aa;obtain⟨_,_,_,_,rfl⟩:=aa;exact h0 rfl)|(cases aa;exact h0 rfl)
  case h_9=>
   simp only[Kab]at aa;obtain⟨_,_,aa⟩:=aa;split at aa
   ·simp only[Kab]at aa;obtain⟨_,_,_,_,aa⟩:=aa;split at aa<;>first|(cases aa;done)|(simp only[KaH]at aa;subst aa;exact h0 rfl)
   ·cases aa
  case h_10=>
   simp only[Kab]at aa;obtain⟨_,_,aa⟩:=aa;split at aa<;>first|(cases aa;done)|(simp only[Kab,Kaa]at aa;obtain⟨_,_,_,_,_,_,rfl⟩:=aa;exact h0 rfl)
  case h_11=>simp only[Kab,Kaa]at aa;obtain⟨_,_,_,_,_,_,rfl⟩:=aa;exact h1 rfl
  case h_17=>simp only[Kab,Kaa]at aa;obtain⟨_,_,_,_,rfl⟩:=aa;exact h0 rfl
  case h_18=>simp only[Kab,Kaa]at aa;obtain⟨_,_,_,_,_,_,_,_,_,_,_,_,rfl⟩:=aa;exact h0 rfl
  case h_19=>simp only[Kaa]at aa;obtain⟨_,_,rfl⟩:=aa;exact h0 rfl
  case h_20=>simp only[Kab,Kaa]at aa;obtain⟨_,_,_,_,rfl⟩:=aa;exact h0 rfl
  case h_21=>simp only[Kaa]at aa;obtain⟨_,_,rfl⟩:=aa;exact h0 rfl
  case h_23=>cases aa
end Go.FW
namespace Go.FW
open Go
variable {C : Ctx} {ρ : Nat -> Option Nat} {fr : Fr} {hp : HP} {w : World} {a : Act} {K : Qh}
theorem afZ(h:Qv C ρ fr hp a.tmps w){s:Nat}(hs:s<C.N):a.tmps[s]? =some (a.tmps.getD s undef):=by
 have:s<a.tmps.size:=by rw[h.sz];exact hs
 simp[Array.getD,this]
theorem Vb{dr:Bool}{ops:Array Oper}{o:Oper}{g:yb}(h:Qv C ρ fr hp a.tmps w)(hc:uP C.P C.N dr ops o=some g)(hv:rJ C g.g g.o fr hp K):
  (∀d,o.dst=some d->d<C.N)/\g.o=gV C.P dr o/\
  ((Region.wanted o (yielded ops a.tmps)=true/\bP C g.o fr hp K)∨(Region.wanted o (yielded ops a.tmps)=false/\lA g.o fr hp K)):=by
 unfold uP at hc;split at hc
 ·rename_i cU;have aw:∀d,o.dst=some d->d<C.N:=fun d hd=>by rw[hd]at cU;simpa using cU
  cases hg:o.guard with
  |none=>rw[hg]at hc;cases hc;exact⟨aw,rfl,.inl ⟨by simp[Region.wanted,hg],hv⟩⟩
  | some jw=>
   obtain⟨j,want⟩:=jw;rw[hg]at hc;simp only at hc;split at hc
   ·rename_i s hs;split at hc
    ·rename_i hsN;cases hc;refine⟨aw,rfl,?_⟩;have ht:=afZ h hsN;have hr:=h.cN s;simp only[rJ]at hv;split at hv
     ·rename_i t kW;rw[kW]at hr;have hb:=hr.Bs;have hy:yielded ops a.tmps j=some t:=by simp only[yielded,hs,Kcv,ht,hb]
      have zL:∀b,t=b->af fr s (.bool b)=fr:=fun b ax=>by
       funext i;unfold af;split
       ·rename_i hi;subst hi;subst ax;exact kW.symm
       ·rfl
      by_cases hw:t=want
      ·refine .inl ⟨by simp[Region.wanted,hg,hy,hw],?_⟩;have:=hv.1 hw
       rwa[zL want hw]at this
      ·have pZ:t= !want:=by cases t<;>cases want<;>simp_all
       refine .inr ⟨by simp[Region.wanted,hg,hy,hw],?_⟩;have:=hv.2 pZ
       rwa[zL _ pZ]at this
     ·rename_i kW;rw[kW]at hr;obtain⟨vs,ev,dM,_⟩:=hr;have zO:vs= #[]:=Kb0 (by simpa using dM);have hy:yielded ops a.tmps j=none:=by simp only[yielded,hs,Kcv,ht,ev]
      exact .inr ⟨by simp[Region.wanted,hg,hy],hv⟩
     ·exact hv.elim
    ·cases hc
   ·cases hc
 ·cases hc
theorem Te{dr:Bool}{o:Oper}:(gV C.P dr o).dst=o.dst:=by
 unfold gV;cases aa:oV C.P dr o with
 |none=>rfl
 | some so=>
  simp only[Kbb];unfold oV at aa;split at aa
  case h_1 hd=>simp only[Kaa]at aa;obtain⟨_,_,rfl⟩:=aa;exact hd.symm
  case h_2 hd=>simp only[Kaa]at aa;obtain⟨_,_,rfl⟩:=aa;exact hd.symm
  case h_3 hd=>simp only[Kab,Kaa]at aa;obtain⟨_,_,_,_,_,_,rfl⟩:=aa;exact hd.symm
  case h_4 hd=>simp only[Kab,Kaa]at aa;obtain⟨_,_,_,_,rfl⟩:=aa;unfold Cb;split<;>first|exact hd.symm|(split<;>exact hd.symm)
  case h_5 hd=>simp only[Kaa]at aa;obtain⟨_,_,rfl⟩:=aa;exact hd.symm
  case h_6 hd=>split at aa<;>first|(cases aa;done)|(simp only[Kaa]at aa;obtain⟨_,_,rfl⟩:=aa;exact hd.symm)
  case h_7 hd=>
   simp only[Kab]at aa;obtain⟨_,_,_,_,aa⟩:=aa;split at aa<;>first|(cases aa;done)|(simp only[Kaa]at aa;obtain⟨_,_,rfl⟩:=aa;exact hd.symm)
  case h_8 hd=>
   simp only[Kab]at aa;obtain⟨_,_,_,_,aa⟩:=aa;split at aa<;>first|(cases aa;done)|(simp only[Kab,Kaa]at aa;obtain⟨_,_,_,_,rfl⟩:=aa;exact hd.symm)|(cases aa;exact hd.symm)
  case h_9 hd=>
   simp only[Kab]at aa;obtain⟨_,_,aa⟩:=aa;split at aa
   ·simp only[Kab]at aa;obtain⟨_,_,_,_,aa⟩:=aa;split at aa<;>first|(cases aa;done)|(simp only[KaH]at aa;subst aa;exact hd.symm)
   ·cases aa
  case h_10 hd=>
   simp only[Kab]at aa;obtain⟨_,_,aa⟩:=aa;split at aa<;>first|(cases aa;done)|(simp only[Kab,Kaa]at aa;obtain⟨_,_,_,_,_,_,rfl⟩:=aa;exact hd.symm)
  case h_11 hd=>simp only[Kab,Kaa]at aa;obtain⟨_,_,_,_,_,_,rfl⟩:=aa;exact hd.symm
  case h_12 hd=>simp only[Kab,Kaa]at aa;obtain⟨_,_,_,_,_,_,rfl⟩:=aa;exact hd.symm
  case h_13 hd=>simp only[Kab,Kaa]at aa;obtain⟨_,_,_,_,rfl⟩:=aa;exact hd.symm
  case h_14 hd=>simp only[Kaa]at aa;obtain⟨_,_,rfl⟩:=aa;exact hd.symm
  case h_15 hd=>simp only[Kab,Kaa]at aa;obtain⟨_,_,_,_,_,_,_,_,rfl⟩:=aa;exact hd.symm
  case h_16 hd=>
   simp only[Kab]at aa;obtain⟨_,_,_,_,aa⟩:=aa;split at aa
   ·simp only[Kaa]at aa;obtain⟨_,_,rfl⟩:=aa;exact hd.symm
   ·cases aa
  case h_17 hd=>simp only[Kab,Kaa]at aa;obtain⟨_,_,_,_,rfl⟩:=aa;exact hd.symm
  case h_18 hd=>simp only[Kab,Kaa]at aa;obtain⟨_,_,_,_,_,_,_,_,_,_,_,_,rfl⟩:=aa;exact hd.symm
  case h_19 hd=>simp only[Kaa]at aa;obtain⟨_,_,rfl⟩:=aa;exact hd.symm
  case h_20 hd=>simp only[Kab,Kaa]at aa;obtain⟨_,_,_,_,rfl⟩:=aa;exact hd.symm
  case h_21=>simp only[Kaa]at aa;obtain⟨_,_,rfl⟩:=aa;rfl
  case h_22=>
   split at aa
   ·simp only[Kab,Kaa]at aa;obtain⟨_,_,_,_,rfl⟩:=aa;rfl
   ·rename_i hd;split at aa
    ·simp only[Kaa]at aa;obtain⟨_,_,rfl⟩:=aa;exact hd.symm
    ·simp only[Kab,Kaa]at aa;obtain⟨_,_,_,_,rfl⟩:=aa;exact hd.symm
   ·rename_i hd;simp only[Kab,Kaa]at aa;obtain⟨_,_,_,_,rfl⟩:=aa;exact hd.symm
   ·rename_i hd;simp only[Kab,Kaa]at aa;obtain⟨_,_,_,_,rfl⟩:=aa;exact hd.symm
   ·rename_i hd;simp only[Kab]at aa;obtain⟨_,_,_,_,_,_,aa⟩:=aa;split at aa
    ·simp only[Kab]at aa;obtain⟨_,_,aa⟩:=aa;split at aa
     ·cases aa;exact hd.symm
     ·cases aa
    ·cases aa
   ·rename_i hd;simp only[Kab]at aa;obtain⟨_,_,_,_,_,_,aa⟩:=aa;split at aa
    ·simp only[Kaa]at aa;obtain⟨_,_,rfl⟩:=aa;exact hd.symm
    ·cases aa
   ·cases aa
  case h_23=>cases aa
theorem acW{dr two:Bool}{o:Oper}(aw:∀d,o.dst=some d->d<C.N)(bq:a.defers=[])(h:Qv C ρ fr hp a.tmps w)(hv:lA (gV C.P dr o) fr hp K):dw C two w K (a.put o.dst undef) w:=by
 unfold lA at hv;rw[Te]at hv;cases hd:o.dst with
 |some d=>rw[hd]at hv;exact⟨bq,⟨_,hp,⟨ρ,h.af Qn.aag (aw d hd)⟩,hv⟩,fun _=>Ext.refl _ _⟩
 |none=>rw[hd]at hv;exact⟨bq,⟨fr,hp,⟨ρ,h⟩,hv⟩,fun _=>Ext.refl _ _⟩
theorem VR{dr:Bool}{ops:Array Oper}{i:Nat}{o:Oper}{g:yb}{Q:Exit->Act->World->Prop}(hi:ops[i]? =some o)(bq:a.defers=[])(h:Qv C ρ fr hp a.tmps w)(hc:uP C.P C.N dr ops o=some g)(hv:rJ C g.g g.o fr hp K):
  wpOp C.P ops Q i (dw C (!(gV C.P dr o).kv) w K) a w:=by
 obtain⟨aw,lN,Ew⟩:=Vb h hc hv;rw[lN]at Ew;unfold wpOp;simp only[hi];rcases Ew with⟨hw,hv⟩|⟨hw,hv⟩
 ·rw[if_pos hw];exact .inl (afY aw bq h hv)
 ·rw[hw];simp only[Kbs,if_false];exact acW aw bq h hv
def Next(C:Ctx)(K:Qh)(Q:Exit->Act->World->Prop):Prop:=∀fr hp (a:Act) w,a.defers=[]->ft C fr hp a.tmps w->K fr hp->Q .normal a w
theorem DC{C:Ctx}{R:Qh}{sk:List It}{fr:Fr}{hp:HP}:vc C R (.o .nil::sk) fr hp=vc C R sk fr hp:=by rw[vc]
theorem DL{C:Ctx}{R:Qh}{sk:List It}{g:Option (Nat×Bool)}{o:cO}{r:RT}{fr:Fr}{hp:HP}:vc C R (.o (.o g o r)::sk) fr hp=rJ C g o fr hp (vc C R (.o r::sk)):=by rw[vc]
theorem TX{C:Ctx}{R:Qh}{sk:List It}{x y:RT}{fr:Fr}{hp:HP}:vc C R (.o (.br x y)::sk) fr hp=(vc C R (.o x::sk) fr hp/\vc C R (.o y::sk) fr hp):=by rw[vc]
theorem HV{C:Ctx}{R:Qh}{sk:List It}{r:RT}{fr:Fr}{hp:HP}:vc C R (.o (.wk r)::sk) fr hp=∃bU aA,Wk fr hp bU aA/\vc C R (.o r::sk) bU aA:=by rw[vc]
theorem AT{C:Ctx}{R:Qh}{sk:List It}{tmps:Array Value}{w:World}:∀(r:RT)(fr:Fr)(hp:HP),ft C fr hp tmps w->vc C R (.o r::sk) fr hp->
  ∃r' aG hp',r'.strip=r.strip/\(∀x,r'≠ .wk x)/\ft C aG hp' tmps w/\vc C R (.o r'::sk) aG hp':=by
 intro r;induction r with
 |wk r ih=>intro fr hp hs hv;rw[HV]at hv;obtain⟨bU,aA,hw,hv⟩:=hv;exact ih bU aA (hw _ _ _ hs) hv
 |nil=>exact fun fr hp hs hv=>⟨_,fr,hp,rfl,(fun x h=>by cases h),hs,hv⟩
 |o=>exact fun fr hp hs hv=>⟨_,fr,hp,rfl,(fun x h=>by cases h),hs,hv⟩
 |br=>exact fun fr hp hs hv=>⟨_,fr,hp,rfl,(fun x h=>by cases h),hs,hv⟩
theorem OO{r:RT}(h:r.strip= .nil)(hn:∀x,r≠ .wk x):r= .nil:=by
 cases r with
 |nil=>rfl
 |wk x=>exact absurd rfl (hn x)
 |_=>simp[RT.strip]at h
theorem Jn{r s:RT}{g:Option (Nat×Bool)}{o:cO}(h:r.strip= .o g o s)(hn:∀x,r≠ .wk x):∃r',r= .o g o r'/\r'.strip=s:=by
 cases r with
 |o g' o' r'=>simp only[RT.strip,RT.o.injEq]at h;obtain⟨rfl,rfl,h⟩:=h;exact⟨r',rfl,h⟩
 |wk x=>exact absurd rfl (hn x)
 |_=>simp[RT.strip]at h
theorem af0{r a b:RT}(h:r.strip= .br a b)(hn:∀x,r≠ .wk x):∃a' b',r= .br a' b'/\a'.strip=a/\b'.strip=b:=by
 cases r with
 |br a' b'=>simp only[RT.strip,RT.br.injEq]at h;exact⟨a',b',rfl,h.1,h.2⟩
 |wk x=>exact absurd rfl (hn x)
 |_=>simp[RT.strip]at h
theorem VS{R:Qh}{sk:List It}{ops:Array Oper}{Q:Exit->Act->World->Prop}(hQ:Next C (vc C R sk) Q):∀(gs:List yb)(is:List Nat)(r:RT)(fr:Fr)(hp:HP)(a:Act)(w:World),
  is.length=gs.length->(∀(k i:Nat)(g:yb),is[k]? =some i->gs[k]? =some g->∃o,ops[i]? =some o/\uP C.P C.N false ops o=some g)->
  a.defers=[]->ft C fr hp a.tmps w->r.strip=Aa gs->vc C R (.o r::sk) fr hp->wpOps C.P ops Q is a w
 | [],[],r,fr,hp,a,w,_,_,bq,hs,hr,hv=>by obtain⟨r',aG,hp',h1,h2,hs,hv⟩:=AT r fr hp hs hv;obtain rfl:=OO (h1.trans hr) h2;rw[DC]at hv;exact hQ aG hp' a w bq hs hv
 | [],i::is,_,_,_,_,_,hl,_,_,_,_,_=>by simp at hl
 |g::gs,[],_,_,_,_,_,hl,_,_,_,_,_=>by simp at hl
 |g::gs,i::is,r,fr,hp,a,w,hl,hc,bq,hs,hr,hv=>by obtain⟨o,ho,aa⟩:=hc 0 i g rfl rfl;obtain⟨r',aG,hp',h1,h2,⟨ρ,hs⟩,hv⟩:=AT r fr hp hs hv;obtain⟨r2,rfl,iE⟩:=Jn (h1.trans hr) h2;rw[DL]at hv;rw[wpOps_cons];refine wpOp_mono (fun a' w' hA=>?_) (VR ho bq hs aa hv);obtain⟨zo,⟨aG,hp',fA,re⟩,_⟩:=hA;exact VS hQ gs is r2 aG hp' a' w' (by simpa using hl) (fun k j g' h1 h2=>hc (k+1) j g' (by simpa using h1) (by simpa using h2)) zo fA iE re
end Go.FW
namespace Go.FW
open Go
section
variable {P : Program} {ops : Array Oper} {Q : Exit -> Act -> World -> Prop}
def yG(P:Program)(ops:Array Oper)(Q:Exit->Act->World->Prop)(kv:Nat->Bool):Nat->Array Bool->Act->World->Prop
 |0,bn,a,w=>Region.ready .any ops bn=[]/\Q .normal a w
 |fuel+1,bn,a,w=>
  (Region.ready .any ops bn=[]->Q .normal a w)/\
  ∀i∈Region.ready .any ops bn,wpOp P ops Q i (fun a' w'=>(kv i=false->Ext eP w w')/\yG P ops Q kv fuel (bn.setIfInBounds i true) a' w') a w
theorem Lb(kv:Nat->Bool):∀(fuel:Nat)(bn:Array Bool)(a:Act)(w:World),yG P ops Q kv fuel bn a w->wpAny P .any ops Q fuel bn a w
 |0,_,_,_,h=>h
 |fuel+1,_,_,_,h=>⟨h.1,fun i hi=>wpOp_mono (fun a' w' h'=>Lb kv fuel _ a' w' h'.2) (h.2 i hi)⟩
def YF(P:Program)(ops:Array Oper)(all:Bool)(o:Oper)(v:Value)(a:Act)(w:World):Prop:=
 (Region.wanted o (yielded ops a.tmps)=true/\∀w',(all=true∨Ext eP w w')->(execOp a.eval o).run P w'= .ok (.value v) w')∨
 (Region.wanted o (yielded ops a.tmps)=false/\v=undef)
theorem YF.step{all:Bool}{o:Oper}{v:Value}{a a':Act}{w w':World}(hy:YF P ops all o v a w)(he:execOp a'.eval o=execOp a.eval o)
  (hw:Region.wanted o (yielded ops a'.tmps)=Region.wanted o (yielded ops a.tmps)) (hx:all=true∨Ext eP w w'):YF P ops all o v a' w':=by
 unfold YF at *
 rw[he,hw];rcases hy with⟨h1,h2⟩|h
 ·refine .inl ⟨h1,fun w2 h3=>h2 w2 ?_⟩;rcases hx with hx|hx
  ·exact .inl hx
  ·rcases h3 with h3|h3
   ·exact .inl h3
   ·exact .inr (hx.trans h3)
 ·exact .inr h
theorem YF.wpOp{all:Bool}{i:Nat}{o:Oper}{v:Value}{a:Act}{w:World}(hi:ops[i]? =some o)(hy:YF P ops all o v a w)
  {K:Act->World->Prop} (h:K (a.put o.dst v) w):Go.wpOp P ops Q i K a w:=by
 unfold Go.wpOp;simp only[hi];rcases hy with⟨hw,hv⟩|⟨hw,rfl⟩
 ·simp only[hw,if_true,Oper.wp,hv w (.inr (Ext.refl _ _)),Oper.upon];exact .inl h
 ·simp only[hw,Kbs,if_false];exact h
theorem aed{j:Nat}{oi oj:Oper}{v:Value}(hj:ops[j]? =some oj)(hap:oi.apart ops oj=true)
  (IT:∀cs b,oi.op≠ .select cs b) (Ze:∀cs b,oj.op≠ .select cs b)
  (hQ:∀c a w,Q (.panic c) (a.put oi.dst v) w->Q (.panic c) a w) {K:Act->World->Prop} {a:Act} {w:World}
  (h:Go.wpOp P ops Q j K (a.put oi.dst v) w):
  Go.wpOp P ops Q j (fun a' w'=>(execOp a'.eval oi=execOp a.eval oi/\Region.wanted oi (yielded ops a'.tmps)=Region.wanted oi (yielded ops a.tmps))/\K (a'.put oi.dst v) w') a w:=by
 obtain⟨h1,h2,h3⟩:=Oper.apart_spec hap;have fT:∀u,execOp (a.put oj.dst u).eval oi=execOp a.eval oi/\Region.wanted oi (yielded ops (a.put oj.dst u).tmps)=Region.wanted oi (yielded ops a.tmps):=fun u=>
  ⟨execOp_put oi IT a oj.dst u h3,wanted_put oi a oj.dst u h3⟩
 have auT:∀d u,execOp (({ a with defers:=d::a.defers }:Act).put oj.dst u).eval oi=execOp a.eval oi/\Region.wanted oi (yielded ops (({ a with defers:=d::a.defers }:Act).put oj.dst u).tmps)=Region.wanted oi (yielded ops a.tmps):=fun d u=>
  ⟨(execOp_put oi IT ({ a with defers:=d::a.defers }:Act) oj.dst u h3).trans rfl,(wanted_put oi ({ a with defers:=d::a.defers }:Act) oj.dst u h3).trans rfl⟩
 unfold Go.wpOp at *
 simp only[hj]at *
 rw[wanted_put oj a oi.dst v h1]at h;split
 ·rename_i hw;simp only[hw,if_true]at h;rcases h with h|⟨Xu,atM⟩
  case inr=>exact .inr ⟨by unfold Oper.asks at *;rw[execOp_put oj Ze a oi.dst v h1]at Xu;exact Xu,atM⟩
  refine .inl ?_;unfold Oper.wp at *
  rw[execOp_put oj Ze a oi.dst v h1]at h;generalize(execOp a.eval oj).run P w=r at *
  cases r with
  | ok n w'=>
   cases n<;>simp only[Oper.upon]at h⊢
   case value u=>exact⟨fT u,by rw[<-Act.put_comm a v u h2];exact h⟩
   case skip=>exact⟨fT _,by rw[<-Act.put_comm a v undef h2];exact h⟩
   case defer d=>
    refine⟨auT d _,?_⟩;rw[<-Act.put_comm _ v undef h2,<-Act.put_defers];exact h
   case enter f args=>
    refine Calls.mono h fun e w'' he=>?_;cases e with
    |returned u=>exact⟨fT u,by rw[<-Act.put_comm a v u h2];exact he⟩
    |panicked c=>exact hQ _ _ _ he
    |outgrown=>exact he
   case row row args=>exact Rows.mono h fun u w'' he=>⟨fT u,by rw[<-Act.put_comm a v u h2];exact he⟩
  |halt x w'=>
   cases x<;>simp only[Oper.upon]at h⊢
   case panic u=>exact hQ _ _ _ h
 ·rename_i hw;simp only[hw]at h;exact⟨fT _,by rw[<-Act.put_comm a v undef h2];exact h⟩
def sL(ops:Array Oper)(bn:Array Bool):Prop:=∀(j:Nat)(o:Oper),ops[j]? =some o->bn.getD j false=true->∀e∈o.after,Region.binds .any e=true->bn.getD e.on false=true
theorem sL.step{bn:Array Bool}{i:Nat}(h:sL ops bn)(hi:i∈Region.ready .any ops bn):sL ops (bn.setIfInBounds i true):=by
 intro j o hj hl e he hb;obtain⟨h0,oi,vT,cU⟩:=mem_ready.1 hi;by_cases pQ:i=j
 ·subst pQ;rw[hj]at vT;cases vT;exact getD_set_true (cU e he hb)
 ·rw[getD_set_ne false pQ]at hl;exact getD_set_true (h j o hj hl e he hb)
theorem Uj{bn:Array Bool}{i:Nat}(hd:sL ops bn):∀(n k:Nat),bn.getD k false=true->tG ops n i k=true->bn.getD i false=true
 |0,_,_,h=>by simp[tG]at h
 | n+1,k,hk,h=>by
  unfold tG at h;cases ho:ops[k]? with
  |none=>simp[ho]at h
  |some o=>
   simp only[ho,Ka6,KaC,Kct,beq_iff_eq]at h;obtain⟨e,he,hb,h⟩:=h;have hl:=hd k o ho hk e (by simpa using he) hb;rcases h with h|h
   ·rw[<-h];exact hl
   ·exact Uj hd n e.on hl h
theorem Q1a{bn:Array Bool}{i j n:Nat}(hd:sL ops bn)(hj:j∈Region.ready .any ops bn)(h:tG ops n i j=true):bn.getD i false=true:=by
 obtain⟨_,o,ho,cU⟩:=mem_ready.1 hj;cases n with
 |zero=>simp[tG]at h
 |succ n=>
  unfold tG at h;simp only[ho,Ka6,KaC,Kct,beq_iff_eq]at h;obtain⟨e,he,hb,h⟩:=h;have hl:=cU e (by simpa using he) hb;rcases h with h|h
  ·rw[<-h];exact hl
  ·exact Uj hd n e.on hl h
theorem aee{bn:Array Bool}{i:Nat}(h0:bn.getD i true=false):¬bn.getD i false=true:=by
 intro h1;rcases Kcz i bn.size with h'|h'
 ·simp[h']at h0 h1;rw[h0]at h1;cases h1
 ·simp[Array.getElem?_eq_none h']at h1
theorem Q59{kv:Nat->Bool}{all:Bool}{i:Nat}{oi:Oper}{v:Value}(hi:ops[i]? =some oi)(Zd:∀(j:Nat)(o:Oper) cs b,ops[j]? =some o->o.op≠ .select cs b)
  (hQ:∀c a w,Q (.panic c) (a.put oi.dst v) w->Q (.panic c) a w)
  (BL:all=true∨∀j,kv j=true->j<ops.size->tG ops ops.size i j=true∨j=i):
  ∀(fuel:Nat)(bn:Array Bool)(a:Act)(w:World),sL ops bn->
   (∀j oj,ops[j]? =some oj->j≠i->bn.getD j true=false->(∀e∈oj.after,Region.binds .any e=true->e.on≠i)->oi.apart ops oj=true)->
   i∈Region.ready .any ops bn->YF P ops all oi v a w->
   yG P ops Q kv fuel (bn.setIfInBounds i true) (a.put oi.dst v) w->yG P ops Q kv (fuel+1) bn a w:=by
 intro fuel;induction fuel with
 | zero=>
  intro bn a w _ _ hr hy H;refine⟨fun h=>(by rw[h]at hr;cases hr),fun j hj=>?_⟩;by_cases im:j=i
  ·subst im;exact hy.wpOp hi ⟨fun _=>Ext.refl _ _,H⟩
  ·have:=ready_mono hj im;rw[H.1]at this;cases this
 | succ fuel ih=>
  intro bn a w Xz m9 hr hy H;refine⟨fun h=>(by rw[h]at hr;cases hr),fun j hj=>?_⟩;by_cases im:j=i
  ·subst im;exact hy.wpOp hi ⟨fun _=>Ext.refl _ _,H⟩
  ·have h1:=H.2 j (ready_mono hj im);obtain⟨XR,oj,IN,cU⟩:=mem_ready.1 hj;have XO:¬bn.getD i false=true:=aee (mem_ready.1 hr).1;have atY:∀e∈oj.after,Region.binds .any e=true->e.on≠i:=fun e he hb heq=>XO (heq▸cU e he hb);have h2:=aed IN (m9 j oj IN im XR atY) (fun cs b=>Zd i oi cs b hi) (fun cs b=>Zd j oj cs b IN) hQ h1;have asY:all=true∨kv j=false:=by
    rcases BL with h|h
    ·exact .inl h
    ·cases hb:kv j with
     |false=>exact .inr rfl
     |true=>
      have atD:j<ops.size:=(KbW.1 IN).1;rcases h j hb atD with h|h
      ·exact absurd (Q1a Xz hj h) XO
      ·exact absurd h im
   have atu:∀k ok,ops[k]? =some ok->k≠i->(bn.setIfInBounds j true).getD k true=false->
     (∀e∈ok.after,Region.binds .any e=true->e.on≠i)->oi.apart ops ok=true:=fun k ok hk zu ra lg=>by
    refine m9 k ok hk zu ?_ lg;by_cases IG:j=k
    ·subst IG;exact XR
    ·rw[getD_set_ne true IG]at ra;exact ra
   refine wpOp_mono (fun a' w' h3=>?_) h2;obtain⟨⟨he,hw⟩,hx,zK⟩:=h3;refine⟨hx,ih (bn.setIfInBounds j true) a' w' (Xz.step hj) atu (ready_mono hr (Ne.symm im)) (hy.step he hw ?_) ?_⟩
   ·rcases asY with h|h
    ·exact .inl h
    ·exact .inr (hx h)
   ·rw[Array.setIfInBounds_comm _ _ im];exact zK
end
section
variable {C : Ctx} {ρ : Nat -> Option Nat} {fr : Fr} {hp : HP} {w : World} {a : Act} {K : Qh}
theorem UE{dr:Bool}{o:Oper}(aw:∀d,o.dst=some d->d<C.N)(h:Qv C ρ fr hp a.tmps w)(hv:lA (gV C.P dr o) fr hp K):∃aG hp',Qv C ρ aG hp' (a.put o.dst undef).tmps w/\K aG hp':=by
 unfold lA at hv;rw[Te]at hv;cases hd:o.dst with
 |some d=>rw[hd]at hv;exact⟨_,hp,h.af Qn.aag (aw d hd),hv⟩
 |none=>rw[hd]at hv;exact⟨fr,hp,h,hv⟩
theorem al7{P:Program}{dr:Bool}{o:Oper}:(gV P dr o).cls=(gV P true o).cls:=by
 cases dr with
 |true=>rfl
 | false=>
  have h0:(oV P false o).map cO.cls=(oV P true o).map cO.cls:=by
   unfold oV;split<;>first|rfl|skip
   split<;>first|rfl|skip
   rename_i f _;cases h1:cx f with
   |none=>simp
   |some pf=>simp only[Kcv,Option.map_map];congr 1
  unfold gV;cases h1:oV P false o<;>cases h2:oV P true o<;>simp_all[cO.cls]
theorem UF {dr:Bool} {R:Qh} {sk:List It} {ops:Array Oper} {Q:Exit->Act->World->Prop} (IM:Region.noSelect ops=true) (hQ:Next C (vc C R sk) Q):∀(n:Nat) (bn:Array Bool) (r:RT) (fr:Fr) (hp:HP) (a:Act) (w:World),
  sv C.P C.N dr ops n bn=some r.strip->sL ops bn->a.defers=[]->ft C fr hp a.tmps w->vc C R (.o r::sk) fr hp->
  yG C.P ops (NoPanic Q) (Bi C.P dr ops) n bn a w:=by
 intro n;have done:∀(n:Nat)(bn:Array Bool)(r:RT)(fr:Fr)(hp:HP)(a:Act)(w:World),Region.ready .any ops bn=[]->a.defers=[]->ft C fr hp a.tmps w->r.strip= .nil->vc C R (.o r::sk) fr hp->yG C.P ops (NoPanic Q) (Bi C.P dr ops) n bn a w:=by
  intro n bn r fr hp a w hr bq hs dC hv;obtain⟨r',fr,hp,h1,h2,hs,hv⟩:=AT r fr hp hs hv;obtain rfl:=OO (h1.trans dC) h2;rw[DC]at hv;have hq:NoPanic Q .normal a w:=hQ fr hp a w bq hs hv;cases n with
  |zero=>exact⟨hr,hq⟩
  |succ n=>exact⟨fun _=>hq,by rw[hr];simp⟩
 induction n with
 | zero=>
  intro bn r fr hp a w ho hd bq hs hv;unfold sv at ho;split at ho
  ·rename_i hr;exact done 0 bn r fr hp a w (by simpa using hr) bq hs (KbM ho).symm hv
  ·cases ho
 | succ n ih=>
  intro bn r fr hp a w ho hd bq hs hv;unfold sv at ho;split at ho
  ·rename_i hr;exact done (n+1) bn r fr hp a w (by simpa using hr) bq hs (KbM ho).symm hv
  ·rename_i hr;obtain⟨r',fr,hp,e1,e2,hs,hv⟩:=AT r fr hp hs hv;rw[<-e1]at ho;split at ho
   ·rename_i i atq;have tq:=List.find?_some atq;simp only[Kab,Kaa]at ho;obtain⟨g,⟨o,vT,Na⟩,r0,cM,BC⟩:=ho;obtain⟨r',rfl,rfl⟩:=Jn BC.symm e2;unfold JX at tq;simp only[KaC,Kcy]at tq;obtain⟨⟨IS,m9⟩,cL⟩:=tq;have BB:wQ C.P ops i=(gV C.P dr o).cls:=by rw[al7];simp[wQ,vT]
    rw[DL]at hv;obtain⟨ρ,kE⟩:=hs;obtain⟨aw,lN,Ew⟩:=Vb kE Na hv;rw[lN]at Ew;have BL:∀all:Bool,(all=false->wQ C.P ops i=1)->all=true∨∀j,Bi C.P dr ops j=true->j<ops.size->tG ops ops.size i j=true∨j=i:=by
     intro all cU;cases all with
     |true=>exact .inl rfl
     |false=>
      refine .inr fun j hj tg=>?_;rw[cU rfl]at cL;have:=Kax.1 cL j (by simpa using tg);simp only[Kct,KcK]at this;rcases this with h|h
      ·rw[hj]at h;cases h
      ·exact .inl h
    have fin:∀(all:Bool)(v:Value),(all=false->wQ C.P ops i=1)->YF C.P ops all o v a w->(∃aG hp',Qv C ρ aG hp' (a.put o.dst v).tmps w/\vc C R (.o r'::sk) aG hp')->yG C.P ops (NoPanic Q) (Bi C.P dr ops) (n+1) bn a w:=by
     intro all v cU hy ⟨aG,hp',fA,re⟩;exact Q59 vT (Region.noSelect_spec IM) (fun _ _ _ h=>h) (BL all cU) n bn a w hd (Region.free_spec vT m9) IS hy
      (ih _ r' aG hp' _ w cM (hd.step IS) (by rw[yh];exact bq) ⟨ρ,fA⟩ re)
    rcases Ew with⟨hw,hv⟩|⟨hw,hv⟩
    ·by_cases h0:wQ C.P ops i=0
     ·obtain⟨v,cH,zK⟩:=VP (by rw[<-BB];exact h0) aw kE hv;exact fin true v (by simp) (.inl ⟨hw,fun w' _=>cH w'⟩) zK
     ·by_cases h1:wQ C.P ops i=1
      ·obtain⟨v,b,hb,cH,zK⟩:=VQ (by rw[<-BB];exact h1) aw kE hv;exact fin false v (fun _=>h1) (.inl ⟨hw,fun w' pZ=>cH w' (pZ.elim (fun h=>by cases h) (fun h=>h.block b hb (fun h=>h)))⟩) zK
      ·split at cL
       ·rename_i h;exact absurd h h0
       ·rename_i h;exact absurd h h1
       ·cases cL
    ·by_cases h1:wQ C.P ops i=1
     ·exact fin false undef (fun _=>h1) (.inr ⟨hw,rfl⟩) (UE aw kE hv)
     ·exact fin true undef (by simp) (.inr ⟨hw,rfl⟩) (UE aw kE hv)
   ·
    simp only[Kaa]at ho;obtain⟨rs,dt,BC⟩:=ho;obtain⟨m1,m2⟩:=oZ dt;have Iy:∀(rs:List RT) (r':RT) (fr:Fr) (hp:HP),r'.strip=xk rs->ft C fr hp a.tmps w->vc C R (.o r'::sk) fr hp->∀r∈rs,∃r2 gJ cz,r2.strip=r/\(∀x,r2≠ .wk x)/\ft C gJ cz a.tmps w/\vc C R (.o r2::sk) gJ cz:=by
     intro rs;induction rs with
     |nil=>intro _ _ _ _ _ _ r hr;cases hr
     | cons x xs nj=>
      intro r' fr hp cM hs hv r hr;obtain⟨r2,gJ,cz,f1,f2,hs,hv⟩:=AT r' fr hp hs hv;cases xs with
      |nil=>simp at hr;subst hr;exact⟨r2,gJ,cz,f1.trans cM,f2,hs,hv⟩
      | cons y ys=>
       rw[xk]at cM
       ·obtain⟨a',b',rfl,g1,g2⟩:=af0 (f1.trans cM) f2;rw[TX]at hv;rcases KaG.1 hr with rfl|hr
        ·obtain⟨r3,H8,rX,k1,k2,k3,k4⟩:=AT a' gJ cz hs hv.1;exact⟨r3,H8,rX,k1.trans g1,k2,k3,k4⟩
        ·exact nj b' gJ cz g2 hs hv.2 r hr
       ·simp
    refine⟨fun h0=>absurd (by rw[h0];rfl) hr,fun i hi=>?_⟩;obtain⟨k,hk⟩:=KaM hi;have xF:k<rs.length:=by rw[m1];exact(Kaf.1 hk).1
    obtain⟨i',al,hf⟩:=m2 k _ (Kag xF);rw[hk]at al;cases al;simp only[Kab,Kaa]at hf;obtain⟨g,⟨o,vT,Na⟩,r0,cM,he⟩:=hf;obtain⟨r2,gJ,cz,f1,f2,hs,re⟩:=Iy rs r' fr hp BC.symm hs hv _ (Kah xF);obtain⟨r',rfl,rfl⟩:=Jn (f1.trans he.symm) f2;rw[DL]at re;obtain⟨ρ,kE⟩:=hs;refine wpOp_mono (fun a' w' hA=>?_) (VR vT bq kE Na re);obtain⟨zo,⟨aG,hp',fA,zQ⟩,hx⟩:=hA;refine⟨fun hb=>hx ?_,ih _ r' aG hp' a' w' cM (hd.step hi) zo fA zQ⟩;simpa[Bi,vT]using hb
theorem ft.drew{tmps:Array Value}(h:ft C fr hp tmps w):ft C fr hp tmps { w with drawn:=w.drawn+1 }:=by obtain⟨ρ,hs⟩:=h;exact⟨ρ,hs.grow (Ext.drew w _)⟩
theorem sL.start(ops:Array Oper):sL ops (Array.replicate ops.size false):=by intro j o _ hl;exfalso;simp[Array.getD]at hl
theorem Ma{s:SC}{r:RT}(h:s.strip= .rg r):∃r',s= .rg r'/\r'.strip=r:=by
 cases s with
 |rg r'=>simp only[SC.strip,SC.rg.injEq]at h;exact⟨r',rfl,h⟩
 |_=>simp[SC.strip]at h
theorem Q6a{R:Qh}{sk:List It}{ops:Array Oper}{draw:Bool}{id:Nat}{s:SC}{Q:Exit->Act->World->Prop}(hm:C.P.follows .mixedOrders=true)(hQ:Next C (vc C R sk) Q)
  (hc:CT C.P C.N ops draw=some s.strip) (bq:a.defers=[]) (hs:ft C fr hp a.tmps w) (hv:vc C R (.c s::sk) fr hp):(Code.region id ops draw).wp C.P Q a w:=by
 unfold CT at hc;split at hc
 ·rename_i hd;subst hd;split at hc
  ·rename_i IM;have key:∀(dr:Bool)(z5:Nat)(s:SC),CS C.P C.N ops dr z5=some s.strip->vc C R (.c s::sk) fr hp->(Code.region id ops true).wp C.P Q a w:=by
    intro dr z5 s hc hv;unfold CS at hc;split at hc
    ·cases hc
    split at hc
    ·rename_i r0 hr;split at hc
     ·obtain⟨r,rfl,rfl⟩:=Ma (KbM hc).symm;rw[vc]at hv;exact wp_region_noPanic (wp_region_any hm (Lb _ _ _ _ _ (UF IM hQ _ _ r fr hp a _ hr (sL.start ops) bq hs.drew hv)))
     ·cases hc
    ·cases hc
   split at hc
   ·rename_i s' fA;cases hc;split at fA
    ·simp only[Kaa]at fA;obtain⟨r0,hr,he⟩:=fA;obtain⟨r,rfl,rfl⟩:=Ma he.symm;rw[vc]at hv;exact wp_region_noPanic (wp_region_any hm (Lb _ _ _ _ _ (UF IM hQ _ _ r fr hp a _ (Ga _ _ _ hr) (sL.start ops) bq hs.drew hv)))
    ·cases fA
   ·exact key _ _ _ hc hv
  ·cases hc
 ·rename_i hd;have hdf:draw=false:=by simpa using hd
  subst hdf;simp only[Kaa]at hc;obtain⟨gs,hgs,he⟩:=hc;obtain⟨r,rfl,hr⟩:=Ma he.symm;rw[vc]at hv;obtain⟨m1,m2⟩:=oZ hgs;refine wp_region (VS hQ gs (List.range ops.size) r fr hp a w (by simp[m1]) (fun k i g hk hg=>?_) bq hs hr hv);obtain⟨o,ho,aa⟩:=m2 k g hg;have xF:k<ops.size:=by have:=(Kaf.1 hk).1;simpa using this
  rw[Kb8 xF]at hk;cases hk;exact⟨o,by simpa using ho,aa⟩
end
end Go.FW
