/- Part 1 of the proof of SquaresProofs: FwA, FwB, FwC, FwD, FwE, FwF, FwG, FwH, FwI, FwJ, FwK, FwL, FwLN, FwM, FwN, FwO. Own lemmas; no conditions. -/
import Derived.Test.YtkoclfmjlolkhaaGreatSquaresProofsPart0
import Derived.WalkKit
import Derived.Orders
import Derived.Deep.RegionHeld3
set_option maxHeartbeats 1000000
set_option linter.unusedSimpArgs false
set_option linter.unusedVariables false
set_option linter.unnecessarySimpa false
set_option maxRecDepth 100000
namespace Go.FW
open Go
inductive PV where
 |undef
 |int (k:IntKind) (n:Int)
 |bool (b:Bool)
 |al
 |sl (e:Nat) (xs:List PV)
 |agg (cs:List PV)
 |aI (vs:List PV)
 |fn (f:FuncId) (first cap:List PV)
 |pt (cs:List PV)
 |mp (β i o:Nat)
 |aB (β o n:Nat)
 |rb (β o n:Nat)
 |aG (γ o n:Nat)
 |np (γ i o:Nat)
 |bm (cs:List PV)
 |aF (γ e ty:Nat) (xs:List PV)
 deriving Inhabited
abbrev PV.ms(β n:Nat):PV:= .aB β 0 n
def PV.cells:PV->List PV
 | .agg cs=>cs
 |x=>[x]
def PV.aU:PV->List PV
 | .bm cs=>cs
 |x=>x.cells
def PV.iX:PV->Bool
 | .undef=>false
 |_=>true
def PV.aL:PV->Bool
 | .int .. | .bool _| .al| .sl .. | .agg _| .pt _=>true
 | .fn _ first cap=>first.all PV.iX&&cap.all PV.iX
 |_=>false
inductive Qp(w:World)(X:Nat->Prop):PV->Value->Prop
 |int (k:IntKind) (n:Int):Qp w X (.int k n) (.int k n)
 |bool (b:Bool):Qp w X (.bool b) (.bool b)
 |al:Qp w X .al (.slice none 0 0)
 |nt (e:Nat) (a:Option Addr) (cap:Nat) (hc:cap<=maxLen):Qp w X (.sl e []) (.slice a 0 cap)
 | sl (e:Nat) (xs:List PV) (b off cap:Nat) (vs:Nat->Nat->Value) (hX:¬X b) (hb:b<w.heap.size) (hl:xs.length<=cap) (hc:cap<=maxLen)
   (he:∀(i:Nat)(x:PV),xs[i]? =some x->x.cells.length=e)
   (hv:∀i,i<xs.length->∀j,j<e->w.cell? ⟨b,off+i*e+j,none⟩=some (vs i j))
   (hr:∀(i:Nat)(x:PV),xs[i]? =some x->∀(j:Nat)(y:PV),x.cells[j]? =some y->Qp w X y (vs i j)):
   Qp w X (.sl e xs) (.slice (some ⟨b,off,none⟩) xs.length cap)
 | pt (cs:List PV) (b off:Nat) (vs:Nat->Value) (hX:¬X b) (hb:b<w.heap.size)
   (hv:∀j,j<cs.length->w.cell? ⟨b,off+j,none⟩=some (vs j))
   (hr:∀(j:Nat)(y:PV),cs[j]? =some y->Qp w X y (vs j)):
   Qp w X (.pt cs) (.pointer (some ⟨b,off,none⟩))
 | fn (f:FuncId) (first cap:List PV) (fv cv:Array Value) (h1:fv.size=first.length) (h2:cv.size=cap.length)
   (qp:∀(i:Nat)(x:PV),first[i]? =some x->Qp w X x (fv.getD i undef)) (jt:∀(i:Nat)(x:PV),cap[i]? =some x->Qp w X x (cv.getD i undef)):
   Qp w X (.fn f first cap) (.func (.func f) fv cv)
structure Ext(Y:Nat->Prop)(w w':World):Prop where
 os:w'.os=w.os
 tape:w'.tape=w.tape
 output:w'.output=w.output
 size:w.heap.size<=w'.heap.size
 block:∀b,b<w.heap.size->¬Y b->w'.heap[b]? =w.heap[b]?
theorem Ext.refl(Y:Nat->Prop)(w:World):Ext Y w w:=⟨rfl,rfl,rfl,Nat.le_refl _,fun _ _ _=>rfl⟩
theorem Ext.trans{Y:Nat->Prop}{a b c:World}(h:Ext Y a b)(k:Ext Y b c):Ext Y a c:=
  ⟨k.os.trans h.os,k.tape.trans h.tape,k.output.trans h.output,Nat.le_trans h.size k.size,
   fun i hi hY=>(k.block i (Nat.lt_of_lt_of_le hi h.size) hY).trans (h.block i hi hY)⟩
theorem Ext.mono{Y Y':Nat->Prop}{a b:World}(h:Ext Y a b)(hY:∀i,i<a.heap.size->Y i->Y' i):Ext Y' a b:=
 ⟨h.os,h.tape,h.output,h.size,fun i hi hn=>h.block i hi (fun hy=>hn (hY i hi hy))⟩
theorem Ext.trans'{Y Y':Nat->Prop}{a b c:World}(h:Ext Y a b)(k:Ext Y' b c)(hY:∀i,i<a.heap.size->Y' i->Y i):Ext Y a c:=
  ⟨k.os.trans h.os,k.tape.trans h.tape,k.output.trans h.output,Nat.le_trans h.size k.size,
   fun i hi hn=>(k.block i (Nat.lt_of_lt_of_le hi h.size) (fun hy=>hn (hY i hi hy))).trans (h.block i hi hn)⟩
def dL:Nat->Prop:=fun _=>False
theorem wL{w w':World}{a:Addr}(h:w'.heap[a.block]? =w.heap[a.block]?):w'.cell? a=w.cell? a:=by
 simp[World.cell?,h]
theorem YR{w:World}{b o:Nat}{v:Value}(h:w.cell? ⟨b,o,none⟩=some v):b<w.heap.size:=by
 rcases Nat.lt_or_ge b w.heap.size with h'|h'
 ·exact h'
 ·simp[World.cell?,Array.getElem?_eq_none h']at h
theorem Qp.mono{w w':World}{X X':Nat->Prop}{p:PV}{v:Value}(h:Qp w X p v)
  (hb:∀b,b<w.heap.size->¬X b->w'.heap[b]? =w.heap[b]?) (hx:∀b,b<w.heap.size->¬X b->¬X' b) (hs:w.heap.size<=w'.heap.size):Qp w' X' p v:=by
 induction h with
 |int k n=>exact .int k n
 |bool b=>exact .bool b
 |al=>exact .al
 |nt e a cap hc=>exact .nt e a cap hc
 | sl e xs b off cap vs hX aw hl hc he hv hr ih=>
  exact .sl e xs b off cap vs (hx b aw hX) (Nat.lt_of_lt_of_le aw hs) hl hc he
   (fun i hi j hj=>by rw[wL (hb b aw hX)];exact hv i hi j hj) (fun i x aV j y hy=>ih i x aV j y hy)
 |pt cs b off vs hX aw hv hr ih=>
  exact .pt cs b off vs (hx b aw hX) (Nat.lt_of_lt_of_le aw hs) (fun j hj=>by rw[wL (hb b aw hX)];exact hv j hj) (fun j y hy=>ih j y hy)
 |fn f first cap fv cv h1 h2 qp jt ih1 Lv=>exact .fn f first cap fv cv h1 h2 ih1 Lv
theorem Qp.sZ{w:World}{X:Nat->Prop}{p:PV}{v:Value}(h:Qp w X p v):v.oneCell'=true/\v.cells= #[v]/\p.cells=[p]:=by
 cases h<;>exact⟨rfl,rfl,rfl⟩
def bI(w:World)(X:Nat->Prop):PV->Value->Prop
 | .agg cs,v=>∃vs:Array Value,v= .agg vs/\vs.size=cs.length/\∀i x,cs[i]? =some x->Qp w X x (vs.getD i undef)
 |p,v=>Qp w X p v
def eG(w:World)(X:Nat->Prop):PV->Value->Prop
 | .aI ps,v=>∃vs:Array Value,v= .tuple vs/\vs.size=ps.length/\∀i x,ps[i]? =some x->bI w X x (vs.getD i undef)
 |p,v=>bI w X p v
theorem bI.mono{w w':World}{X X':Nat->Prop}{p:PV}{v:Value}(h:bI w X p v)
  (hb:∀b,b<w.heap.size->¬X b->w'.heap[b]? =w.heap[b]?) (hx:∀b,b<w.heap.size->¬X b->¬X' b) (hs:w.heap.size<=w'.heap.size):bI w' X' p v:=by
 cases p with
 |agg cs=>obtain⟨vs,rfl,h1,h2⟩:=h;exact⟨vs,rfl,h1,fun i x hi=>(h2 i x hi).mono hb hx hs⟩
 |_=>exact Qp.mono h hb hx hs
theorem eG.mono{w w':World}{X X':Nat->Prop}{p:PV}{v:Value}(h:eG w X p v)
  (hb:∀b,b<w.heap.size->¬X b->w'.heap[b]? =w.heap[b]?) (hx:∀b,b<w.heap.size->¬X b->¬X' b) (hs:w.heap.size<=w'.heap.size):eG w' X' p v:=by
 cases p with
 |aI ps=>obtain⟨vs,rfl,h1,h2⟩:=h;exact⟨vs,rfl,h1,fun i x hi=>(h2 i x hi).mono hb hx hs⟩
 |agg cs=>exact bI.mono (p:= .agg cs) h hb hx hs
 |_=>exact Qp.mono h hb hx hs
theorem eG.VT{w:World}{X:Nat->Prop}{p:PV}{v:Value}(h:bI w X p v):eG w X p v:=by
 cases p with
 |aI ps=>cases h
 |_=>exact h
theorem bI.data{w:World}{X:Nat->Prop}{p:PV}{v:Value}(h:bI w X p v):p.aL=true:=by
 have hu:∀(x:PV)(u:Value),Qp w X x u->x.iX=true:=fun x u hx=>by cases hx<;>rfl
 have cH:∀(l:List PV)(vs:Array Value),(∀(i:Nat)(x:PV),l[i]? =some x->Qp w X x (vs.getD i undef))->l.all PV.iX=true:=fun l vs hl=>by
  rw[List.all_eq_true]
  intro x hx
  obtain⟨i,hi⟩:=List.getElem?_of_mem hx
  exact hu x _ (hl i x hi)
 cases p with
 |agg cs=>rfl
 |fn f first cap=>
  have h':Qp w X (.fn f first cap) v:=h
  cases h' with
  |fn _ _ _ fv cv h1 h2 h3 h4=>simp[PV.aL,cH _ _ h3,cH _ _ h4]
 |_=>cases h<;>rfl
theorem bI.cells{w:World}{X:Nat->Prop}{p:PV}{v:Value}(h:bI w X p v):
  v.cells.size=p.cells.length/\∀j y,p.cells[j]? =some y->Qp w X y (v.cells.getD j undef):=by
 by_cases ha:∃cs,p= .agg cs
 ·obtain⟨cs,rfl⟩:=ha
  obtain⟨vs,rfl,h1,h2⟩:=h
  exact⟨h1,h2⟩
 ·have hc:Qp w X p v:=by
   cases p with
   |agg cs=>exact absurd ⟨cs,rfl⟩ ha
   |_=>exact h
  obtain⟨_,h2,h3⟩:=hc.sZ
  rw[h2,h3]
  refine⟨rfl,fun j y hy=> ?_⟩
  match j,hy with
  |0,hy=>simp at hy;subst hy;exact hc
  |j+1,hy=>simp at hy
theorem bI.rN{w:World}{X:Nat->Prop}{p:PV}{v:Value}(h:Qp w X p v):bI w X p v:=by
 cases p with
 |agg cs=>cases h
 |_=>exact h
theorem bI.VW{w:World}{X:Nat->Prop}{p:PV}{v:Value}(h:bI w X p v):∀u∈v.cells.toList,u.oneCell'=true:=by
 intro u hu
 obtain⟨h1,h2⟩:=h.cells
 obtain⟨j,hj,rfl⟩:=List.getElem_of_mem hu
 have dw:j<v.cells.size:=by simpa using hj
 have hp:j<p.cells.length:=by omega
 have:=(h2 j p.cells[j] (List.getElem?_eq_getElem hp)).sZ.1
 simpa[Array.getD,dw]using this
abbrev Ka0:=@Nat.mul_add
abbrev Ka1:=@Nat.le_mul_of_pos_right
abbrev Ka2:=@Rat.intCast_eq_zero_iff
abbrev Ka3:=@Sem.run_pure
abbrev Ka4:=@List.any_eq_true
abbrev Ka5:=@List.mem_cons_of_mem
abbrev Ka6:=@List.drop_zero
abbrev Ka7:=@List.length_drop
abbrev Ka8:=@List.replicate_zero
abbrev Ka9:=@List.getElem?_drop
abbrev KaA:=@Nat.mul_le_mul_left
abbrev KaB:=@List.mem_singleton
abbrev KaC:=@Option.some.injEq
abbrev KaD:=@List.contains_nil
abbrev KaE:=@List.length_eq_zero_iff
abbrev KaF:=@List.flatMap_nil
abbrev KaG:=@List.mem_cons
abbrev KaH:=@List.take_length
abbrev KaI:=@List.length_take
abbrev KaJ:=@Nat.add_mul
abbrev KaK:=@List.mem_append
abbrev KaL:=@List.map_congr_left
abbrev KaM:=@List.getElem?_take_of_lt
abbrev KaN:=@Nat.pow_le_pow_right
abbrev KaO:=@Nat.mod_eq_of_lt
abbrev KaP:=@List.length_cons
abbrev KaQ:=@List.nil_append
abbrev KaR:=@Nat.mul_comm
abbrev KaS:=@Rat.intCast_mul
abbrev KaT:=@List.getElem_of_mem
abbrev KaU:=@List.cons_append
abbrev KaV:=@List.getElem?_of_mem
abbrev KaW:=@Array.getD_eq_getD_getElem?
abbrev KaX:=@Nat.add_zero
abbrev KaY:=@Nat.mul_le_mul
abbrev KaZ:=@List.getElem?_append
abbrev Kaa:=@Option.map_eq_some_iff
abbrev Kab:=@Option.bind_eq_some_iff
abbrev Kac:=@List.take_of_length_le
abbrev Kad:=@List.getD_eq_getElem?_getD
abbrev Kae:=@List.getElem?_eq_some_iff
abbrev Kaf:=@Nat.le_refl
abbrev Kag:=@List.getElem?_eq_getElem
abbrev Kah:=@Nat.mul_le_mul_right
abbrev Kai:=@List.getElem_mem
abbrev Kaj:=@List.mem_of_getElem?
abbrev Kak:=@List.take_succ_eq_append_getElem
abbrev Kal:=@Result.andThen_ok
abbrev Kam:=@List.append_nil
abbrev Kan:=@List.drop_of_length_le
abbrev Kao:=@Nat.le_trans
abbrev Kap:=@List.length_map
abbrev Kaq:=@Sem.run_bind
abbrev Kar:=@Bool.and_eq_true
abbrev Kas:=@List.all_eq_true
abbrev Kat:=@List.mem_flatMap
abbrev Kau:=@List.mem_map
abbrev Kav:=@List.getElem?_map
abbrev Kaw:=@List.drop_eq_getElem_cons
abbrev Kax:=@List.length_append
abbrev Kay:=@List.contains_cons
abbrev Kaz:=@List.flatMap_cons
abbrev Kb0:=@List.mem_append_right
abbrev Kb1:=@List.size_toArray
abbrev Kb2:=@List.any_eq_false
abbrev Kb3:=@Nat.min_eq_left
abbrev Kb4:=@List.mem_filterMap
abbrev Kb5:=@Nat.mul_zero
abbrev Kb6:=@Rat.mkRat_eq_div
abbrev Kb7:=@List.not_mem_nil
abbrev Kb8:=@List.getElem?_range
abbrev Kb9:=@List.filterMap_cons
abbrev KbA:=@Rat.div_def
abbrev KbB:=@List.getElem_map
abbrev KbC:=@List.getElem_append_left
abbrev KbD:=@Nat.sub_self
abbrev KbE:=@List.map_map
abbrev KbF:=@Nat.eq_of_mul_eq_mul_right
abbrev KbG:=@Nat.mul_one
abbrev KbH:=@List.replicate_succ
abbrev KbI:=@Option.some.inj
abbrev KbJ:=@Array.getElem?_eq_getElem
abbrev KbK:=@Rat.mul_nonneg
abbrev KbL:=@List.pairwise_iff_getElem
abbrev KbM:=@List.mem_of_mem_drop
abbrev KbN:=@List.headD_eq_head?_getD
abbrev KbO:=@Nat.add_comm
abbrev KbP:=@List.append_cons
abbrev KbQ:=@Int.eq_ofNat_of_zero_le
abbrev KbR:=@Array.getElem?_eq_some_iff
abbrev KbS:=@List.getElem?_append_right
abbrev KbT:=@Option.ne_none_iff_exists'
abbrev KbU:=@Addr.add_lit
abbrev KbV:=@Array.eq_empty_of_size_eq_zero
abbrev KbW:=@Array.mapM_eq_mapM_toList
abbrev KbX:=@Int.natCast_mul
abbrev KbY:=@Nat.div_eq_of_lt
abbrev KbZ:=@List.eq_nil_of_length_eq_zero
abbrev Kba:=@Nat.pos_of_ne_zero
abbrev Kbb:=@Nat.zero_add
abbrev Kbc:=@Nat.div_lt_iff_lt_mul
abbrev Kbd:=@List.map_cons
abbrev Kbe:=@Option.getD_some
abbrev Kbf:=@List.mem_of_mem_take
abbrev Kbg:=@List.ext_getElem
abbrev Kbh:=@Int.natAbs_natCast
abbrev Kbi:=@Nat.mul_left_comm
abbrev Kbj:=@Nat.mul_assoc
abbrev Kbk:=@List.getLast?_eq_getElem?
abbrev Kbl:=@Nat.div_add_mod
abbrev Kbm:=@Bool.false_eq_true
abbrev Kbn:=@List.length_nil
abbrev Kbo:=@List.map_append
abbrev Kbp:=@Nat.pow_pos
abbrev Kbq:=@Nat.add_sub_cancel_left
abbrev Kbr:=@Nat.pow_succ
abbrev Kbs:=@List.append_assoc
abbrev Kbt:=@Nat.mod_lt
abbrev Kbu:=@Nat.lt_of_lt_of_le
abbrev Kbv:=@Nat.zero_le
abbrev Kbw:=@List.map_nil
abbrev Kbx:=@List.take_append_drop
abbrev Kby:=@List.getElem?_append_left
abbrev Kbz:=@List.mem_range
abbrev Kc0:=@List.mem_replicate
abbrev Kc1:=@List.cons.injEq
abbrev Kc2:=@Nat.gcd_zero_right
abbrev Kc3:=@List.range_succ
abbrev Kc4:=@Rat.intCast_add
abbrev Kc5:=@List.mem_cons_self
abbrev Kc6:=@Rat.intCast_sub
abbrev Kc7:=@Int.natAbs_neg
abbrev Kc8:=@Nat.gcd_dvd_left
abbrev Kc9:=@Nat.min_eq_right
abbrev KcA:=@Nat.zero_mul
abbrev KcB:=@Rat.zero_mul
abbrev KcC:=@List.mem_map_of_mem
abbrev KcD:=@List.mapM_cons
abbrev KcE:=@List.length_eq_one_iff
abbrev KcF:=@Nat.lt_of_le_of_lt
abbrev KcG:=@List.getLast?_cons
abbrev KcH:=@List.getElem?_take
abbrev KcI:=@Rat.sub_eq_add_neg
abbrev KcJ:=@Option.pure_def
abbrev KcK:=@Nat.one_mul
abbrev KcL:=@Nat.lt_or_ge
abbrev KcM:=@Nat.div_le_self
abbrev KcN:=@List.getElem?_eq_none
abbrev KcO:=@Nat.gcd_comm
abbrev KcP:=@Rat.mul_eq_zero
abbrev KcQ:=@List.length_singleton
abbrev KcR:=@List.sum_cons
abbrev KcS:=@Nat.lt_irrefl
abbrev KcT:=@List.getElem?_set
abbrev KcU:=@Nat.add_mul_mod_self_right
abbrev KcV:=@Int.fdiv_eq_ediv_of_nonneg
abbrev KcW:=@Rat.mkRat_self
abbrev KcX:=@List.getElem_set
abbrev KcY:=@List.length_filterMap_le
abbrev KcZ:=@Nat.pow_zero
abbrev Kca:=@List.all_eq_false
abbrev Kcb:=@Rat.intCast_natCast
abbrev Kcc:=@List.getElem_append_right
abbrev Kcd:=@Option.map_some
abbrev Kce:=@Rat.inv_mul_cancel
abbrev Kcf:=@Nat.add_assoc
abbrev Kcg:=@Array.size_append
abbrev Kch:=@Option.bind_eq_bind
abbrev Kci:=@Bool.or_eq_true
abbrev Kcj:=@Int.mul_ne_zero
abbrev Kck:=@Rat.one_mul
abbrev Kcl:=@Option.bind_some
abbrev Kcm:=@Nat.sub_zero
abbrev Kcn:=@Nat.add_mul_div_right
abbrev Kco:=@Bool.true_and
abbrev Kcp:=@List.filterMap_nil
abbrev Kcq:=@Nat.succ_mul
abbrev Kcr:=@List.take_zero
abbrev Kcs:=@Nat.add_mul_mod_self_left
abbrev Kct:=@List.mem_append_left
abbrev Kcu:=@Nat.add_mul_div_left
abbrev Kcv:=@Array.getElem?_setIfInBounds_ne
abbrev Kcw:=@List.head?_drop
abbrev Kcx:=@Bool.not_eq_true'
abbrev Kcy:=@List.eq_of_mem_replicate
abbrev Kcz:=@Int.toNat_natCast
abbrev Kda:=@Nat.gcd_le_right
abbrev Kdb:=@List.drop_length
attribute [go_sem_proc ↓] reduceIte
inductive aS where
 |t (n:Nat)
 |c (p:PV)
 deriving Inhabited
inductive cu where
 |mv (d:Nat) (x:aS)
 |pick (d:Nat) (c a b:aS)
 |bin (d:Nat) (op:BinOp) (bt:Bool) (x y:aS)
 |eqs (d:Nat) (ng:Bool) (x y:aS)
 |un (d:Nat) (op:UnOp) (x:aS)
 |conv (d:Nat) (k:IntKind) (x:aS)
 |len (d:Nat) (x:aS)
 |mx (d:Nat) (x y:aS)
 |mn (d:Nat) (x y:aS)
 |idx (d e:Nat) (x i:aS)
 |Ai (d n e:Nat) (x i:aS)
 |Aj (d n e:Nat) (ag:Bool) (x i:aS)
 |fP (d off:Nat) (x:aS)
 |zT (d off n:Nat) (ag:Bool) (x:aS)
 |ld (d n:Nat) (ag:Bool) (x:aS)
 |st (n:Nat) (x v:aS)
 |box (d n ty:Nat) (v:aS)
 |alloc (d n ty:Nat) (z:PV)
 |mk (d e bytes ty:Nat) (z:PV) (l c:aS)
 |bs (d e ty:Nat) (parts:List aS)
 |app (d e bytes ty:Nat) (s x:aS)
 |tZ (d e:Nat) (s x:aS)
 |sl (d e:Nat) (x:aS) (lo hi mx:Option aS)
 |ext (d:Nat) (x:aS) (i:Nat)
 |eA (d:Nat) (zero:List PV) (parts:List (Nat×Nat×aS))
 |fn (d f:Nat) (first cap:List aS)
 |call (d:Option Nat) (pr:Bool) (f:aS) (args:List aS)
 |C1 (d:Option Nat) (x:aS)
 |bad (d:Option Nat)
 deriving Inhabited
def cu.dst:cu->Option Nat
 | .mv d _| .pick d _ _ _| .bin d _ _ _ _| .eqs d _ _ _| .un d _ _| .conv d _ _| .len d _| .mx d _ _| .mn d _ _| .idx d _ _ _| .Ai d _ _ _ _| .Aj d _ _ _ _ _| .fP d _ _| .zT d _ _ _ _
 | .ld d _ _ _| .box d _ _ _| .alloc d _ _ _| .mk d _ _ _ _ _ _| .bs d _ _ _| .app d _ _ _ _ _| .tZ d _ _ _| .sl d _ _ _ _ _| .ext d _ _| .eA d _ _| .fn d _ _ _=>some d
 | .st _ _ _=>none
 | .call d _ _ _| .C1 d _| .bad d=>d
structure wH where
 g:Option (Nat×Bool)
 o:cu
 deriving Inhabited
inductive RT where
 |nil
 |o (g:Option (Nat×Bool)) (o:cu) (r:RT)
 |br (a b:RT)
 |wk (r:RT)
 deriving Inhabited
inductive SC where
 |skip
 |rg (r:RT)
 |raw (id:Nat) (ops:Array Oper)
 |seq (a b:SC)
 |cond (c:aS) (a b:SC)
 |block (id:Nat) (a:SC)
 |loop (a:SC)
 |exit (id:Nat)
 |ret
 deriving Inhabited
def Bc:Value->Option PV
 | .int k n=>some (.int k n)
 | .bool b=>some (.bool b)
 | .slice none 0 0=>some .al
 |_=>none
def tz:Value->Option PV
 | .agg cs=>(cs.toList.mapM Bc).map .agg
 |v=>Bc v
def b5:Operand->Option aS
 | .tmp t=>some (.t t)
 | .const v=>(tz v).map .c
 | .func f=>some (.c (.fn f [] []))
 | .global _=>none
def dW(P:Program)(t:TypeId):Option Nat:=(P.info? t).map (·.size)
def mU(P:Program)(t:TypeId):Option Bool:=(P.underlying t).map fun d=>match d with| .struct _| .array _ _=>true|_=>false
def tI(P:Program)(t:TypeId):Option TypeId:=match P.underlying t with|some (.slice e)=>some e|_=>none
def kn(P:Program)(t:TypeId):Option (Nat×Nat×PV):=(P.info? t).bind fun i=>i.zero.bind fun z=>(tz z).map fun p=>(i.size,i.bytes,p)
def oO:Option Operand->Option (Option aS)
 |none=>some none
 |some x=>(b5 x).map some
def BI(P:Program)(t:TypeId)(parts:List (Nat×Operand)):Option (List (Nat×Nat×aS)):=
 match P.underlying t with
 |some (.struct fs)=>(fs.toList.mapM fun f=>(P.info? f.type).map fun i=>(f.offset,i.size)).bind fun pl=>parts.mapM fun p=>(pl[p.1]?).bind fun q=>(b5 p.2).map fun y=>(q.1,q.2,y)
 |some (.array _ e)=>(dW P e).bind fun n=>parts.mapM fun p=>(b5 p.2).map fun y=>(p.1*n,n,y)
 |_=>none
def G8(P:Program)(t:TypeId):Bool:=match P.underlying t with
 |some (.struct fs)=>match fs.toList with
  | [f, g] => f.name != "_" && g.name != "_" && f.offset == 0 && g.offset == 1 && (match P.underlying f.type with | some (.int _) => true | _ => false) && (match P.underlying g.type with | some (.int _) => true | _ => false) && !(P.stoodInHeld t) && !(P.eqGuardType P.depth t)
  |_=>false
 |_=>false
def TT:BinOp->Option Bool
 | .eql=>some false
 | .neq=>some true
 |_=>none
def Av(P:Program)(op:BinOp)(t:TypeId)(d:Nat)(x y:aS):cu:=
 match(if G8 P t then TT op else none)with
 |some ng=> .eqs d ng x y
 |none=> .bin d op (match P.underlying t with|some .bool=>true|_=>false) x y
def aea : List String := ["geoprover/matrix.reduce", "geoprover/matrix.subtract", "geoprover/geoproverref09.echelon"]
def Pt(P:Program)(f:aS):Bool:=match f with
 | .c (.fn g _ _)=>(P.funcs[g]?).any fun fn=>aea.contains fn.name
 |_=>false
def nA(P:Program)(draw:Bool)(o:Oper):Option cu:=
 match o.op,o.dst with
 | .move x,some d| .assign x,some d=>(b5 x).map (.mv d)
 | .pick c a b,some d=>(b5 c).bind fun c=>(b5 a).bind fun a=>(b5 b).map fun b=> .pick d c a b
 | .binOp op t x y _,some d=>(b5 x).bind fun x=>(b5 y).map fun y=>Av P op t d x y
 | .unOp op _ x,some d=>(b5 x).map (.un d op)
 | .convert s t x,some d=>match P.underlying s,P.underlying t with
  |some _,some (.int k)=>(b5 x).map (.conv d k)
  |_,_=>none
 | .indexAddr t x i,some d=>(b5 x).bind fun x=>(b5 i).bind fun i=>match P.underlying t with
  |some (.slice e)=>(dW P e).map fun n=> .idx d n x i
  |some (.array len e)=>(dW P e).map fun n=> .Ai d len n x i
  |_=>none
 | .index t x i,some d=>(b5 x).bind fun x=>(b5 i).bind fun i=>match P.underlying t with
  |some (.array len e)=>(dW P e).bind fun n=>(mU P e).map fun ag=> .Aj d len n ag x i
  |_=>none
 | .fieldAddr t x j,some d=>(b5 x).bind fun x=>match P.underlying t with
  |some (.struct fs)=>(fs[j]?).bind fun f=>(dW P f.type).bind fun n=>if n=0 then none else some (.fP d f.offset x)
  |_=>none
 | .field t x j,some d=>(b5 x).bind fun x=>match P.underlying t with
  |some (.struct fs)=>(fs[j]?).bind fun f=>(dW P f.type).bind fun n=>(mU P f.type).map fun ag=> .zT d f.offset n ag x
  |_=>none
 | .load t x,some d=>(b5 x).bind fun x=>(dW P t).bind fun n=>(mU P t).map fun ag=> .ld d n ag x
 | .store t x v,none=>(b5 x).bind fun x=>(b5 v).bind fun v=>(dW P t).map fun n=> .st n x v
 | .box t v,some d=>(b5 v).bind fun v=>(dW P t).map fun n=> .box d n t v
 | .alloc t,some d=>(kn P t).map fun(n,_,z)=> .alloc d n t z
 | .makeSlice t l c,some d=>(b5 l).bind fun l=>(b5 c).bind fun c=>(tI P t).bind fun e=>(kn P e).map fun(n,by_,z)=> .mk d n by_ e z l c
 | .buildSlice t len parts,some d=>(tI P t).bind fun e=>(kn P e).bind fun r=>
   if parts.toList.map (·.1)=List.range len/\len*r.1<=16777216/\r.2.2.cells.length=r.1 then(parts.toList.mapM fun p=>b5 p.2).map fun ps=> .bs d r.1 e ps else none
 | .build t parts,some d=>(kn P t).bind fun(_,_,z)=>(BI P t parts.toList).map fun ps=> .eA d z.cells ps
 | .slice t x lo hi m,some d=>(b5 x).bind fun x=>(oO lo).bind fun lo=>(oO hi).bind fun hi=>(oO m).bind fun m=>(tI P t).bind fun e=>(dW P e).map fun n=> .sl d n x lo hi m
 | .extract x i,some d=>(b5 x).map fun x=> .ext d x i
 | .makeFunc (.func f) first cap,some d=>(first.toList.mapM b5).bind fun first=>(cap.toList.mapM b5).map fun cap=> .fn d f first cap
 | .nilCheck x,d=>(b5 x).map fun x=> .C1 d x
 | .call c,d=>match c.callee,c.args.toList,c.argTypes.toList,d with
  | .value f,args,_,d=>(b5 f).bind fun f=>(args.mapM b5).map fun args=> .call d (draw&& !Pt P f) f args
  | .builtin .len,[x],[t],some d=>(tI P t).bind fun _=>(b5 x).map fun x=> .len d x
  | .builtin .max,[x,y],_,some d=>(b5 x).bind fun x=>(b5 y).map fun y=> .mx d x y
  | .builtin .min,[x,y],_,some d=>(b5 x).bind fun x=>(b5 y).map fun y=> .mn d x y
  | .builtin .append,[s,x],[t,u],some d=>(b5 s).bind fun s=>(b5 x).bind fun x=>(tI P t).bind fun e=>if t=u then(kn P e).bind fun r=>if r.2.2.cells.length=r.1 then some (.app d r.1 r.2.1 e s x)else none else none
  | .builtin .copy,[s,x],[t,u],some d=>(b5 s).bind fun s=>(b5 x).bind fun x=>(tI P t).bind fun e=>if t=u then(dW P e).map fun n=> .tZ d n s x else none
  |_,_,_,_=>none
 |_,_=>none
def fH(P:Program)(draw:Bool)(o:Oper):cu:=(nA P draw o).getD (.bad o.dst)
def tt(P:Program)(n:Nat)(draw:Bool)(ops:Array Oper)(o:Oper):Option wH:=
 if o.dst.all (· <n)then
  match o.guard with
  |none=>some ⟨none,fH P draw o⟩
  |some (j,want)=>match(ops[j]?).bind (·.dst)with
   |some s=>if s<n then some ⟨some (s,want),fH P draw o⟩else none
   |none=>none
 else none
def cu.cls:cu->Nat
 | .ld .. =>1
 | .box .. | .alloc .. | .mk .. | .bs .. | .call .. | .bad _=>2
 | .st .. | .app .. | .tZ .. =>3
 |_=>0
def cu.jl:cu->Bool
 | .st .. | .app .. | .tZ .. =>true
 | .call _ pr _ _=> !pr
 |_=>false
def cu.arj:cu->Bool
 | .call .. =>true
 |_=>false
def rT(ops:Array Oper):Nat->Nat->Nat->Bool
 |0,_,_=>false
 |n+1,i,j=>match ops[j]? with
  |none=>false
  |some o=>o.after.toList.any fun e=>Region.binds .any e&&(e.on==i||rT ops n i e.on)
def vh(P:Program)(ops:Array Oper)(i:Nat):Nat:=((ops[i]?).map fun o=>(fH P true o).cls).getD 9
def zC(P:Program)(dr:Bool)(ops:Array Oper)(i:Nat):Bool:=((ops[i]?).map fun o=>(fH P dr o).jl).getD false
def Hm(P:Program)(dr:Bool)(ops:Array Oper)(bc:Array Bool)(i:Nat):Bool:=
  (Region.ready .any ops bc).contains i&&Region.free .any ops bc i&&
  (match vh P ops i with
   |0=>true
   |1=>(List.range ops.size).all fun j=> !zC P dr ops j||rT ops ops.size i j
   |_=>false)
def vM:List RT->RT
 | []=> .nil
 | [r]=>r
 |r::rs=> .br r (vM rs)
def qD(P:Program)(N:Nat)(dr:Bool)(ops:Array Oper):Nat->Array Bool->Option RT
 |0,bc=>if Region.ready .any ops bc==[]then some .nil else none
 |n+1,bc=>
  if Region.ready .any ops bc==[]then some .nil else
  match(List.range ops.size).find? (Hm P dr ops bc)with
  |some i=>((ops[i]?).bind (tt P N dr ops)).bind fun g=>(qD P N dr ops n (bc.setIfInBounds i true)).map fun r=> .o g.g g.o r
  |none=>((Region.ready .any ops bc).mapM fun i=>((ops[i]?).bind (tt P N dr ops)).bind fun g=>(qD P N dr ops n (bc.setIfInBounds i true)).map fun r=>RT.o g.g g.o r).map vM
def Bu(P:Program)(N:Nat)(dr:Bool)(ops:Array Oper):Nat->Array Bool->Option RT
 |0,bc=>if Region.ready .any ops bc==[]then some .nil else none
 | n+1,bc=>
  if Region.ready .any ops bc==[]then some .nil else
  match(List.range ops.size).find? (Hm P dr ops bc)with
  |some i=>((ops[i]?).bind (tt P N dr ops)).bind fun g=>(Bu P N dr ops n (bc.setIfInBounds i true)).map fun r=> .o g.g g.o r
  |none=>match Region.ready .any ops bc with
   | [i]=>((ops[i]?).bind (tt P N dr ops)).bind fun g=>(Bu P N dr ops n (bc.setIfInBounds i true)).map fun r=> .o g.g g.o r
   |_=>none
theorem Du{P:Program}{N:Nat}{dr:Bool}{ops:Array Oper}:∀(n:Nat)(bc:Array Bool)(r:RT),Bu P N dr ops n bc=some r->qD P N dr ops n bc=some r
 |0,bc,r,h=>h
 | n +1,bc,r,h=>by
  unfold Bu at h
  unfold qD
  split
  ·rename_i hr;rw[if_pos hr]at h;exact h
  ·rename_i hr
   rw[if_neg hr]at h
   split at h
   ·rename_i i hf
    simp only[Kab,Kaa]at h⊢
    obtain⟨g,hg,r',cQ,rfl⟩:=h
    exact⟨g,hg,r',Du n _ _ cQ,rfl⟩
   ·rename_i hf
    split at h
    ·rename_i i GI
     simp only[Kab,Kaa]at h
     obtain⟨g,⟨o,ho,hg⟩,r',cQ,rfl⟩:=h
     simp[GI,ho,hg,Du n _ _ cQ,vM]
    ·cases h
def RT.count:RT->Nat
 | .nil=>1
 | .o _ _ r=>r.count
 | .br a b=>a.count+b.count
 | .wk r=>r.count
def zF:List wH->RT
 | []=> .nil
 |g::gs=> .o g.g g.o (zF gs)
def aeb(P:Program)(ops:Array Oper):Bool:=ops.toList.any fun o=>(fH P false o).arj
def aec(P:Program)(ops:Array Oper):Bool:=
 let cs:=ops.toList.map (fH P true)
 4<=(cs.filter fun o=>match o with| .app .. =>true|_=>false).length||
  (3<=(cs.filter fun o=>match o with| .box .. | .alloc .. =>true|_=>false).length&&3<=(cs.filter fun o=>match o with| .st .. =>true|_=>false).length)
def Bd(P:Program)(N:Nat)(ops:Array Oper)(dr:Bool)(yx:Nat):Option SC:=
 if aec P ops then none else
 match qD P N dr ops ops.size (Array.replicate ops.size false)with
 |some r=>if r.count<=yx then some (.rg r)else none
 |none=>none
def Bf(P:Program)(N:Nat)(ops:Array Oper)(draw:Bool):Option SC:=
 if draw then
  if Region.noSelect ops then
   match(if aeb P ops then(Bu P N false ops ops.size (Array.replicate ops.size false)).map .rg else none)with
   |some s=>some s
   |none=>Bd P N ops true 100
  else none
 else(ops.toList.mapM (tt P N false ops)).map fun l=> .rg (zF l)
def ft(P:Program)(N:Nat):Code->Option SC
 | .skip=>some .skip
 | .region id ops draw=>match Bf P N ops draw with
  |some s=>some s
  |none=>if draw then some (.raw id ops)else none
 | .seq a b=>(ft P N a).bind fun a=>(ft P N b).map fun b=> .seq a b
 | .cond c a b=>(b5 c).bind fun c=>(ft P N a).bind fun a=>(ft P N b).map fun b=> .cond c a b
 | .block id a=>(ft P N a).map (.block id)
 | .loop a=>(ft P N a).map .loop
 | .exit id=>some (.exit id)
 | .ret=>some .ret
 |_=>none
inductive RV where
 |t (s:Nat)
 |cell (s n:Nat) (ag:Bool)
 deriving Inhabited
def kO(P:Program)(r:ResultVar):Option RV:=
 match r with
 | .tmp t=>some (.t t)
 | .cell a t=>(dW P t).bind fun n=>(mU P t).map fun ag=> .cell a n ag
def RT.strip:RT->RT
 | .nil=> .nil
 | .o g p r=> .o g p r.strip
 | .br a b=> .br a.strip b.strip
 | .wk r=>r.strip
def SC.strip:SC->SC
 | .rg r=> .rg r.strip
 | .seq a b=> .seq a.strip b.strip
 | .cond c a b=> .cond c a.strip b.strip
 | .block id a=> .block id a.strip
 | .loop a=> .loop a.strip
 |s=>s
theorem Sf:∀l:List wH,(zF l).strip=zF l
 | []=>rfl
 |g::gs=>by simp only[zF,RT.strip,Sf gs]
theorem L0:∀l:List RT,(∀r∈l,r.strip=r)->(vM l).strip=vM l
 | [],_=>rfl
 | [r],h=>h r (by simp)
 |r::s::l,h=>by
  have:=L0 (s::l) fun x hx=>h x (Ka5 _ hx)
  simp only[vM,RT.strip,h r (by simp),this]
theorem M8{α β:Type}{f:α->Option β}{Q:β->Prop}(hf:∀a b,f a=some b->Q b):∀(l:List α)(rs:List β),l.mapM f=some rs->∀r∈rs,Q r
 | [],rs,h=>by simp at h;subst h;simp
 |a::l,rs,h=>by
  simp only[KcD,Kch,KcJ,Kab,KaC]at h
  obtain⟨b,h1,bs,h2,rfl⟩:=h
  intro r hr
  rcases KaG.1 hr with rfl|hr
  ·exact hf _ _ h1
  ·exact M8 hf l bs h2 r hr
theorem DE{P:Program}{N:Nat}{dr:Bool}{ops:Array Oper}:∀(n:Nat)(bc:Array Bool)(r:RT),qD P N dr ops n bc=some r->r.strip=r
 |0,bc,r,h=>by
  unfold qD at h
  split at h
  ·cases h;rfl
  ·cases h
 | n+1,bc,r,h=>by
  unfold qD at h
  split at h
  ·cases h;rfl
  ·split at h
   ·simp only[Kab,Kaa]at h
    obtain⟨g,_,r',cQ,rfl⟩:=h
    simp only[RT.strip,DE n _ _ cQ]
   ·simp only[Kaa]at h
    obtain⟨rs,dD,rfl⟩:=h
    refine L0 rs (M8 (fun i b hb=> ?_) _ rs dD)
    simp only[Kab,Kaa]at hb
    obtain⟨g,_,r',cQ,rfl⟩:=hb
    simp only[RT.strip,DE n _ _ cQ]
theorem Qy4{P:Program}{N:Nat}{ops:Array Oper}{draw:Bool}{s:SC}(h:Bf P N ops draw=some s):s.strip=s:=by
 unfold Bf at h
 split at h
 ·split at h
  ·have key:∀(dr:Bool) (yx:Nat) (s:SC),Bd P N ops dr yx=some s->s.strip=s:=fun dr yx s hc=>by
    unfold Bd at hc
    split at hc
    ·cases hc
    split at hc
    ·rename_i r hr
     split at hc
     ·cases hc;simp only[SC.strip,DE _ _ _ hr]
     ·cases hc
    ·cases hc
   split at h
   ·rename_i s' eC
    cases h
    split at eC
    ·simp only[Kaa]at eC
     obtain⟨r,hr,rfl⟩:=eC
     simp only[SC.strip,DE _ _ _ (Du _ _ _ hr)]
    ·cases eC
   ·exact key _ _ _ h
  ·cases h
 ·simp only[Kaa]at h
  obtain⟨gs,_,rfl⟩:=h
  simp only[SC.strip,Sf]
theorem QZ{P:Program}{N:Nat}:∀(c:Code)(s:SC),ft P N c=some s->s.strip=s:=by
 intro c
 induction c with
 |skip=>intro s h;simp[ft]at h;subst h;rfl
 | region id ops draw=>
  intro s h
  simp only[ft]at h
  split at h
  ·rename_i s' eC;cases h;exact Qy4 eC
  ·split at h
   ·cases h;rfl
   ·cases h
 |seq x y lA yr=>
  intro s h
  simp only[ft,Kab,Kaa]at h
  obtain⟨sx,hx,sy,hy,rfl⟩:=h
  simp only[SC.strip,lA _ hx,yr _ hy]
 |cond c x y lA yr=>
  intro s h
  simp only[ft,Kab,Kaa]at h
  obtain⟨pc,fR,sx,hx,sy,hy,rfl⟩:=h
  simp only[SC.strip,lA _ hx,yr _ hy]
 |block id x lA=>
  intro s h
  simp only[ft,Kaa]at h
  obtain⟨sx,hx,rfl⟩:=h
  simp only[SC.strip,lA _ hx]
 |loop x lA=>
  intro s h
  simp only[ft,Kaa]at h
  obtain⟨sx,hx,rfl⟩:=h
  simp only[SC.strip,lA _ hx]
 |exit id=>intro s h;simp[ft]at h;subst h;rfl
 |ret=>intro s h;simp[ft]at h;subst h;rfl
 |_=>intro s h;simp[ft]at h
structure ay where
 n:Nat
 rs:List RV
 body:SC
 deriving Inhabited
def Qe(P:Program)(f:Func):Option ay:=
 f.body.bind fun c=>(ft P f.ntmps c).bind fun b=>(f.results.toList.mapM (kO P)).map fun rs=>⟨f.ntmps,rs,b⟩
def ay.strip(s:ay):ay:=⟨s.n,s.rs,s.body.strip⟩
theorem Qy5{P:Program}{f:Func}{s:ay}(h:Qe P f=some s):Qe P f=some s.strip:=by
 have h0:=h
 simp only[Qe,Kab,Kaa]at h
 obtain⟨c,hb,sb,jo,rs,dD,rfl⟩:=h
 rw[h0,ay.strip,QZ _ _ jo]
abbrev Zo(o:cu)(r:RT):RT:= .o none o r
abbrev Zg(g:Nat)(b:Bool)(o:cu)(r:RT):RT:= .o (some (g,b)) o r
abbrev Zm(d x:Nat)(r:RT):RT:= .o none (.mv d (.t x)) r
abbrev Zc(d:Nat)(n:Int)(r:RT):RT:= .o none (.mv d (.c (.int .i64 n))) r
abbrev Zf(d o x:Nat)(r:RT):RT:= .o none (.fP d o (.t x)) r
abbrev Zl(d n x:Nat)(r:RT):RT:= .o none (.ld d n false (.t x)) r
abbrev Zh(d n x:Nat)(r:RT):RT:= .o none (.ld d n true (.t x)) r
abbrev Zs(n x v:Nat)(r:RT):RT:= .o none (.st n (.t x) (.t v)) r
abbrev Zi(d e x i:Nat)(r:RT):RT:= .o none (.idx d e (.t x) (.t i)) r
abbrev Zb(d:Nat)(o:BinOp)(x y:Nat)(r:RT):RT:= .o none (.bin d o false (.t x) (.t y)) r
abbrev Zk(d:Nat)(o:BinOp)(x:Nat)(n:Int)(r:RT):RT:= .o none (.bin d o false (.t x) (.c (.int .i64 n))) r
abbrev Zn(d x:Nat)(r:RT):RT:= .o none (.len d (.t x)) r
abbrev Zu(d x:Nat)(r:RT):RT:= .o none (.un d .not (.t x)) r
abbrev Zq(d:Nat)(p:Bool)(f:Nat)(l:List aS)(r:RT):RT:= .o none (.call (some d) p (.c (.fn f [] [])) l) r
abbrev Zr(r:RT)(y:SC):SC:= .seq (.rg r) y
abbrev Zz(n:Int):PV:= .int .i64 n
theorem D0{p:Prop}(h:p:=by first|omega|rfl|(simp+decide only[go_sem]<;>rfl)|fail):p:=h
theorem D1{p A0:Prop}(x0:A0)(h:A0->p:=by intro x0;first|omega|rfl|(simp+decide only[go_sem,x0]<;>rfl)|fail):p:=h x0
theorem D2{p A0 A1:Prop}(x0:A0)(x1:A1)(h:A0->A1->p:=by intro x0 x1;first|omega|rfl|(simp+decide only[go_sem,x0,x1]<;>rfl)|fail):p:=h x0 x1
theorem D3{p A0 A1 A2:Prop}(x0:A0)(x1:A1)(x2:A2)(h:A0->A1->A2->p:=by intro x0 x1 x2;first|omega|rfl|(simp+decide only[go_sem,x0,x1,x2]<;>rfl)|fail):p:=h x0 x1 x2
theorem D4{p A0 A1 A2 A3:Prop}(x0:A0)(x1:A1)(x2:A2)(x3:A3)(h:A0->A1->A2->A3->p:=by intro x0 x1 x2 x3;first|omega|rfl|(simp+decide only[go_sem,x0,x1,x2,x3]<;>rfl)|fail):p:=h x0 x1 x2 x3
theorem D5{p A0 A1 A2 A3 A4:Prop}(x0:A0)(x1:A1)(x2:A2)(x3:A3)(x4:A4)(h:A0->A1->A2->A3->A4->p:=by intro x0 x1 x2 x3 x4;first|omega|rfl|(simp+decide only[go_sem,x0,x1,x2,x3,x4]<;>rfl)|fail):p:=h x0 x1 x2 x3 x4
theorem D6{p A0 A1 A2 A3 A4 A5:Prop}(x0:A0)(x1:A1)(x2:A2)(x3:A3)(x4:A4)(x5:A5)(h:A0->A1->A2->A3->A4->A5->p:=by intro x0 x1 x2 x3 x4 x5;first|omega|rfl|(simp+decide only[go_sem,x0,x1,x2,x3,x4,x5]<;>rfl)|fail):p:=h x0 x1 x2 x3 x4 x5
theorem D8{p A0 A1 A2 A3 A4 A5 A6 A7:Prop}(x0:A0)(x1:A1)(x2:A2)(x3:A3)(x4:A4)(x5:A5)(x6:A6)(x7:A7)(h:A0->A1->A2->A3->A4->A5->A6->A7->p:=by intro x0 x1 x2 x3 x4 x5 x6 x7;first|omega|rfl|(simp+decide only[go_sem,x0,x1,x2,x3,x4,x5,x6,x7]<;>rfl)|fail):p:=h x0 x1 x2 x3 x4 x5 x6 x7
theorem D10{p A0 A1 A2 A3 A4 A5 A6 A7 A8 A9:Prop}(x0:A0)(x1:A1)(x2:A2)(x3:A3)(x4:A4)(x5:A5)(x6:A6)(x7:A7)(x8:A8)(x9:A9)(h:A0->A1->A2->A3->A4->A5->A6->A7->A8->A9->p:=by intro x0 x1 x2 x3 x4 x5 x6 x7 x8 x9;first|omega|rfl|(simp+decide only[go_sem,x0,x1,x2,x3,x4,x5,x6,x7,x8,x9]<;>rfl)|fail):p:=h x0 x1 x2 x3 x4 x5 x6 x7 x8 x9
theorem D11{p A0 A1 A2 A3 A4 A5 A6 A7 A8 A9 dO:Prop}(x0:A0)(x1:A1)(x2:A2)(x3:A3)(x4:A4)(x5:A5)(x6:A6)(x7:A7)(x8:A8)(x9:A9)(cw:dO)(h:A0->A1->A2->A3->A4->A5->A6->A7->A8->A9->dO->p:=by intro x0 x1 x2 x3 x4 x5 x6 x7 x8 x9 cw;first|omega|rfl|(simp+decide only[go_sem,x0,x1,x2,x3,x4,x5,x6,x7,x8,x9,cw]<;>rfl)|fail):p:=h x0 x1 x2 x3 x4 x5 x6 x7 x8 x9 cw
theorem D12{p A0 A1 A2 A3 A4 A5 A6 A7 A8 A9 dO iw:Prop}(x0:A0)(x1:A1)(x2:A2)(x3:A3)(x4:A4)(x5:A5)(x6:A6)(x7:A7)(x8:A8)(x9:A9)(cw:dO)(eh:iw)(h:A0->A1->A2->A3->A4->A5->A6->A7->A8->A9->dO->iw->p:=by intro x0 x1 x2 x3 x4 x5 x6 x7 x8 x9 cw eh;first|omega|rfl|(simp+decide only[go_sem,x0,x1,x2,x3,x4,x5,x6,x7,x8,x9,cw,eh]<;>rfl)|fail):p:=h x0 x1 x2 x3 x4 x5 x6 x7 x8 x9 cw eh
theorem D13{p A0 A1 A2 A3 A4 A5 A6 A7 A8 A9 dO iw jy:Prop}(x0:A0)(x1:A1)(x2:A2)(x3:A3)(x4:A4)(x5:A5)(x6:A6)(x7:A7)(x8:A8)(x9:A9)(cw:dO)(eh:iw)(fb:jy)(h:A0->A1->A2->A3->A4->A5->A6->A7->A8->A9->dO->iw->jy->p:=by intro x0 x1 x2 x3 x4 x5 x6 x7 x8 x9 cw eh fb;first|omega|rfl|(simp+decide only[go_sem,x0,x1,x2,x3,x4,x5,x6,x7,x8,x9,cw,eh,fb]<;>rfl)|fail):p:=h x0 x1 x2 x3 x4 x5 x6 x7 x8 x9 cw eh fb
theorem D14{p A0 A1 A2 A3 A4 A5 A6 A7 A8 A9 dO iw jy uJ:Prop}(x0:A0)(x1:A1)(x2:A2)(x3:A3)(x4:A4)(x5:A5)(x6:A6)(x7:A7)(x8:A8)(x9:A9)(cw:dO)(eh:iw)(fb:jy)(qx:uJ)(h:A0->A1->A2->A3->A4->A5->A6->A7->A8->A9->dO->iw->jy->uJ->p:=by intro x0 x1 x2 x3 x4 x5 x6 x7 x8 x9 cw eh fb qx;first|omega|rfl|(simp+decide only[go_sem,x0,x1,x2,x3,x4,x5,x6,x7,x8,x9,cw,eh,fb,qx]<;>rfl)|fail):p:=h x0 x1 x2 x3 x4 x5 x6 x7 x8 x9 cw eh fb qx
theorem E0{p:Prop}(h:p:=by first|omega|rfl|(simp+decide only[go_sem,ep,Kay,KaD,Kaz,KaF,Kam]<;>rfl)|fail):p:=h
theorem E1{p A0:Prop}(x0:A0)(h:A0->p:=by intro x0;first|omega|rfl|(simp+decide only[go_sem,ep,Kay,KaD,Kaz,KaF,Kam,x0]<;>rfl)|fail):p:=h x0
theorem E2{p A0 A1:Prop}(x0:A0)(x1:A1)(h:A0->A1->p:=by intro x0 x1;first|omega|rfl|(simp+decide only[go_sem,ep,Kay,KaD,Kaz,KaF,Kam,x0,x1]<;>rfl)|fail):p:=h x0 x1
theorem E6{p A0 A1 A2 A3 A4 A5:Prop}(x0:A0)(x1:A1)(x2:A2)(x3:A3)(x4:A4)(x5:A5)(h:A0->A1->A2->A3->A4->A5->p:=by intro x0 x1 x2 x3 x4 x5;first|omega|rfl|(simp+decide only[go_sem,ep,Kay,KaD,Kaz,KaF,Kam,x0,x1,x2,x3,x4,x5]<;>rfl)|fail):p:=h x0 x1 x2 x3 x4 x5
theorem T0{p:Prop}(h:p:=by simp+decide (disch:=try exact D0) only[go_sem]):p:=h
theorem Tr0{p:Prop}(h:p:=by simp+decide (disch:=try exact D0) only[go_sem]<;>rfl):p:=h
theorem T1{p A0:Prop}(x0:A0)(h:A0->p:=by intro x0;simp+decide (disch:=try exact D1 x0) only[go_sem,x0]):p:=h x0
abbrev Ya(t:Nat)(r:RT):RT:=Zl t 1 57<|Zo (.conv (t+1) .u64 (.t t))<|Zb (t+2) .rem 53 (t+1) r
abbrev Yb(t:Nat)(r:RT):RT:=Zo (.alloc t 3 51 (.agg [.bool false,.al,.al])) r
abbrev Yc(t:Nat)(a:Nat)  :RT:=Zm t a .nil
abbrev Yd(t:Nat)(a:Nat)(r:RT):RT:=Zo (.ext t (.t a) 0)<|Zo (.ext (t+1) (.t a) 1) r
abbrev Ye(t:Nat)(a b:Nat)(r:RT):RT:=Zm t a<|Zm (t+1) b r
abbrev Yf(t:Nat)(a b:Nat)(r:RT):RT:=Zf t a b<|Zl (t+1) 1 t r
abbrev Yh(t:Nat)  :RT:=Zo (.mv t (.c (.bool false))) .nil
abbrev Yi(t:Nat)(r:RT):RT:=Zo (.mv t (.c .al)) r
abbrev Yj(t:Nat)(a b:Nat)(r:RT):RT:=Zo (.pick t (.t a) (.c (.bool true)) (.t b)) r
abbrev Yk(t:Nat)(a b:Nat)(r:RT):RT:=Zq t false a [.t b] r
abbrev Yl(t:Nat)(a:Int)  :RT:=Zc t a .nil
abbrev Ym(t:Nat)(a b c:Nat)(r:RT):RT:=Zq t false a [.t b,.t c] r
abbrev Yn(t:Nat)(a b:Nat)(r:RT):RT:=Ye t a b<|Zi (t+2) 1 t (t+1)<|Zl (t+3) 1 (t+2) r
abbrev Yo(t:Nat)(a:Nat)(r:RT):RT:=Zm t a<|Zn (t+1) t r
abbrev Yp(t:Nat)(a b:Nat)(r:RT):RT:=Zo (.pick t (.t a) (.t b) (.c (.bool false))) r
abbrev Yq(t:Nat)(r:RT):RT:=Zo (.alloc t 1 112 (.int .u64 0)) r
abbrev Yr(t:Nat)(a b c:Nat)(r:RT):RT:=Zq t true a [.t b,.t c] r
abbrev Ys(t:Nat)(a b:Nat)  :RT:=Zb t .lss a b .nil
abbrev Yu(t:Nat)(a b:Nat)(r:RT):RT:=Zm t a<|Zg t false (.mv (t+1) (.t b)) r
abbrev Yv(t:Nat)(a b c d e f:Nat)  :RT:=Zo (.bs t a b [.t c])<|Zo (.app (t+1) a d b (.t e) (.t t))<|Yc f (t+1)
abbrev Yw(t:Nat)(a b:Nat)  :RT:=Zk t .add a 1<|Yc b t
abbrev Yx(t:Nat)  :RT:=Zs t (t+9) 60 .nil
abbrev Yy(t:Nat)(a b c d:Nat)  :RT:=Zi t 4 a b<|Zh (t+1) 4 t<|Zo (.alloc c 4 d (.agg [.bool false,.al,.al,.al]))<|Zs 4 c (t+1) .nil
abbrev Yz(t:Nat)(a b:Nat)(r:RT):RT:=Zm t a<|Yk (t+1) b t r
abbrev YA(t:Nat)(a b c:Nat)(r:RT):RT:=Zm t a<|Zg t false (.fP (t+1) b (.t c))<|Zg t false (.ld (t+2) 1 false (.t (t+1))) r
abbrev YB(t:Nat)(a b:Nat)(r:RT):RT:=Zm t a<|Zk (t+1) .gtr t 0<|Zm (t+2) (t+1)<|Zg (t+2) true (.mv (t+3) (.t 0))<|Zg (t+2) true (.mv (t+4) (.t a))<|Zg (t+2) true (.bin (t+5) .sub false (.t (t+4)) (.c (Zz 1)))<|Zg (t+2) true (.idx (t+6) b (.t (t+3)) (.t (t+5))) r
abbrev YC(t:Nat)(a b c:Nat)(r:RT):RT:=Zh t 3 a<|Yk (t+1) 108 t<|Zm b (t+1)<|Yd (t+2) b<|Zo (.alloc c 2 49 (.agg [.bool false,.al]))<|Zs 2 c (t+2) r
abbrev YD(t:Nat)(a b:Nat)  :RT:=Zk t .add a 1<|Zm b t .nil
abbrev YE(t:Nat)  :RT:=Yi t .nil
abbrev YG(t:Nat)(a b:Nat)(r:RT):RT:=Zo (.eA t [.bool false,.al,.al,.al] [(0,3,.t a),(3,1,.t b)]) r
abbrev YH(t:Nat)(a b:Nat)  :RT:=Ye t a b<|Zn (t+2) (t+1)<|Ys (t+3) t (t+2)
abbrev YI(t:Nat)(a b c:Nat)(r:RT):RT:=Zi t a b c<|Zh (t+1) a t r
abbrev YJ(t:Nat)(a:Nat)(r:RT):RT:=Zl t 1 5<|Zk (t+1) .sub t 1<|Zi (t+2) 1 a (t+1) r
abbrev YK(t:Nat)(a b c:Nat)(r:RT):RT:=Yu t a 0<|Zg t false (.mv (t+2) (.t b))<|Zg t false (.idx (t+3) 4 (.t (t+1)) (.t (t+2)))<|Zg t false (.fP (t+4) c (.t (t+3))) r
abbrev YL(t:Nat)(a b c:Nat)(r:RT):RT:=Ye t a b<|Ym (t+2) c t (t+1) r
abbrev YM(t:Nat)(a b:Nat)(r:RT):RT:=Zi t 1 a b<|Zl (t+1) 1 t r
abbrev YN(t:Nat)  :RT:=Zs t (t+8) 52<|Yx t
abbrev YO(t:Nat)(a b:Nat)(r:RT):RT:=Zg t true (.fP (t+1) a (.t b))<|Zg t true (.ld (t+2) 1 false (.t (t+1))) r
abbrev YP(t:Nat)(a:Nat)  :RT:=Yo t a<|Yl (t+2) 0
abbrev YQ(t:Nat)  :RT:=Zs t (t+8) 52<|Ya 58<|Yx t
abbrev YS(t:Nat)(a b:Nat)(r:RT):RT:=Zm t a<|Zg t true (.mv (t+1) (.t b)) r
abbrev YT(t:Nat)(a b:Nat)(r:RT):RT:=Zf t 0 a<|Zh (t+1) b t r
abbrev YU(t:Nat)(a:Nat)(r:RT):RT:=Zo (.box t (t+1) a (.t 0))<|Zo (.box (t+1) (t+1) a (.t 1)) r
abbrev YV(t:Nat)(a b c:Nat)  :RT:=Zo (.conv t .u16 (.t a))<|Zi (t+1) 1 b c<|Zs 1 (t+1) t .nil
abbrev YW(t:Nat)(a b:Nat)  :RT:=Zm t a<|Yc b t
abbrev YX(t:Nat)(a b c:Nat)(r:RT):RT:=Ye t a b<|Zm (t+2) c r
abbrev YY(t:Nat)(a b:Nat)(r:RT):RT:=Zq t true a [.t b] r
abbrev YZ(t:Nat)  :RT:=Zo (.mv t (.c (.bool true))) .nil
abbrev dG(t:Nat)(a b c:Nat)(r:RT):RT:=Zh t a b<|Yk (t+1) c t r
abbrev jh(t:Nat)(r:RT):RT:=Zl t 1 3<|Zi (t+3) 1 t (t+2) r
abbrev BY(t:Nat)(r:RT):RT:=Zm t 0<|YS (t+1) t 1<|Zg (t+1) true (.len (t+3) (.t (t+2)))<|Zg (t+1) true (.bin (t+4) .gtr false (.t (t+3)) (.c (Zz 0)))<|Yp (t+5) (t+1) (t+4)<|Zm (t+6) 1<|Zo (.eA (t+7) [.bool false,.al] [(0,1,.t (t+5)),(1,1,.t (t+6))]) r
abbrev qd(t:Nat)(r:RT):RT:=Zo (.alloc t 3 24 (.agg [Zz 0,Zz 0,.al])) r
abbrev mX(t:Nat)(a b:Nat)  :RT:=Zm t a<|Yc (t+1) b
abbrev sA(t:Nat)  :RT:=Zo (.alloc t 2 49 (.agg [.bool false,.al])) .nil
abbrev sB(t:Nat)  :RT:=Zo (.alloc t t 49 (.agg [.bool false,.al])) .nil
abbrev qe(t:Nat)(a b c d e f:Nat)  :RT:=Yr t a b c<|Zm d t<|Yd (t+1) d<|Zs 3 e (t+1)<|Yc f (t+2)
abbrev mY(t:Nat)(a b c:Nat)  :RT:=Yd t a<|Yb b<|Zs 3 b t<|Yc c (t+1)
abbrev gZ(t:Nat)(a:Nat)(r:RT):RT:=Zo (.box t (t+2) a (.t 0)) r
abbrev lU(t:Nat)(a:Nat)(r:RT):RT:=Yd t a<|Zo (.ext (t+2) (.t a) 2) r
abbrev hO(t:Nat)(a:Nat)  :RT:=Zk t .neq a 0 .nil
abbrev sC(t:Nat)(r:RT):RT:=Zo (.box t t 49 (.t 0))<|Zo (.box (t+1) t 49 (.t 1)) r
abbrev ew(t:Nat)(a b:Nat)  :RT:=Yj t a b .nil
abbrev BZ(t:Nat)(a b:Nat)(r:RT):RT:=Ye t a 0<|Zn (t+2) (t+1)<|Zb (t+3) .lss t (t+2)<|Yu (t+4) (t+3) b<|Zg (t+4) false (.mv (t+6) (.t 1))<|Zg (t+4) false (.len (t+7) (.t (t+6)))<|Zg (t+4) false (.bin (t+8) .lss false (.t (t+5)) (.t (t+7))) r
abbrev sD(t:Nat)(a:Int)(r:RT):RT:=Zg t false (.bin (t+3) .gtr false (.t (t+2)) (.c (Zz a))) r
abbrev gh(t:Nat)(a b:Nat)  :RT:=Zm t a<|Yw (t+1) t b
abbrev oY(t:Nat)(a b:Nat)(r:RT):RT:=Ye t a b<|Zi (t+2) 4 t (t+1)<|Yf (t+3) 3 (t+2) r
abbrev qZ(t:Nat)(a b:Nat)(r:RT):RT:=Zo (.mk t 1 2 155 (.int .u16 0) (.t a) (.t b)) r
abbrev ji(t:Nat)(a b c d e:Nat)  :RT:=Yr t a b c<|Zs d e t .nil
abbrev jH(t:Nat)(a b:Nat)  :RT:=Zm t a<|Zm b t .nil
abbrev zO(t:Nat)(a b:Nat)  :RT:=Yp t a b<|Zm (t+1) t<|Zg (t+1) true (.call (some (t+2)) false (.c (.fn 21 [] [])) [])<|Yp (t+3) (t+1) (t+2)<|Yc 4 (t+3)
abbrev vJ(t:Nat)  :RT:=Zo (.alloc t (t+1) 51 (.agg [.bool false,.al,.al])) .nil
abbrev jj(t:Nat)(a:Nat)  :RT:=Zm t a<|YD (t+1) t a
abbrev vK(t:Nat)(a:Nat)(r:RT):RT:=Zm t a<|Zo (.bin (t+1) .shr false (.t t) (.c (.int .u64 16))) r
abbrev vG(t:Nat)(a:Nat)(r:RT):RT:=Zg t false (.call (some (t+2)) false (.c (.fn a [] [])) [.t (t+1)]) r
abbrev nV(t:Nat)(a b c d:Nat)(r:RT):RT:=Zh t a b<|Zh (t+1) a c<|Ym (t+2) d t (t+1) r
abbrev jW(t:Nat)(a:Nat)(b:Int)(r:RT):RT:=Zq t false a [.c (Zz b)] r
abbrev kX(t:Nat)(a:Nat)(r:RT):RT:=Zo (.conv t .u32 (.t a)) r
abbrev qW(t:Nat)(a b:Nat)(r:RT):RT:=Yu t a b<|Zg t false (.len (t+2) (.t (t+1))) r
abbrev eS(t:Nat)(a b c d:Nat)(r:RT):RT:=Yf t a b<|Yf (t+2) c d r
abbrev qX(t:Nat)(a:Nat)  :RT:=Zm t a<|Zk (t+1) .sub t 1<|Yc a (t+1)
abbrev lR(t:Nat)(a:Nat)  :RT:=Yb t<|Zs 3 t a .nil
abbrev xv(t:Nat)(a:Nat)(r:RT):RT:=Zo (.mk t 3 56 51 (.agg [.bool false,.al,.al]) (.t a) (.t a)) r
abbrev jE(t:Nat)(a b:Nat)(r:RT):RT:=Zo (.box t (t+1) a (.t b)) r
abbrev jF(t:Nat)(a b:Nat)  :RT:=Yd t a<|mX b t (t+1)
abbrev lS(t:Nat)(a:Nat)(r:RT):RT:=Zo (.conv t .u64 (.t a)) r
abbrev xw(t:Nat)(a b:Nat)(r:RT):RT:=Zo (.eA t [.bool false,.al,.al] [(0,2,.t a),(2,1,.t b)]) r
abbrev jG(t:Nat)(a:Nat)(b:Int)  :RT:=Zk t .eql a b .nil
abbrev cX(t:Nat)(a b:Nat)(r:RT):RT:=Zb t .add a b r
abbrev gg(t:Nat)  :RT:=Ya t<|YN 1
abbrev ky(t:Nat)(a b c:Nat)(r:RT):RT:=Ye t a b<|YI (t+2) c t (t+1) r
abbrev vH(t:Nat)  :RT:=Zg t false (.un (t+3) .not (.t (t+2)))<|ew (t+4) t (t+3)
abbrev lT(t:Nat)(a:Nat)(r:RT):RT:=Yz t 0 a<|Yz (t+2) 1 a r
abbrev vI(t:Nat)(a b c d e:Nat)(r:RT):RT:=Yf t 2 a<|Zm (t+2) b<|Yf (t+3) c d<|Zb (t+5) .mul (t+2) (t+4)<|Zm (t+6) e r
abbrev jX(t:Nat)  :RT:=Zc t (-1) .nil
abbrev qY(t:Nat)(a b c:Nat)(r:RT):RT:=Yu t a b<|Zg t false (.mv (t+2) (.t c)) r
abbrev BW(t:Nat)(a:Nat)  :RT:=Zg t false (.call (some (t+6)) false (.c (.fn a [] [])) [.t (t+5)])<|Zg t false (.un (t+7) .not (.t (t+6)))<|ew (t+8) t (t+7)
abbrev BX(t:Nat)(a b c d e:Nat)(r:RT):RT:=Yj t a b<|YA (t+1) t 2 c<|Zg (t+1) false (.len (t+4) (.t (t+3)))<|Zg (t+1) false (.fP (t+5) d (.t e))<|Zg (t+1) false (.ld (t+6) 1 false (.t (t+5))) r
abbrev oX(t:Nat)(a:Nat)(b:Int)(c:Nat)  :RT:=Zk t .eql a b<|Zm c t .nil
abbrev ia(t:Nat)(a:Int)  :RT:=Yi t<|Yl (t+1) a
abbrev nX(t:Nat)(a:Nat)(r:RT):RT:=Zm t a<|Zk (t+1) .lss t 0 r
abbrev ra(t:Nat)(a b c:Nat)  :RT:=Zm t a<|YM (t+1) b a<|mX c t (t+2)
abbrev xx(t:Nat)(a:Nat)(b:Nat)(c:Int)(r:RT):RT:=Yu t a b<|Zg t false (.bin (t+2) .gtr false (.t (t+1)) (.c (Zz c))) r
abbrev zP(t:Nat)(a b:Nat)  :RT:=Zh t a 2<|Zh (t+2) a 3<|YY (t+1) b t<|YY (t+3) b (t+2)<|Zs a 2 (t+1)<|Zs a 3 (t+3) .nil
abbrev B2(t:Nat)(a b:Nat)(r:RT):RT:=YB t a 4<|Zg (t+2) true (.fP (t+7) 3 (.t (t+6)))<|Zg (t+2) true (.ld (t+8) 1 false (.t (t+7)))<|Zg (t+2) true (.mv (t+9) (.t b)) r
abbrev kZ(t:Nat)(r:RT):RT:=Yo t 0<|Yo (t+2) 1 r
abbrev jk(t:Nat)(a:Nat)  :RT:=Zs t (t+1) a .nil
abbrev mZ(t:Nat)(a b c d e:Nat)(r:RT):RT:=Zo (.app t a b c (.t d) (.t e)) r
abbrev tV(t:Nat)(a b c:Nat)(r:RT):RT:=Zo (.sl t a (.t b) none (some (.t c)) none) r
abbrev re(t:Nat)(a:Int)(r:RT):RT:=Zo (.mv t (.c (.int .u64 a))) r
abbrev gK(t:Nat)(a b:Nat)  :RT:=Zs t a b .nil
abbrev Fr:=Nat->PV
structure HB where
 e:Nat
 ty:TypeId
 xs:List PV
 fz:Bool
abbrev HP:=Nat->Option HB
def ae(f:Fr)(a:Nat)(v:PV):Fr:=fun b=>if b=a then v else f b
def Qi(h:HP)(a:Nat)(v:HB):HP:=fun b=>if b=a then some v else h b
def bJ:Fr:=fun _=> .undef
def aA:HP:=fun _=>none
def bE(β:Nat):Bool:=decide (1000000<=β)
def aP(β:Nat):Bool:=decide (1000000<=β)&&decide (β<2000000)
def dK(β:Nat):Bool:=decide (1500000<=β)&&decide (β<2000000)
theorem zt{β:Nat}(h:aP β=false):dK β=false:=by
 simp[aP]at h;simp[dK];omega
theorem zu{β:Nat}(h:bE β=false):aP β=false:=by simp[bE]at h;simp[aP];omega
def PV.bX:PV->List Nat
 | .mp β _ _=>[β]
 | .aB β _ _| .rb β _ _=>[β]
 |_=>[]
def PV.refs:PV->List Nat
 | .mp β _ _=>[β]
 | .aB β _ _| .rb β _ _=>[β]
 | .fn _ first cap=>first.flatMap PV.bX++cap.flatMap PV.bX
 |_=>[]
def PV.lC:PV->Bool
 | .mp .. | .aB .. | .rb .. | .int .. | .bool _| .al| .sl .. | .pt _| .np .. | .aG .. =>true
 |_=>false
def PV.gB:PV->List Nat
 | .aB β _ _=>[β]
 | .aG γ _ _| .np γ _ _=>[γ]
 |_=>[]
def PV.dY:PV->List Nat
 | .aG γ _ _| .np γ _ _=>[γ]
 |_=>[]
def PV.aQ:PV->List Nat
 | .aG γ _ _| .np γ _ _=>[γ]
 | .bm cs=>cs.flatMap PV.gB
 | .aF γ _ _ xs=>γ::xs.flatMap fun x=>x.aU.flatMap PV.gB
 | .fn _ first cap=>first.flatMap PV.dY++cap.flatMap PV.dY
 |_=>[]
def cd(β:Nat)(p:PV):PV:=if p.refs.contains β then .undef else p
def cx(β:Nat)(fr:Fr):Fr:=fun i=>cd β (fr i)
def cN(hp:HP):PV->PV
 | .mp β i o=>if aP β then .undef else match hp β with
  |some hb=>match hb.xs[i]? with
   |some x=> .pt (x.cells.drop o)
   |none=> .undef
  |none=> .undef
 | .aB β o n=>if aP β then .undef else match hp β with
  |some hb=> .sl hb.e ((hb.xs.drop o).take n)
  |none=> .undef
 | .rb _ _ _| .aG _ _ _| .np _ _ _| .bm _| .aF _ _ _ _=> .undef
 |p=>p
def aO(hp:HP):PV->PV
 | .fn f first cap=> .fn f (first.map (cN hp)) (cap.map (cN hp))
 |p=>cN hp p
def bV(hp:HP)(l:List Nat):HP:=fun β=>if l.contains β then(hp β).map fun hb=>{ hb with fz:=true }else hp β
def ev(fr:Fr):aS->PV
 | .t n=>fr n
 | .c p=>p
def eE:Bool->Nat->Nat->PV->PV
 |true,n,o,x=> .agg ((x.cells.drop o).take n)
 |false,_,o,x=>(x.cells.drop o).headD .undef
def tc(x:PV)(o:Nat)(v:PV):PV:= .agg (x.cells.take o++v.cells++x.cells.drop (o+v.cells.length))
def PV.nr:PV->Bool
 | .aB .. | .aG .. | .undef=>true
 |_=>false
def nF(cs:List PV):PV:=if cs.any PV.nr then .bm cs else .agg cs
def fA:List PV->PV
 | [c]=>c
 |cs=>nF cs
def rI(ag:Bool)(n o:Nat)(x:PV):PV:=if ag then nF ((x.aU.drop o).take n)else(x.aU.drop o).headD .undef
def eU:PV->Option (List PV)
 | .bm cs=>if cs.all PV.iX then some cs else none
 | .aG γ o n=>some [.aG γ o n]
 | .aB β o n=>if bE β then some [.aB β o n]else none
 | .int k n=>some [.int k n]
 | .bool b=>some [.bool b]
 | .al=>some [.al]
 | .sl e xs=>some [.sl e xs]
 | .pt cs=>some [.pt cs]
 | .agg cs=>some cs
 |_=>none
def oP(l:List PV)(o:Nat)(cs:List PV):List PV:=l.take o++cs++l.drop (o+cs.length)
def gT(γ:Nat):PV->PV
 | .aF bo e ty xs=>if bo=γ then .undef else .aF bo e ty xs
 |p=>p
def gU(γ:Nat)(fr:Fr):Fr:=fun i=>gT γ (fr i)
def jc(β:Nat):PV->PV
 | .aB bn o n=>if bn=β then .undef else .aB bn o n
 | .aG γ o n=>if γ=β then .undef else .aG γ o n
 |p=>p
def cT(β:Nat):PV->PV
 | .aF γ e ty xs=>if γ=β then .undef else .aF γ e ty (xs.map fun x=>fA (x.aU.map (jc β)))
 | .bm cs=> .bm (cs.map (jc β))
 | .aG γ o n=>if γ=β then .undef else .aG γ o n
 | .np γ i o=>if γ=β then .undef else .np γ i o
 | .fn f first cap=>if(first.flatMap PV.dY++cap.flatMap PV.dY).contains β then .undef else cd β (.fn f first cap)
 |p=>cd β p
def fJ(β:Nat)(fr:Fr):Fr:=fun i=>cT β (fr i)
abbrev Qh:=Fr->HP->Prop
def ca(op:BinOp)(bt:Bool)(a b:PV)(d:Nat)(fr:Fr)(hp:HP)(K:Qh):Prop:=
 match a,b with
 | .int k x,.int k' y=>
  match op with
  | .shl=>0<=y/\K (ae fr d (.int k (k.wrap (x*2^(min y.toNat k.bits))))) hp
  | .shr=>0<=y/\K (ae fr d (.int k (x.fdiv (2^(min y.toNat k.bits))))) hp
  | .add=>k=k'/\K (ae fr d (.int k (k.wrap (x+y)))) hp
  | .sub=>k=k'/\K (ae fr d (.int k (k.wrap (x-y)))) hp
  | .mul=>k=k'/\K (ae fr d (.int k (k.wrap (x*y)))) hp
  | .quo=>k=k'/\y≠0/\K (ae fr d (.int k (k.wrap (x.tdiv y)))) hp
  | .rem=>k=k'/\y≠0/\K (ae fr d (.int k (x.tmod y))) hp
  | .and=>k=k'/\K (ae fr d (.int k (k.wrap (BitVec.ofInt k.bits x&&&BitVec.ofInt k.bits y).toNat))) hp
  | .or=>k=k'/\K (ae fr d (.int k (k.wrap (BitVec.ofInt k.bits x|||BitVec.ofInt k.bits y).toNat))) hp
  | .xor=>k=k'/\K (ae fr d (.int k (k.wrap (BitVec.ofInt k.bits x^^^BitVec.ofInt k.bits y).toNat))) hp
  | .andNot=>False
  | .eql=>k=k'/\K (ae fr d (.bool (decide (x=y)))) hp
  | .neq=>k=k'/\K (ae fr d (.bool (!decide (x=y)))) hp
  | .lss=>k=k'/\K (ae fr d (.bool (decide (x<y)))) hp
  | .leq=>k=k'/\K (ae fr d (.bool (decide (x<=y)))) hp
  | .gtr=>k=k'/\K (ae fr d (.bool (decide (y<x)))) hp
  | .geq=>k=k'/\K (ae fr d (.bool (decide (y<=x)))) hp
 | .bool x,.bool y=>
  match op with
  | .eql=>bt=true/\K (ae fr d (.bool (x==y))) hp
  | .neq=>bt=true/\K (ae fr d (.bool (!(x==y)))) hp
  |_=>False
 |_,_=>False
def ss(ng:Bool)(a b:PV)(d:Nat)(fr:Fr)(hp:HP)(K:Qh):Prop:=
 match a,b with
 | .agg [.int k x,.int l y],.agg [.int k' x',.int l' y']=>k=k'/\l=l'/\K (ae fr d (.bool (ng !=(decide (x=x')&&decide (y=y'))))) hp
 |_,_=>False
def tJ(c a b:PV)(d:Nat)(fr:Fr)(hp:HP)(K:Qh):Prop:=
 match c with
 | .bool t=>(t=true->K (ae fr d a) hp)/\(t=false->K (ae fr d b) hp)
 |_=>False
def wF(op:UnOp)(a:PV)(d:Nat)(fr:Fr)(hp:HP)(K:Qh):Prop:=
 match op,a with
 | .not,.bool b=>K (ae fr d (.bool !b)) hp
 | .neg,.int k n=>K (ae fr d (.int k (k.wrap (0-n)))) hp
 |_,_=>False
def xf(k:IntKind)(a:PV)(d:Nat)(fr:Fr)(hp:HP)(K:Qh):Prop:=
 match a with
 | .int _ n=>K (ae fr d (.int k (k.wrap n))) hp
 |_=>False
def pW(a:PV)(d:Nat)(fr:Fr)(hp:HP)(K:Qh):Prop:=
 match a with
 | .al=>K (ae fr d (.int .i64 0)) hp
 | .sl _ xs=>K (ae fr d (.int .i64 xs.length)) hp
 | .aB _ _ n=>K (ae fr d (.int .i64 n)) hp
 | .aG _ _ n=>K (ae fr d (.int .i64 n)) hp
 |_=>False
def yy(a b:PV)(d:Nat)(fr:Fr)(hp:HP)(K:Qh):Prop:=
 match a,b with
 | .int k x,.int _ y=>K (ae fr d (.int k (max x y))) hp
 |_,_=>False
def yw(a b:PV)(d:Nat)(fr:Fr)(hp:HP)(K:Qh):Prop:=
 match a,b with
 | .int k x,.int _ y=>K (ae fr d (.int k (min x y))) hp
 |_,_=>False
def iR(e:Nat)(a i:PV)(d:Nat)(fr:Fr)(hp:HP)(K:Qh):Prop:=
 match a,i with
 | .sl e' xs,.int _ n=>e=e'/\0<=n/\∃h:n.toNat<xs.length,K (ae fr d (.pt (xs[n.toNat]'h).cells)) hp
 | .aB β o m,.int _ n=>0<=n/\n.toNat<m/\(hp β).map (·.e)=some e/\K (ae fr d (.mp β (o+n.toNat) 0)) hp
 | .aG γ o m,.int _ n=>0<=n/\n.toNat<m/\(hp γ).map (·.e)=some e/\K (ae fr d (.np γ (o+n.toNat) 0)) hp
 |_,_=>False
def vj(len e:Nat)(a i:PV)(d:Nat)(fr:Fr)(hp:HP)(K:Qh):Prop:=
 match a,i with
 | .mp β j o,.int _ n=>0<=n/\n<len/\K (ae fr d (.mp β j (o+n.toNat*e))) hp
 | .pt cs,.int _ n=>0<=n/\n<len/\n.toNat*e<=cs.length/\K (ae fr d (.pt (cs.drop (n.toNat*e)))) hp
 |_,_=>False
def vw(len e:Nat)(ag:Bool)(a i:PV)(d:Nat)(fr:Fr)(hp:HP)(K:Qh):Prop:=
 match a,i with
 | .agg cs,.int _ n=>0<=n/\n<len/\n.toNat*e+e<=cs.length/\(ag=false->e=1)/\K (ae fr d (eE ag e (n.toNat*e) (.agg cs))) hp
 |_,_=>False
def su(off:Nat)(a:PV)(d:Nat)(fr:Fr)(hp:HP)(K:Qh):Prop:=
 match a with
 | .mp β i o=>K (ae fr d (.mp β i (o+off))) hp
 | .np γ i o=>K (ae fr d (.np γ i (o+off))) hp
 | .pt cs=>off<=cs.length/\K (ae fr d (.pt (cs.drop off))) hp
 |_=>False
def r9(off n:Nat)(ag:Bool)(a:PV)(d:Nat)(fr:Fr)(hp:HP)(K:Qh):Prop:=
 match a with
 | .agg cs=>off+n<=cs.length/\(ag=false->n=1)/\K (ae fr d (eE ag n off (.agg cs))) hp
 | .bm cs=>off+n<=cs.length/\(ag=false->n=1)/\K (ae fr d (rI ag n off (.bm cs))) hp
 |_=>False
def iW(n:Nat)(ag:Bool)(a:PV)(d:Nat)(fr:Fr)(hp:HP)(K:Qh):Prop:=
 match a with
 | .mp β i o=>match hp β with
  |some hb=>∃h:i<hb.xs.length,o+n<=hb.e/\(ag=false->n=1)/\K (ae fr d (eE ag n o (hb.xs[i]'h))) hp
  |none=>False
 | .pt cs=>n<=cs.length/\(ag=false->n=1)/\K (ae fr d (eE ag n 0 (.agg cs))) hp
 | .rb β o m=>n=1/\ag=false/\K (ae fr d (.aB β o m)) hp
 | .np γ i o=>match fr γ with
  | .aF bo e _ xs=>bo=γ/\∃h:i<xs.length,o+n<=e/\(ag=false->n=1)/\K (ae fr d (rI ag n o (xs[i]'h))) hp
  |_=>False
 |_=>False
def ow (n:Nat) (a v:PV) (fr:Fr) (hp:HP) (K:Qh):Prop:=
 match a with
 | .mp β i o=>match bV hp v.refs β with
  | some hb=>hb.fz=false/\(aO hp v).aL=true/\(aO hp v).cells.length=n/\∃h:i<hb.xs.length,o+n<=hb.e/\
    K fr (Qi (bV hp v.refs) β { hb with xs:=hb.xs.set i (if n=hb.e then aO hp v else tc (hb.xs[i]'h) o (aO hp v)) })
  |none=>False
 | .np γ i o=>match fr γ with
  | .aF bo e ty xs=>bo=γ/\(∃hb,hp γ=some hb/\hb.fz=false)/\∃h:i<xs.length,o+n<=e/\match eU v with
   |some cs=>cs.length=n/\K (ae (gU γ fr) γ (.aF γ e ty (xs.set i (fA (oP (xs[i]'h).aU o cs))))) hp
   |none=>False
  |_=>False
 |_=>False
def iB(n ty:Nat)(v:PV)(d:Nat)(fr:Fr)(hp:HP)(K:Qh):Prop:=
 match(match v with| .aB β o m=>if aP β then some (β,o,m)else none|_=>none)with
 |some (β,o,m)=>K (ae fr d (.rb β o m)) hp
 |none=>
 (aO hp v).aL=true/\(aO hp v).cells.length=n/\0<n/\K (ae (cx d fr) d (.mp d 0 0)) (Qi (bV hp v.refs) d ⟨n,ty,[aO hp v],false⟩)
def ot(e by_ ty:Nat)(z l c:PV)(d:Nat)(fr:Fr)(hp:HP)(K:Qh):Prop:=
 match l,c with
 | .int _ L,.int _ C=>0<e/\z.cells.length=e/\0<=L/\L<=C/\by_*C<=281474976710656/\C<=9223372036854775807/\
   K (ae (cx d fr) d (.ms d L.toNat)) (Qi hp d ⟨e,ty,List.replicate L.toNat z,false⟩)
 |_,_=>False
def Fi(hp:HP)(e:Nat)(ps:List PV):Prop:=∀p∈ps,(aO hp p).aL=true/\(aO hp p).cells.length=e
def lK:PV->Bool
 | .aB β 0 _=>decide (5000000<=β)
 |_=>false
def nO:List PV->Bool
 | [x]=>lK x
 |_=>false
def iu(d:Nat):Nat:=4000000+d
def Tu(e ty:Nat)(ps:List PV)(d:Nat)(fr:Fr)(hp:HP)(K:Qh):Prop:=
 e=1/\K (ae (ae (fJ (iu d) fr) (iu d) (.aF (iu d) 1 ty ps)) d (.aG (iu d) 0 1)) (Qi hp (iu d) ⟨1,ty,[],false⟩)
def zG (e by_ ty:Nat) (s x:PV) (d:Nat) (fr:Fr) (hp:HP) (K:Qh):Prop:=
 match x with
 | .aG δ 0 1=>match fr δ with
  | .aF LM 1 _ [y]=>LM=δ/\lK y=true/\e=1/\
   match s with
   | .al=>by_<=140737488355328/\K (ae (ae (fJ (iu d) fr) (iu d) (.aF (iu d) 1 ty [y])) d (.aG (iu d) 0 1)) (Qi hp (iu d) ⟨1,ty,[],false⟩)
   | .aG γ 0 k=>match fr γ with
    | .aF bo 1 ty2 xs=>(bo=γ/\γ<5000000/\aP γ=false/\ty2=ty/\k=xs.length/\xs.all lK=true/\(k+1)*by_<=140737488355328/\k+1<=9223372036854775807)/\(∃hb,hp γ=some hb/\hb.fz=false)/\
      K (ae (ae (fJ γ fr) γ (.aF γ 1 ty (xs++[y]))) d (.aG γ 0 (k+1))) (Qi hp γ ⟨1,ty,[],false⟩)
    |_=>False
   |_=>False
  |_=>False
 |_=>False
def B3(e ty:Nat)(ps:List PV)(d:Nat)(fr:Fr)(hp:HP)(K:Qh):Prop:=
 0<e/\Fi hp e ps/\K (ae (cx d fr) d (.ms d ps.length)) (Qi (bV hp (ps.flatMap PV.refs)) d ⟨e,ty,ps.map (aO hp),false⟩)
def lV(e ty:Nat)(ps:List PV)(d:Nat)(fr:Fr)(hp:HP)(K:Qh):Prop:=if nO ps=true then Tu e ty ps d fr hp K else B3 e ty ps d fr hp K
def jd(hp:HP):PV->Option (Nat×List PV)
 | .al=>some (0,[])
 | .sl e xs=>some (e,xs)
 | .aB β o n=>(hp β).map fun hb=>(hb.e,(hb.xs.drop o).take n)
 |_=>none
def iC (e by_ ty:Nat) (s x:PV) (d:Nat) (fr:Fr) (hp:HP) (K:Qh):Prop:=
 match jd hp x with
 |none=>zG e by_ ty s x d fr hp K
 | some (e',ys)=>0<e/\(e'=e∨ys=[])/\
  match s with
  | .al=>ys.length*by_<=140737488355328/\ys.length<=9223372036854775807/\
    K (ae (cx d fr) d (.ms d ys.length)) (Qi hp d ⟨e,ty,ys,false⟩)
  | .aB β 0 n=>match hp β with
   | some hb=>(bE β=false/\hb.fz=false/\hb.e=e/\hb.ty=ty/\n<=hb.xs.length/\(n+ys.length)*by_<=140737488355328/\n+ys.length<=9223372036854775807/\
     K (ae (cx β fr) d (.ms β (n+ys.length))) (Qi hp β ⟨e,ty,hb.xs.take n++ys,false⟩))∨
    (bE β=true/\aP β=false/\(ys≠[]/\hb.fz=false/\hb.e=e/\hb.ty=ty/\n<=hb.xs.length/\(n+ys.length)*by_<=140737488355328/\n+ys.length<=9223372036854775807)/\
     K (ae (fJ β fr) d (.ms β (n+ys.length))) (Qi hp β ⟨e,ty,hb.xs.take n++ys,false⟩))
   |none=>False
  |_=>False
def qL (e:Nat) (s x:PV) (d:Nat) (fr:Fr) (hp:HP) (K:Qh):Prop:=
 match jd hp x,s with
 |some (e',ys),.aB β 0 n=>match hp β with
  | some hb=>0<e/\hb.fz=false/\hb.e=e/\(e'=e∨ys=[])/\n=hb.xs.length/\
    K (ae fr d (.int .i64 (min (ys.length:Int) n))) (Qi hp β { hb with xs:=ys.take n++hb.xs.drop ys.length })
  |none=>False
 |_,_=>False
def iK(d:Int):Option PV->Option Int
 |none=>some d
 |some (.int _ n)=>some n
 |some _=>none
def iZ(e:Nat)(a:PV)(lo hi mx:Option PV)(d:Nat)(fr:Fr)(hp:HP)(K:Qh):Prop:=
 match a with
 | .al=>match iK 0 lo,iK 0 hi,iK 0 mx with
  |some L,some H,some M=>L=0/\H=0/\M=0/\(mx.isSome->hi.isSome)/\K (ae fr d .al) hp
  |_,_,_=>False
 | .sl e' xs=>match iK 0 lo,iK xs.length hi,iK xs.length mx with
  |some L,some H,some M=>e'=e/\0<=L/\L<=H/\H<=M/\M<=xs.length/\(mx.isSome->hi.isSome)/\K (ae fr d (.sl e ((xs.take H.toNat).drop L.toNat))) hp
  |_,_,_=>False
 | .aB β o n=>match iK 0 lo,iK n hi,mx with
  |some L,some H,none=>(hp β).map (·.e)=some e/\0<=L/\L<=H/\H<=n/\(L=0∨L<n)/\K (ae fr d (.aB β (o+L.toNat) (H.toNat-L.toNat))) hp
  |_,_,_=>False
 |_=>False
def qM(a:PV)(i:Nat)(d:Nat)(fr:Fr)(hp:HP)(K:Qh):Prop:=
 match a with
 | .aI ps=>match ps[i]? with
  |some p=>p.aL=true/\K (ae fr d p) hp
  |none=>False
 |_=>False
def iP(cells:List PV):List (Nat×List PV)->List PV
 | []=>cells
 |(o,xs)::r=>iP (cells.take o++xs++cells.drop (o+xs.length)) r
def Pu(hp:HP)(len:Nat)(ps:List (Nat×Nat×PV)):Prop:=∀p∈ps,(aO hp p.2.2).aL=true/\(aO hp p.2.2).cells.length=p.2.1/\p.1+p.2.1<=len
def Dh(zero:List PV)(ps:List (Nat×Nat×PV))(d:Nat)(fr:Fr)(hp:HP)(K:Qh):Prop:=
 Pu hp zero.length ps/\K (ae fr d (.agg (iP zero (ps.map fun p=>(p.1,(aO hp p.2.2).cells))))) (bV hp (ps.flatMap fun p=>p.2.2.refs))
def PV.pF:PV->Bool
 | .aG .. | .bm _=>true
 | .aB β _ _=>decide (2000000<=β)
 |_=>false
def uZ(len:Nat)(ps:List (Nat×Nat×PV)):Prop:=∀p∈ps,∃cs,eU p.2.2=some cs/\cs.length=p.2.1/\p.1+p.2.1<=len
def mV(zero:List PV)(ps:List (Nat×Nat×PV))(d:Nat)(fr:Fr)(hp:HP)(K:Qh):Prop:=
 if ps.any (fun p=>p.2.2.pF)then uZ zero.length ps/\K (ae fr d (.bm (iP zero (ps.map fun p=>(p.1,(eU p.2.2).getD []))))) hp
 else Dh zero ps d fr hp K
def BQ(a:PV)(d:Option Nat)(fr:Fr)(hp:HP)(K:Qh):Prop:=
 match a,d with
 | .mp _ _ _,some d| .pt _,some d| .fn _ _ _,some d=>K (ae fr d a) hp
 | .mp _ _ _,none| .pt _,none| .fn _ _ _,none=>K fr hp
 |_,_=>False
structure Ctx where
 P:Program
 N:Nat
 w0:World
 X0:Nat->Prop
 Cp:∀b,X0 b->b<w0.heap.size
 hN:N<=1000000
 fx:Nat->Option Nat
 pj:∀β b,fx β=some b->b<w0.heap.size/\(dK β=false->¬X0 b)
 Z0:Nat->Prop
 Gc:∀b,Z0 b->b<w0.heap.size/\¬X0 b/\∀β,fx β≠some b
@[reducible] def Ctx.plain (P : Program) (N : Nat) (w : World) (X : Nat -> Prop) (hX : ∀ b, X b -> b < w.heap.size) (hN : N <= 1000000) : Ctx :=
 ⟨P, N, w, X, hX, hN, fun _ => none, (fun _ _ h => nomatch h), dL, fun _ h => h.elim⟩
def Ctx.Y0(C:Ctx):Nat->Prop:=fun b=>(∃β,dK β=false/\C.fx β=some b)∨C.Z0 b
theorem Ctx.hY0(C:Ctx):∀b,C.Y0 b->b<C.w0.heap.size/\¬C.X0 b
 |b,.inl ⟨β,hr,h⟩=>⟨(C.pj β b h).1,(C.pj β b h).2 hr⟩
 |b,.inr h=>⟨(C.Gc b h).1,(C.Gc b h).2.1⟩
theorem Ctx.G5{P:Program}{N:Nat}{w w':World}{X:Nat->Prop}{hX:∀b,X b->b<w.heap.size}{hN:N<=1000000}(h:Ext (Ctx.plain P N w X hX hN).Y0 w w'):Ext dL w w':=
 h.mono fun b _ hb=>by
  rcases hb with⟨β,_,hb⟩|hb
  ·cases hb
  ·exact hb
def Ctx.cls(C:Ctx)(β b:Nat):Prop:=if aP β=true then C.fx β=some b else C.w0.heap.size<=b∨C.Z0 b
theorem Ctx.FQ{C:Ctx}{β b:Nat}(h:C.cls β b)(hr:dK β=false):C.w0.heap.size<=b∨C.Y0 b:=by
 unfold Ctx.cls at h
 split at h
 ·exact .inr (.inl ⟨β,hr,h⟩)
 ·exact h.imp id .inr
theorem Ctx.vO{C:Ctx}{β b:Nat}(h:C.cls β b)(hB:aP β=false):C.w0.heap.size<=b∨C.Z0 b:=by
 unfold Ctx.cls at h
 rwa[if_neg (by simp[hB])]at h
theorem Ctx.TP{C:Ctx}{β b:Nat}(h:C.w0.heap.size<=b∨C.Z0 b)(hB:aP β=false):C.cls β b:=by
 unfold Ctx.cls
 rwa[if_neg (by simp[hB])]
theorem Ctx.Wm{C:Ctx}{b:Nat}(h:C.w0.heap.size<=b∨C.Z0 b):C.w0.heap.size<=b∨C.Y0 b:=h.imp id .inr
theorem Ctx.LO{C:Ctx}{β b:Nat}(h:C.w0.heap.size<=b∨C.Z0 b):C.fx β≠some b:=fun e=>by
 rcases h with h|h
 ·have:=(C.pj β b e).1;omega
 ·exact(C.Gc b h).2.2 β e
theorem Ctx.FP{C:Ctx}{β b:Nat}(h:C.cls β b)(hr:dK β=false):¬C.X0 b:=fun hx=>by
 rcases Ctx.FQ h hr with h|h
 ·have:=C.Cp b hx;omega
 ·exact(C.hY0 b h).2 hx
def aK(C:Ctx)(ρ:Nat->Option Nat)(hp:HP):Nat->Prop:=fun b=>C.X0 b∨∃β hb,hp β=some hb/\hb.fz=false/\ρ β=some b
def cZ(w:World)(b e cap:Nat):Prop:=∃cur ty,w.heap[b]? =some (.cells cur ty (0,0))/\cur.size=cap*e
def zH(w:World)(X:Nat->Prop)(b:Nat)(hb:HB):Prop:=
 ∃(cur:Array Value)(cap:Nat),w.heap[b]? =some (.cells cur hb.ty (0,0))/\cur.size=cap*hb.e/\hb.xs.length<=cap/\cap<=maxLen/\
  ∀(i:Nat)(x:PV),hb.xs[i]? =some x->∀(j:Nat)(y:PV),x.cells[j]? =some y->Qp w X y (cur.getD (i*hb.e+j) undef)
structure tQ(C:Ctx)(ρ:Nat->Option Nat)(hp:HP)(w:World)(β:Nat)(hb:HB):Prop where
 lg:0<hb.e
 len:∀(i:Nat)(x:PV),hb.xs[i]? =some x->x.cells.length=hb.e/\x.aL=true
 cL:match ρ β with
  |none=>hb.xs=[]
  |some b=>C.cls β b/\b<w.heap.size/\zH w (aK C ρ hp) b hb
 fix:aP β=true->ρ β=C.fx β
 ro:dK β=true->hb.fz=true
def eH(ρ:Nat->Option Nat)(hp:HP)(w:World)(β o n:Nat)(v:Value):Prop:=
 ∃ hb,hp β=some hb/\o+n<=hb.xs.length/\((ρ β=none/\v= .slice none 0 0/\n=0/\o=0)∨
   ∃b cap,ρ β=some b/\v= .slice (some ⟨b,o*hb.e,none⟩) n cap/\cZ w b hb.e (o+cap)/\o+cap<=maxLen)
def oQ(ρ:Nat->Option Nat)(hp:HP)(w:World)(γ o n:Nat)(v:Value):Prop:=
 bE γ=true/\∃hb b cap,hp γ=some hb/\ρ γ=some b/\v= .slice (some ⟨b,o*hb.e,none⟩) n cap/\cZ w b hb.e (o+cap)/\o+cap<=maxLen/\n<=cap
def cW(C:Ctx)(ρ:Nat->Option Nat)(hp:HP)(w:World):PV->Value->Prop
 | .undef,_=>True
 | .aB β o n,v=>bE β=true/\eH ρ hp w β o n v
 | .aG γ o n,v=>oQ ρ hp w γ o n v
 |p,v=>Qp w (aK C ρ hp) p v
def cK(C:Ctx)(ρ:Nat->Option Nat)(hp:HP)(w:World):PV->Value->Prop
 | .mp β i o,v=>∃b hb,ρ β=some b/\hp β=some hb/\v= .pointer (some ⟨b,i*hb.e+o,none⟩)
 | .aB β o n,v=>eH ρ hp w β o n v
 | .rb β o n,v=>∃b u,v= .pointer (some ⟨b,0,none⟩)/\b<w.heap.size/\¬aK C ρ hp b/\w.cell? ⟨b,0,none⟩=some u/\eH ρ hp w β o n u
 | .np γ i o,v=>bE γ=true/\∃b hb,ρ γ=some b/\hp γ=some hb/\v= .pointer (some ⟨b,i*hb.e+o,none⟩)
 | .aG γ o n,v=>oQ ρ hp w γ o n v
 |p,v=>Qp w (aK C ρ hp) p v
def Qm(C:Ctx)(ρ:Nat->Option Nat)(hp:HP)(w:World):PV->Value->Prop
 | .undef,_=>True
 | .mp β i o,v=>cK C ρ hp w (.mp β i o) v
 | .aB β o n,v=>cK C ρ hp w (.aB β o n) v
 | .rb β o n,v=>cK C ρ hp w (.rb β o n) v
 | .np γ i o,v=>cK C ρ hp w (.np γ i o) v
 | .aG γ o n,v=>cK C ρ hp w (.aG γ o n) v
 | .bm cs,v=>∃vs:Array Value,v= .agg vs/\vs.size=cs.length/\∀(i:Nat)(x:PV),cs[i]? =some x->cW C ρ hp w x (vs.getD i undef)
 | .aF γ e ty xs,_=>bE γ=true/\0<e/\∃(b:Nat) (hb:HB) (cur:Array Value) (cap:Nat),ρ γ=some b/\hp γ=some hb/\hb.xs=[]/\hb.e=e/\hb.ty=ty/\w.heap[b]? =some (.cells cur ty (0,0))/\cur.size=cap*e/\xs.length<=cap/\cap<=maxLen/\
   (∀(i:Nat)(x:PV),xs[i]? =some x->x.aU.length=e)/\∀(i:Nat)(x:PV),xs[i]? =some x->∀(j:Nat)(y:PV),x.aU[j]? =some y->cW C ρ hp w y (cur.getD (i*e+j) undef)
 | .fn f first cap,v=>∃fv cv:Array Value,v= .func (.func f) fv cv/\fv.size=first.length/\cv.size=cap.length/\
   (∀(i:Nat)(x:PV),first[i]? =some x->cK C ρ hp w x (fv.getD i undef))/\(∀(i:Nat)(x:PV),cap[i]? =some x->cK C ρ hp w x (cv.getD i undef))
 |p,v=>eG w (aK C ρ hp) p v
structure Qr(C:Ctx)(ρ:Nat->Option Nat)(fr:Fr)(hp:HP)(tmps:Array Value)(w:World):Prop where
 sz:tmps.size=C.N
 ext:Ext C.Y0 C.w0 w
 fp:∀β b,C.fx β=some b->∀e cap,cZ C.w0 b e cap->cZ w b e cap
 own:∀β hb,hp β=some hb->tQ C ρ hp w β hb
 inj:∀β γ b,hp β≠none->hp γ≠none->ρ β=some b->ρ γ=some b->β=γ
 cS:∀i,Qm C ρ hp w (fr i) (tmps.getD i undef)
def eu(C:Ctx)(fr:Fr)(hp:HP)(tmps:Array Value)(w:World):Prop:=∃ρ,Qr C ρ fr hp tmps w
def vz(tmps:Array Value)(d:Option Nat)(v:Value):Array Value:=match d with|some d=>tmps.setIfInBounds d v|none=>tmps
def Wk(fr:Fr)(hp:HP)(aC:Fr)(hp':HP):Prop:=∀(C:Ctx)(tmps:Array Value)(w:World),eu C fr hp tmps w->eu C aC hp' tmps w
def fY(C:Ctx)(pr:Bool)(f:PV)(args:List PV)(d:Option Nat)(fr:Fr)(hp:HP)(K:Qh):Prop:=
 match f with
 | .fn g first cap => (C.P.funcs[g]?).any (fun fn => fn.body.isSome && fn.name != "runtime.NumGoroutine") = true /\
  ∀ρ tmps w (fv cv av:Array Value),(∀x,d=some x->x<C.N)->Qr C ρ fr hp tmps w->
   fv.size=first.length->cv.size=cap.length->av.size=args.length->
   (∀(i:Nat)(x:PV),first[i]? =some x->cK C ρ hp w x (fv.getD i undef))->(∀(i:Nat)(x:PV),cap[i]? =some x->cK C ρ hp w x (cv.getD i undef))->
   (∀(i:Nat)(x:PV),args[i]? =some x->Qm C ρ hp w x (av.getD i undef))->
   Calls C.P g (fv++av++cv) w fun e w'=>∃v aC hp',e= .returned v/\eu C aC hp' (vz tmps d v) w'/\(pr=true->Ext dL w w')/\K aC hp'
 |_=>False
def bK(C:Ctx)(o:cu)(fr:Fr)(hp:HP)(K:Qh):Prop:=
 match o with
 | .mv d x=>K (ae fr d (ev fr x)) hp
 | .pick d c a b=>tJ (ev fr c) (ev fr a) (ev fr b) d fr hp K
 | .bin d op bt x y=>ca op bt (ev fr x) (ev fr y) d fr hp K
 | .eqs d ng x y=>ss ng (ev fr x) (ev fr y) d fr hp K
 | .un d op x=>wF op (ev fr x) d fr hp K
 | .conv d k x=>xf k (ev fr x) d fr hp K
 | .len d x=>pW (ev fr x) d fr hp K
 | .mx d x y=>yy (ev fr x) (ev fr y) d fr hp K
 | .mn d x y=>yw (ev fr x) (ev fr y) d fr hp K
 | .idx d e x i=>iR e (ev fr x) (ev fr i) d fr hp K
 | .Ai d n e x i=>vj n e (ev fr x) (ev fr i) d fr hp K
 | .Aj d n e ag x i=>vw n e ag (ev fr x) (ev fr i) d fr hp K
 | .fP d off x=>su off (ev fr x) d fr hp K
 | .zT d off n ag x=>r9 off n ag (ev fr x) d fr hp K
 | .ld d n ag x=>iW n ag (ev fr x) d fr hp K
 | .st n x v=>ow n (ev fr x) (ev fr v) fr hp K
 | .box d n ty v=>iB n ty (ev fr v) d fr hp K
 | .alloc d n ty z=>iB n ty z d fr hp K
 | .mk d e by_ ty z l c=>ot e by_ ty z (ev fr l) (ev fr c) d fr hp K
 | .bs d e ty ps=>lV e ty (ps.map (ev fr)) d fr hp K
 | .app d e by_ ty s x=>iC e by_ ty (ev fr s) (ev fr x) d fr hp K
 | .tZ d e s x=>qL e (ev fr s) (ev fr x) d fr hp K
 | .sl d e x lo hi mx=>iZ e (ev fr x) (lo.map (ev fr)) (hi.map (ev fr)) (mx.map (ev fr)) d fr hp K
 | .ext d x i=>qM (ev fr x) i d fr hp K
 | .eA d zero ps=>mV zero (ps.map fun p=>(p.1,p.2.1,ev fr p.2.2)) d fr hp K
 | .fn d f first cap=>(first.map (ev fr)++cap.map (ev fr)).all PV.lC=true/\K (ae fr d (.fn f (first.map (ev fr)) (cap.map (ev fr)))) hp
 | .call d pr f args=>fY C pr (ev fr f) (args.map (ev fr)) d fr hp K
 | .C1 d x=>BQ (ev fr x) d fr hp K
 | .bad _=>False
def jS(o:cu)(fr:Fr)(hp:HP)(K:Qh):Prop:=
 match o.dst with
 |some d=>K (ae fr d (.aI [])) hp
 |none=>K fr hp
def pX(C:Ctx)(g:Option (Nat×Bool))(o:cu)(fr:Fr)(hp:HP)(K:Qh):Prop:=
 match g with
 |none=>bK C o fr hp K
 |some (s,want)=>match fr s with
  | .bool t=>(t=want->bK C o (ae fr s (.bool want)) hp K)/\(t=(!want)->jS o (ae fr s (.bool !want)) hp K)
  | .aI []=>jS o fr hp K
  |_=>False
inductive It where
 |c (s:SC)
 |o (r:RT)
 |eb (id:Nat)
 |el (J:Qh)
def RT.sz:RT->Nat
 | .nil=>1
 | .o _ _ r=>r.sz+1
 | .br a b=>a.sz+b.sz+1
 | .wk r=>r.sz+1
def SC.sz:SC->Nat
 | .rg r=>r.sz+1
 | .seq a b=>a.sz+b.sz+1
 | .cond _ a b=>a.sz+b.sz+1
 | .block _ a=>a.sz+2
 | .loop a=>a.sz+2
 |_=>1
def It.sz:It->Nat
 | .c s=>s.sz
 | .o r=>r.sz
 |_=>1
def bY:List It->Nat
 | []=>0
 |i::is=>i.sz+bY is
def ch(id:Nat):List It->Option (List It)
 | []=>none
 | .eb i::sk=>if i=id then some sk else ch id sk
 |_::sk=>ch id sk
theorem AO(id:Nat):∀(sk dZ:List It),FW.ch id sk=some dZ->bY dZ<=bY sk
 | [],_,h=>by simp[FW.ch]at h
 | .c s::sk,dZ,h=>by have:=AO id sk dZ (by simpa[FW.ch]using h);simp[bY];omega
 | .o s::sk,dZ,h=>by have:=AO id sk dZ (by simpa[FW.ch]using h);simp[bY];omega
 | .el s::sk,dZ,h=>by have:=AO id sk dZ (by simpa[FW.ch]using h);simp[bY];omega
 | .eb i::sk,dZ,h=>by
  simp only[FW.ch]at h
  split at h
  ·cases h;simp[bY]
  ·have:=AO id sk dZ h;simp[bY];omega
theorem RT.Au(r:RT):0<r.sz:=by cases r<;>simp[RT.sz]
theorem SC.Au(s:SC):0<s.sz:=by cases s<;>simp[SC.sz]
def vc(C:Ctx)(R:Qh)(sk:List It)(fr:Fr)(hp:HP):Prop:=
 match sk with
 | []=>R fr hp
 | .el J::_=>J fr hp
 | .eb _::sk=>vc C R sk fr hp
 | .o .nil::sk=>vc C R sk fr hp
 | .o (.o g o r)::sk=>pX C g o fr hp (fun fr hp=>vc C R (.o r::sk) fr hp)
 | .o (.br a b)::sk=>vc C R (.o a::sk) fr hp/\vc C R (.o b::sk) fr hp
 | .o (.wk r)::sk=>∃bJ aA,Wk fr hp bJ aA/\vc C R (.o r::sk) bJ aA
 | .c .skip::sk=>vc C R sk fr hp
 | .c (.rg r)::sk=>vc C R (.o r::sk) fr hp
 | .c (.raw id ops)::sk=>∀tmps w Q,eu C fr hp tmps w->(∀aC hp' Db w',eu C aC hp' Db w'->vc C R sk aC hp'->Q .normal { tmps:=Db,defers:=[] } w')->(Code.region id ops true).wp C.P Q { tmps:=tmps,defers:=[] } w
 | .c (.seq a b)::sk=>vc C R (.c a:: .c b::sk) fr hp
 | .c (.cond c a b)::sk=>match ev fr c with
  | .bool t=>(t=true->vc C R (.c a::sk) fr hp)/\(t=false->vc C R (.c b::sk) fr hp)
  |_=>False
 | .c (.block id a)::sk=>vc C R (.c a:: .eb id::sk) fr hp
 | .c (.loop a)::sk=>∃(I:Qh)(μ:Fr->HP->Nat),(∃bJ aA,Wk fr hp bJ aA/\I bJ aA)/\∀fr hp,I fr hp->vc C R (.c a:: .el (fun aC hp'=>∃bJ aA,Wk aC hp' bJ aA/\I bJ aA/\μ bJ aA<μ fr hp)::sk) fr hp
 | .c (.exit id)::sk=>match h:FW.ch id sk with
  |some dZ=>vc C R dZ fr hp
  |none=>False
 | .c .ret::_=>R fr hp
termination_by bY sk
decreasing_by
 all_goals simp only[bY,It.sz,SC.sz,RT.sz]
 all_goals first|omega|(have:=AO _ _ _ h;omega)|skip
variable {C : Ctx} {ρ : Nat -> Option Nat} {fr : Fr} {hp : HP} {tmps : Array Value} {w : World}
theorem eH.move{ρ':Nat->Option Nat}{hp':HP}{w':World}{β o n:Nat}{v:Value}(h:eH ρ hp w β o n v)
  (hr:ρ' β=ρ β/\∀hb,hp β=some hb->∃aw,hp' β=some aw/\aw.e=hb.e/\hb.xs.length<=aw.xs.length/\∀b cap,ρ β=some b->cZ w b hb.e cap->cZ w' b hb.e cap):eH ρ' hp' w' β o n v:=by
 obtain⟨hb,h2,h3,h4⟩:=h
 obtain⟨e1,e2⟩:=hr
 obtain⟨aw,h5,h6,h7,h8⟩:=e2 hb h2
 refine⟨aw,h5,Kao h3 h7,?_⟩
 rcases h4 with⟨g1,g2,g3⟩|⟨b,cap,g1,g2,g3,g4⟩
 ·exact .inl ⟨by rw[e1];exact g1,g2,g3⟩
 ·exact .inr ⟨b,cap,by rw[e1];exact g1,by rw[h6];exact g2,by rw[h6];exact h8 b (o+cap) g1 g3,g4⟩
structure mW(w w':World)(X X':Nat->Prop):Prop where
 cL:∀b,b<w.heap.size->¬X b->w'.heap[b]? =w.heap[b]?
 out:∀b,b<w.heap.size->¬X b->¬X' b
 size:w.heap.size<=w'.heap.size
theorem mW.rc{w w':World}{X X':Nat->Prop}(h:mW w w' X X'):∀q u,Qp w X q u->Qp w' X' q u:=fun _ _ hq=>hq.mono h.cL h.out h.size
structure pI(ρ ρ':Nat->Option Nat)(hp hp':HP)(w w':World)(β:Nat):Prop where
 r:ρ' β=ρ β
 h:∀hb,hp β=some hb->∃aw,hp' β=some aw/\aw.e=hb.e/\hb.xs.length<=aw.xs.length/\(∀b cap,ρ β=some b->cZ w b hb.e cap->cZ w' b hb.e cap)/\(hb.xs=[]->aw.xs=[]/\aw.ty=hb.ty/\∀b,ρ β=some b->w'.heap[b]? =w.heap[b]?)
theorem pI.o{ρ':Nat->Option Nat}{hp':HP}{w':World}{β:Nat}(h:pI ρ ρ' hp hp' w w' β):ρ' β=ρ β/\∀hb,hp β=some hb->∃aw,hp' β=some aw/\aw.e=hb.e/\hb.xs.length<=aw.xs.length/\∀b cap,ρ β=some b->cZ w b hb.e cap->cZ w' b hb.e cap:=
 ⟨h.r,fun hb af=>let⟨aw,a,b,c,d,_⟩:=h.h hb af;⟨aw,a,b,c,d⟩⟩
structure vA(ρ ρ':Nat->Option Nat)(hp hp':HP)(w w':World)(β:Nat):Prop where
 r:ρ' β=ρ β
 h:∀hb,hp β=some hb->∃aw,hp' β=some aw/\aw.e=hb.e/\hb.xs.length<=aw.xs.length/\∀b cap,ρ β=some b->cZ w b hb.e cap->cZ w' b hb.e cap
theorem pI.yB{ρ':Nat->Option Nat}{hp':HP}{w':World}{β:Nat}(h:pI ρ ρ' hp hp' w w' β):vA ρ ρ' hp hp' w w' β:=⟨h.r,h.o.2⟩
theorem oQ.move{ρ':Nat->Option Nat}{hp':HP}{w':World}{γ o n:Nat}{v:Value}(h:oQ ρ hp w γ o n v)(hr:vA ρ ρ' hp hp' w w' γ):oQ ρ' hp' w' γ o n v:=by
 obtain⟨h0,hb,b,cap,h1,h2,h3,h4,h5,h6⟩:=h
 obtain⟨aw,a1,a2,_,a4⟩:=hr.h hb h1
 exact⟨h0,aw,b,cap,a1,by rw[hr.r];exact h2,by rw[a2];exact h3,by rw[a2];exact a4 b _ h2 h4,h5,h6⟩
theorem cW.move{ρ':Nat->Option Nat}{hp':HP}{w':World}{p:PV}{v:Value}(h:cW C ρ hp w p v)(hc:mW w w' (aK C ρ hp) (aK C ρ' hp'))(hs:∀β∈p.gB,vA ρ ρ' hp hp' w w' β):cW C ρ' hp' w' p v:=by
 cases p with
 |undef=>trivial
 |aB β o n=>exact⟨h.1,eH.move h.2 ⟨(hs β (by simp[PV.gB])).r,(hs β (by simp[PV.gB])).h⟩⟩
 |aG γ o n=>exact oQ.move h (hs γ (by simp[PV.gB]))
 |_=>exact hc.rc _ _ h
theorem cK.move{ρ':Nat->Option Nat}{hp':HP}{w':World}{p:PV}{v:Value}(h:cK C ρ hp w p v)
  (hc:mW w w' (aK C ρ hp) (aK C ρ' hp'))
  (hr:∀β∈p.bX,ρ' β=ρ β/\∀hb,hp β=some hb->∃aw,hp' β=some aw/\aw.e=hb.e/\hb.xs.length<=aw.xs.length/\∀b cap,ρ β=some b->cZ w b hb.e cap->cZ w' b hb.e cap)
  (hs:∀β∈p.dY,vA ρ ρ' hp hp' w w' β):
  cK C ρ' hp' w' p v:=by
 cases p with
 |mp β i o=>
  obtain⟨b,hb,h1,h2,h3⟩:=h
  obtain⟨e1,e2⟩:=hr β (by simp[PV.bX])
  obtain⟨aw,h4,h5,_,_⟩:=e2 hb h2
  exact⟨b,aw,by rw[e1];exact h1,h4,by rw[h5];exact h3⟩
 |aB β o n=>exact eH.move h (hr β (by simp[PV.bX]))
 |rb β o n=>
  obtain⟨b,u,h1,h2,h3,h4,h5⟩:=h
  exact⟨b,u,h1,Kbu h2 hc.size,hc.out b h2 h3,(wL (hc.cL b h2 h3)).trans h4,eH.move h5 (hr β (by simp[PV.bX]))⟩
 |np γ i o=>
  obtain⟨h0,b,hb,h1,h2,h3⟩:=h
  have hq:=hs γ (by simp[PV.dY])
  obtain⟨aw,a1,a2,_⟩:=hq.h hb h2
  exact⟨h0,b,aw,by rw[hq.r];exact h1,a1,by rw[a2];exact h3⟩
 |aG γ o n=>exact oQ.move h (hs γ (by simp[PV.dY]))
 |_=>exact hc.rc _ _ h
theorem HL{f:FuncId}{first cap:List PV}{i:Nat}{x:PV}(h:first[i]? =some x):∀β∈x.bX,β∈(PV.fn f first cap).refs:=by
 intro β af
 simp only[PV.refs,KaK,Kat]
 exact .inl ⟨x,Kaj h,af⟩
theorem HU{f:FuncId}{first cap:List PV}{i:Nat}{x:PV}(h:cap[i]? =some x):∀β∈x.bX,β∈(PV.fn f first cap).refs:=by
 intro β af
 simp only[PV.refs,KaK,Kat]
 exact .inr ⟨x,Kaj h,af⟩
theorem eG.move{w':World}{X X':Nat->Prop}{p:PV}{v:Value}(h:eG w X p v)(hc:∀q u,Qp w X q u->Qp w' X' q u):eG w' X' p v:=by
 have h1:∀p v,bI w X p v->bI w' X' p v:=by
  intro p v h
  cases p with
  |agg cs=>obtain⟨vs,rfl,h1,h2⟩:=h;exact⟨vs,rfl,h1,fun i x hi=>hc _ _ (h2 i x hi)⟩
  |_=>exact hc _ _ h
 cases p with
 |aI ps=>obtain⟨vs,rfl,g1,g2⟩:=h;exact⟨vs,rfl,g1,fun i x hi=>h1 _ _ (g2 i x hi)⟩
 |agg cs=>exact h1 (.agg cs) v h
 |_=>exact hc _ _ h
theorem Qm.move{ρ':Nat->Option Nat}{hp':HP}{w':World}{p:PV}{v:Value}(h:Qm C ρ hp w p v)
  (hc:mW w w' (aK C ρ hp) (aK C ρ' hp'))
  (hr:∀β∈p.refs,ρ' β=ρ β/\∀hb,hp β=some hb->∃aw,hp' β=some aw/\aw.e=hb.e/\hb.xs.length<=aw.xs.length/\∀b cap,ρ β=some b->cZ w b hb.e cap->cZ w' b hb.e cap)
  (hs:∀β∈p.aQ,vA ρ ρ' hp hp' w w' β) (hn:∀γ e ty xs,p= .aF γ e ty xs->pI ρ ρ' hp hp' w w' γ):
  Qm C ρ' hp' w' p v:=by
 cases p with
 |undef=>trivial
 |mp β i o=>exact cK.move (p:= .mp β i o) h hc (fun bn nq=>hr bn nq) (fun β af=>by cases af)
 |aB β o n=>exact cK.move (p:= .aB β o n) h hc (fun bn nq=>hr bn nq) (fun β af=>by cases af)
 |rb β o n=>exact cK.move (p:= .rb β o n) h hc (fun bn nq=>hr bn nq) (fun β af=>by cases af)
 |np γ i o=>exact cK.move (p:= .np γ i o) h hc (fun β af=>by cases af) (fun bn nq=>hs bn nq)
 |aG γ o n=>exact cK.move (p:= .aG γ o n) h hc (fun β af=>by cases af) (fun bn nq=>hs bn nq)
 |bm cs=>
  obtain⟨vs,rfl,h1,h2⟩:=h
  exact⟨vs,rfl,h1,fun i x hi=>(h2 i x hi).move hc (fun β af=>hs β (Kat.2 ⟨x,Kaj hi,af⟩))⟩
 |aF γ e ty xs=>
  obtain⟨h0,he,b,hb,cur,cap,h1,h2,h3,h4,h5,h6,h7,h8,h9,bl,ct⟩:=h
  have hq:=hn γ e ty xs rfl
  obtain⟨aw,a1,a2,_,_,a5⟩:=hq.h hb h2
  obtain⟨a5,a6,a7⟩:=a5 h3
  refine⟨h0,he,b,aw,cur,cap,by rw[hq.r];exact h1,a1,a5,by rw[a2];exact h4,by rw[a6];exact h5,by rw[a7 b h1];exact h6,h7,h8,h9,bl,fun i x hi j y hy=>(ct i x hi j y hy).move hc (fun β af=>hs β ?_)⟩
  refine Ka5 _ (Kat.2 ⟨x,Kaj hi,Kat.2 ⟨y,Kaj hy,af⟩⟩)
 | fn f first cap=>
  obtain⟨fv,cv,rfl,h1,h2,h3,h4⟩:=h
  exact⟨fv,cv,rfl,h1,h2,fun i x hi=>(h3 i x hi).move hc (fun β af=>hr β (HL hi β af)) (fun β af=>hs β (KaK.2 (.inl (Kat.2 ⟨x,Kaj hi,af⟩)))),
   fun i x hi=>(h4 i x hi).move hc (fun β af=>hr β (HU hi β af)) (fun β af=>hs β (KaK.2 (.inr (Kat.2 ⟨x,Kaj hi,af⟩))))⟩
 |agg cs=>exact eG.move (p:= .agg cs) h hc.rc
 |aI cs=>exact eG.move (p:= .aI cs) h hc.rc
 |_=>exact hc.rc _ _ h
theorem Qm.rK{ρ':Nat->Option Nat}{hp':HP}{w':World}{p:PV}{v:Value}(h:Qm C ρ hp w p v)
  (hc:mW w w' (aK C ρ hp) (aK C ρ' hp'))
  (hr:∀β∈p.refs,ρ' β=ρ β/\∀hb,hp β=some hb->∃aw,hp' β=some aw/\aw.e=hb.e/\hb.xs.length<=aw.xs.length/\∀b cap,ρ β=some b->cZ w b hb.e cap->cZ w' b hb.e cap)
  (hs:∀β∈p.aQ,pI ρ ρ' hp hp' w w' β):Qm C ρ' hp' w' p v:=
 h.move hc hr (fun β af=>(hs β af).yB) (fun γ e ty xs e1=>hs γ (by rw[e1];simp[PV.aQ]))
theorem mA{w w':World}{b e cap:Nat}(h:w'.heap[b]? =w.heap[b]?)(hc:cZ w b e cap):cZ w' b e cap:=by
 obtain⟨cur,ty,h1,h2⟩:=hc
 exact⟨cur,ty,by rw[h];exact h1,h2⟩
theorem mC{w:World}{b e cap:Nat}(hc:cZ w b e cap):b<w.heap.size:=by
 obtain⟨cur,ty,h1,_⟩:=hc
 exact(KbR.1 h1).1
theorem zH.move{w w':World}{X X':Nat->Prop}{b:Nat}{hb aw:HB}(h:zH w X b hb)(hh:w'.heap[b]? =w.heap[b]?)(e1:aw.e=hb.e)(e2:aw.ty=hb.ty)(e3:aw.xs=hb.xs)
  (hc:∀q u,Qp w X q u->Qp w' X' q u):zH w' X' b aw:=by
 obtain⟨cur,cap,h1,h2,h3,h4,h5⟩:=h
 exact⟨cur,cap,by rw[hh,e2];exact h1,by rw[e1];exact h2,by rw[e3];exact h3,h4,fun i x hi j y hy=>by rw[e1];exact hc _ _ (h5 i x (by rw[<-e3];exact hi) j y hy)⟩
theorem Qr.ae(h:Qr C ρ fr hp tmps w){d:Nat}{p:PV}{v:Value}(hv:Qm C ρ hp w p v)(hd:d<C.N):Qr C ρ (ae fr d p) hp (tmps.setIfInBounds d v) w:=by
 refine⟨by simpa using h.sz,h.ext,h.fp,h.own,h.inj,fun i=> ?_⟩
 unfold FW.ae
 split
 ·rename_i he;subst he
  simpa[Array.getD,h.sz,hd]using hv
 ·rename_i he
  have:(tmps.setIfInBounds d v).getD i undef=tmps.getD i undef:=by
   simp only[KaW]
   rw[Kcv (fun e=>he e.symm)]
  rw[this];exact h.cS i
theorem Il{l:List Nat}{b:Nat}(h:aK C ρ (bV hp l) b):aK C ρ hp b:=by
 rcases h with h|⟨β,hb,h1,h2,h3⟩
 ·exact .inl h
 ·refine .inr ⟨β,hb,?_,h2,h3⟩
  unfold bV at h1
  split at h1
  ·cases hq:hp β with
   |none=>simp[hq]at h1
   |some cI=>simp[hq]at h1;subst h1;simp at h2
  ·exact h1
theorem DI{l:List Nat}{β:Nat}{hb:HB}(h:hp β=some hb):∃aw,bV hp l β=some aw/\aw.e=hb.e/\aw.ty=hb.ty/\aw.xs=hb.xs/\(aw.fz=false->aw=hb)/\(aw.fz=false->β ∉ l):=by
 unfold bV
 by_cases hl:l.contains β=true
 ·rw[if_pos hl,h];exact⟨_,rfl,rfl,rfl,rfl,by simp,by simp⟩
 ·rw[if_neg hl,h];exact⟨hb,rfl,rfl,rfl,rfl,fun _=>rfl,fun _=>by simpa using hl⟩
theorem Az{l:List Nat}{β:Nat}{aw:HB}(h:bV hp l β=some aw):∃hb,hp β=some hb/\aw.e=hb.e/\aw.ty=hb.ty/\aw.xs=hb.xs/\(aw.fz=false->aw=hb)/\(aw.fz=false->β ∉ l):=by
 cases hq:hp β with
 |none=>unfold bV at h;split at h<;>simp[hq]at h
 |some hb=>
  obtain⟨hb2,g1,g2⟩:=DI (l:=l) hq
  rw[g1]at h;cases h
  exact⟨hb,rfl,g2⟩
theorem Qp.freeze{l:List Nat}{q:PV}{u:Value}(h:Qp w (aK C ρ hp) q u):Qp w (aK C ρ (bV hp l)) q u:=
 h.mono (fun _ _ _=>rfl) (fun _ _ hn hx=>hn (Il hx)) (Kaf _)
theorem Qr.freeze(h:Qr C ρ fr hp tmps w)(l:List Nat):Qr C ρ fr (bV hp l) tmps w:=by
 refine⟨h.sz,h.ext,h.fp,fun β aw af=> ?_,fun β γ b h1 h2 h3 h4=> ?_,fun i=> ?_⟩
 ·obtain⟨hb,g1,g2,g3,g4,g5,_⟩:=Az af
  obtain⟨p1,p2,p3,p4,p5⟩:=h.own β hb g1
  refine⟨by rw[g2];exact p1,fun i x hi=>by rw[g2];exact p2 i x (by rw[<-g4];exact hi),?_,p4,fun hq=>by
   cases hz:aw.fz with
   |true=>rfl
   |false=>rw[<-g5 hz,hz]at p5;cases p5 hq⟩
  cases bD:ρ β with
  |none=>rw[bD]at p3;simp only at p3 ⊢;rw[g4];exact p3
  |some b=>rw[bD]at p3;simp only at p3 ⊢;exact⟨p3.1,p3.2.1,p3.2.2.move rfl g2 g3 g4 (fun q u hq=>hq.freeze)⟩
 ·have f1:∀γ,FW.bV hp l γ≠none->hp γ≠none:=fun γ hn=>by
   cases hq:hp γ with
   |none=>unfold FW.bV at hn;split at hn<;>simp[hq]at hn
   |some _=>simp
  exact h.inj β γ b (f1 β h1) (f1 γ h2) h3 h4
 ·refine(h.cS i).rK ⟨fun _ _ _=>rfl,fun _ _ hn hx=>hn (Il hx),Kaf _⟩ (fun β _=>⟨rfl,fun hb af=>by
  obtain⟨aw,g1,g2,_,g4,_⟩:=DI (l:=l) af
  exact⟨aw,g1,g2,by rw[g4];exact Kaf _,fun b cap _ hc=>hc⟩⟩) (fun β _=>⟨rfl,fun hb af=>by
  obtain⟨aw,g1,g2,g3,g4,_⟩:=DI (l:=l) af
  exact⟨aw,g1,g2,by rw[g4];exact Kaf _,fun b cap _ hc=>hc,fun he=>⟨by rw[g4];exact he,g3,fun _ _=>rfl⟩⟩⟩)
theorem Qr.grow{w':World}(h:Qr C ρ fr hp tmps w)(hx:Ext dL w w'):Qr C ρ fr hp tmps w':=by
 have dS:mW w w' (aK C ρ hp) (aK C ρ hp):=⟨fun b hb _=>hx.block b hb (fun h=>h),fun _ _ hn=>hn,hx.size⟩
 have hc:=dS.rc
 refine⟨h.sz,h.ext.trans' hx (fun _ _ h=>h.elim),fun b0 b hb e cap hc=>mA (hx.block b (mC (h.fp b0 b hb e cap hc)) (fun h=>h)) (h.fp b0 b hb e cap hc),fun β hb af=> ?_,h.inj,fun i=> ?_⟩
 ·obtain⟨p1,p2,p3,p4,p5⟩:=h.own β hb af
  refine⟨p1,p2,?_,p4,p5⟩
  cases bD:ρ β with
  |none=>rw[bD]at p3;exact p3
  |some b=>rw[bD]at p3;exact⟨p3.1,Kbu p3.2.1 hx.size,p3.2.2.move (hx.block b p3.2.1 (fun h=>h)) rfl rfl rfl hc⟩
 ·exact(h.cS i).rK dS (fun β _=>⟨rfl,fun hb af=>⟨hb,af,rfl,Kaf _,fun b cap _ dH=>mA (hx.block b (mC dH) (fun h=>h)) dH⟩⟩)
   (fun β _=>⟨rfl,fun hb af=>⟨hb,af,rfl,Kaf _,fun b cap _ dH=>mA (hx.block b (mC dH) (fun h=>h)) dH,fun he=>⟨he,rfl,fun b bD=>hx.block b (by have:=(h.own β hb af).cL;rw[bD]at this;exact this.2.1) (fun h=>h)⟩⟩⟩)
theorem Sg{β:Nat}{p:PV}:∀γ∈(cd β p).refs,γ≠β/\γ∈p.refs:=by
 intro γ aj
 unfold cd at aj
 split at aj
 ·simp[PV.refs]at aj
 ·rename_i hn
  refine⟨fun he=>hn (by subst he;simpa using aj),aj⟩
theorem Qm.kill{β:Nat}{p:PV}{v:Value}(h:Qm C ρ hp w p v):Qm C ρ hp w (cd β p) v:=by
 unfold cd;split
 ·trivial
 ·exact h
theorem cW.G9{p:PV}{v:Value}(h:cW C ρ hp w p v):∀γ∈p.gB,bE γ=true:=by
 intro γ aj
 cases p with
 |aB β o n=>simp[PV.gB]at aj;subst aj;exact h.1
 |aG β o n=>simp[PV.gB]at aj;subst aj;exact h.1
 |np β o n=>cases h
 |_=>cases aj
theorem cK.VR{p:PV}{v:Value}(h:cK C ρ hp w p v):∀γ∈p.dY,bE γ=true:=by
 intro γ aj
 cases p with
 |aG β o n=>simp[PV.dY]at aj;subst aj;exact h.1
 |np β o n=>simp[PV.dY]at aj;subst aj;exact h.1
 |_=>cases aj
theorem Qm.G9{p:PV}{v:Value}(h:Qm C ρ hp w p v):∀γ∈p.aQ,bE γ=true:=by
 intro γ aj
 cases p with
 |aG β o n=>simp[PV.aQ]at aj;subst aj;exact h.1
 |np β o n=>simp[PV.aQ]at aj;subst aj;exact h.1
 |bm cs=>
  obtain⟨vs,_,_,h2⟩:=h
  obtain⟨x,hx,aj⟩:=Kat.1 aj
  obtain⟨i,hi⟩:=KaV hx
  exact(h2 i x hi).G9 γ aj
 | aF β e ty xs=>
  obtain⟨h0,_,b,hb,cur,cap,_,_,_,_,_,_,_,_,_,_,ct⟩:=h
  rcases KaG.1 aj with rfl|aj
  ·exact h0
  ·obtain⟨x,hx,aj⟩:=Kat.1 aj
   obtain⟨y,hy,aj⟩:=Kat.1 aj
   obtain⟨i,hi⟩:=KaV hx
   obtain⟨j,hj⟩:=KaV hy
   exact(ct i x hi j y hj).G9 γ aj
 | fn f first cap=>
  obtain⟨fv,cv,_,_,_,h3,h4⟩:=h
  rcases KaK.1 aj with aj|aj
  ·obtain⟨x,hx,aj⟩:=Kat.1 aj
   obtain⟨i,hi⟩:=KaV hx
   exact(h3 i x hi).VR γ aj
  ·obtain⟨x,hx,aj⟩:=Kat.1 aj
   obtain⟨i,hi⟩:=KaV hx
   exact(h4 i x hi).VR γ aj
 |_=>cases aj
def rb(ρ:Nat->Option Nat)(β:Nat)(b':Option Nat):Nat->Option Nat:=fun γ=>if γ=β then b' else ρ γ
theorem ja(ρ:Nat->Option Nat)(β:Nat)(b':Option Nat):rb ρ β b' β=b':=by simp[rb]
theorem se{ρ:Nat->Option Nat}{β γ:Nat}{b':Option Nat}(h:γ≠β):rb ρ β b' γ=ρ γ:=by simp[rb,h]
def zI(C:Ctx)(ρ:Nat->Option Nat)(hp:HP)(w:World)(β:Nat)(fr aC:Fr):Prop:=∀(i:Nat)(v:Value),Qm C ρ hp w (fr i) v->Qm C ρ hp w (aC i) v/\(∀γ∈(aC i).refs,γ≠β)/\∀γ∈(aC i).aQ,γ≠β
theorem Ef{β:Nat}(hB:bE β=false):zI C ρ hp w β fr (cx β fr):=fun i v h=>by
 have hk:=Qm.kill (β:=β) h
 exact⟨hk,fun γ aj=>(Sg γ aj).1,fun γ aj e=>by have:=hk.G9 γ aj;rw[e,hB]at this;cases this⟩
theorem Qr.At{w':World}{aC:Fr}(h:Qr C ρ fr hp tmps w)(β:Nat)(b':Option Nat)(aw:HB)(hB:aP β=false)(rm:zI C ρ hp w β fr aC)
  (hx:Ext (fun b=>ρ β=some b/\∃hb,hp β=some hb/\hb.fz=false) w w')
  (od:∀c,b'=some c->(C.w0.heap.size<=c∨C.Z0 c)/\c<w'.heap.size/\(w.heap.size<=c∨(ρ β=some c/\∃hb,hp β=some hb/\hb.fz=false)))
  (he:0<aw.e) (hl:∀(i:Nat)(x:PV),aw.xs[i]? =some x->x.cells.length=aw.e/\x.aL=true)
  (KE:b'=none->aw.xs=[]) (aY:∀c,b'=some c->∃(cur:Array Value) (cap:Nat),w'.heap[c]? =some (.cells cur aw.ty (0,0))/\cur.size=cap*aw.e/\aw.xs.length<=cap/\cap<=maxLen/\
   ∀(i:Nat)(x:PV),aw.xs[i]? =some x->∀(j:Nat)(y:PV),x.cells[j]? =some y->Qp w (aK C ρ hp) y (cur.getD (i*aw.e+j) undef)):
  Qr C (rb ρ β b') aC (Qi hp β aw) tmps w':=by
 have hX:∀b,b<w.heap.size->¬aK C ρ hp b->¬aK C (rb ρ β b') (Qi hp β aw) b:=by
  intro b hb hn aV
  rcases aV with aV|⟨γ,hg,h1,h2,h3⟩
  ·exact hn (.inl aV)
  ·unfold Qi at h1
   by_cases aj:γ=β
   ·subst aj
    rw[ja]at h3
    obtain⟨_,_,h4|⟨h5,cI,h6,h7⟩⟩:=od b h3
    ·omega
    ·exact hn (.inr ⟨γ,cI,h6,h7,h5⟩)
   ·rw[if_neg aj]at h1;rw[se aj]at h3
    exact hn (.inr ⟨γ,hg,h1,h2,h3⟩)
 have dS:mW w w' (aK C ρ hp) (aK C (rb ρ β b') (Qi hp β aw)):=
  ⟨fun b hb hn=>hx.block b hb (fun⟨e1,cI,e2,e3⟩=>hn (.inr ⟨β,cI,e2,e3,e1⟩)),hX,hx.size⟩
 have hc:=dS.rc
 have hold:∀b,ρ β=some b->(∃hb,hp β=some hb/\hb.fz=false)->C.w0.heap.size<=b∨C.Z0 b:=by
  intro b e1 ⟨cI,e2,e3⟩
  have:=(h.own β cI e2).cL
  rw[e1]at this
  exact Ctx.vO this.1 hB
 have jZ:Ext C.Y0 C.w0 w':=by
  refine h.ext.trans' (Y':=fun b=>ρ β=some b/\∃hb,hp β=some hb/\hb.fz=false) hx ?_
  intro b hb ⟨e1,e2⟩
  exact(Ctx.Wm (hold b e1 e2)).resolve_left (by omega)
 have CE:∀β b,C.fx β=some b->∀e cap,cZ C.w0 b e cap->cZ w' b e cap:=fun b0 b hb e cap dS=>by
  have h1:=h.fp b0 b hb e cap dS
  refine mA (hx.block b (mC h1) ?_) h1
  intro⟨e1,e2⟩
  exact Ctx.LO (hold b e1 e2) hb
 refine⟨h.sz,jZ,CE,fun γ hg aj=> ?_,fun γ δ b h1 h2 h3 h4=> ?_,fun i=> ?_⟩
 ·unfold Qi at aj
  by_cases sW:γ=β
  ·rw[if_pos sW]at aj;cases aj
   subst sW
   refine⟨he,hl,?_,(fun hq=>by rw[hB]at hq;cases hq),fun hq=>by rw[zt hB]at hq;cases hq⟩
   rw[ja]
   cases b' with
   |none=>exact KE rfl
   |some c=>
    obtain⟨cur,cap,c1,c2,c3,c4,c5⟩:=aY c rfl
    exact⟨Ctx.TP (od c rfl).1 hB,(od c rfl).2.1,cur,cap,c1,c2,c3,c4,fun i x hi j y hy=>hc _ _ (c5 i x hi j y hy)⟩
  ·rw[if_neg sW]at aj
   obtain⟨p1,p2,p3,p4,p5⟩:=h.own γ hg aj
   refine⟨p1,p2,?_,(fun hq=>by rw[se sW];exact p4 hq),p5⟩
   rw[se sW]
   cases bD:ρ γ with
   |none=>rw[bD]at p3;exact p3
   |some b=>
    rw[bD]at p3
    refine⟨p3.1,Kbu p3.2.1 hx.size,p3.2.2.move (hx.block b p3.2.1 ?_) rfl rfl rfl hc⟩
    intro⟨e1,cI,e2,_⟩
    exact sW (h.inj γ β b (by simp[aj]) (by simp[e2]) bD e1)
 ·
  have key:∀γ b,γ≠β->hp γ≠none->ρ γ=some b->b'=some b->False:=by
   intro γ b aH hs hr hb
   obtain⟨_,_,h4|⟨h5,cI,h6,h7⟩⟩:=od b hb
   ·cases hq:hp γ with
    |none=>exact hs hq
    |some hg=>have:=(h.own γ hg hq).cL;rw[hr]at this;omega
   ·exact aH (h.inj γ β b hs (by simp[h6]) hr h5)
  unfold Qi at h1 h2
  by_cases aj:γ=β<;>by_cases om:δ=β
  ·rw[aj,om]
  ·subst aj;rw[ja]at h3;rw[se om]at h4;rw[if_neg om]at h2;exact(key δ b om h2 h4 h3).elim
  ·subst om;rw[ja]at h4;rw[se aj]at h3;rw[if_neg aj]at h1;exact(key γ b aj h1 h3 h4).elim
  ·rw[se aj]at h3;rw[se om]at h4;rw[if_neg aj]at h1;rw[if_neg om]at h2;exact h.inj γ δ b h1 h2 h3 h4
 ·obtain⟨hk,dT,ry⟩:=rm i _ (h.cS i)
  refine hk.rK dS (fun γ aj=> ?_) (fun γ aj=> ?_)
  ·have aH:=dT γ aj
   refine⟨se aH,fun hg gO=>⟨hg,by simp[Qi,aH,gO],rfl,Kaf _,fun b cap bD dH=>mA (hx.block b (mC dH) ?_) dH⟩⟩
   intro⟨e1,cI,e2,_⟩
   exact aH (h.inj γ β b (by simp[gO]) (by simp[e2]) bD e1)
  ·have aH:=ry γ aj
   have pA:∀b hg,hp γ=some hg->ρ γ=some b->¬(ρ β=some b/\∃hb,hp β=some hb/\hb.fz=false):=fun b hg gO bD ⟨e1,cI,e2,_⟩=>aH (h.inj γ β b (by simp[gO]) (by simp[e2]) bD e1)
   refine⟨se aH,fun hg gO=>⟨hg,by simp[Qi,aH,gO],rfl,Kaf _,fun b cap bD dH=>mA (hx.block b (mC dH) (pA b hg gO bD)) dH,fun he=>⟨he,rfl,fun b bD=>hx.block b ?_ (pA b hg gO bD)⟩⟩⟩
   have:=(h.own γ hg gO).cL
   rw[bD]at this;exact this.2.1
theorem Qr.rebind{w':World}(h:Qr C ρ fr hp tmps w)(β:Nat)(b':Option Nat)(aw:HB)(hB:bE β=false)
  (hx:Ext (fun b=>ρ β=some b/\∃hb,hp β=some hb/\hb.fz=false) w w')
  (od:∀c,b'=some c->(C.w0.heap.size<=c∨C.Z0 c)/\c<w'.heap.size/\(w.heap.size<=c∨(ρ β=some c/\∃hb,hp β=some hb/\hb.fz=false)))
  (he:0<aw.e) (hl:∀(i:Nat)(x:PV),aw.xs[i]? =some x->x.cells.length=aw.e/\x.aL=true)
  (KE:b'=none->aw.xs=[]) (aY:∀c,b'=some c->∃(cur:Array Value) (cap:Nat),w'.heap[c]? =some (.cells cur aw.ty (0,0))/\cur.size=cap*aw.e/\aw.xs.length<=cap/\cap<=maxLen/\
   ∀(i:Nat)(x:PV),aw.xs[i]? =some x->∀(j:Nat)(y:PV),x.cells[j]? =some y->Qp w (aK C ρ hp) y (cur.getD (i*aw.e+j) undef)):
  Qr C (rb ρ β b') (cx β fr) (Qi hp β aw) tmps w':=h.At β b' aw (zu hB) (Ef hB) hx od he hl KE aY
theorem Qr.store{w':World}(h:Qr C ρ fr hp tmps w)(β b:Nat)(hb aw:HB)(af:hp β=some hb)(na:hb.fz=false)(aH:hb.xs≠[])(bD:ρ β=some b)
  (hx:Ext (fun c=>c=b) w w') (e1:aw.e=hb.e) (e3:aw.xs.length=hb.xs.length) (e4:aw.fz=false)
  (hl:∀(i:Nat)(x:PV),aw.xs[i]? =some x->x.cells.length=aw.e/\x.aL=true)
  (dH:∀e cap,cZ w b e cap->cZ w' b e cap)
  (aY:∃(cur:Array Value) (cap:Nat),w'.heap[b]? =some (.cells cur aw.ty (0,0))/\cur.size=cap*aw.e/\aw.xs.length<=cap/\cap<=maxLen/\
   ∀(i:Nat)(x:PV),aw.xs[i]? =some x->∀(j:Nat)(y:PV),x.cells[j]? =some y->Qp w (aK C ρ hp) y (cur.getD (i*aw.e+j) undef)):Qr C ρ fr (Qi hp β aw) tmps w':=by
 have Ku:∀c,aK C ρ (Qi hp β aw) c↔aK C ρ hp c:=by
  intro c
  constructor
  ·rintro(hx|⟨γ,hg,h1,h2,h3⟩)
   ·exact .inl hx
   ·unfold Qi at h1
    by_cases aj:γ=β
    ·subst aj;exact .inr ⟨γ,hb,af,na,h3⟩
    ·rw[if_neg aj]at h1;exact .inr ⟨γ,hg,h1,h2,h3⟩
  ·rintro(hx|⟨γ,hg,h1,h2,h3⟩)
   ·exact .inl hx
   ·by_cases aj:γ=β
    ·subst aj;exact .inr ⟨γ,aw,by simp[Qi],e4,h3⟩
    ·exact .inr ⟨γ,hg,by simp[Qi,aj,h1],h2,h3⟩
 have hXf:aK C ρ (Qi hp β aw)=aK C ρ hp:=funext fun c=>propext (Ku c)
 have Kz:aK C ρ hp b:= .inr ⟨β,hb,af,na,bD⟩
 have Gz:dK β=false:=by
  cases hq:dK β with
  |false=>rfl
  |true=>have:=(h.own β hb af).ro hq;rw[na]at this;cases this
 have dS:mW w w' (aK C ρ hp) (aK C ρ (Qi hp β aw)):=by
  rw[hXf]
  exact⟨fun c hc hn=>hx.block c hc (fun e=>hn (e▸Kz)),fun _ _ hn=>hn,hx.size⟩
 have hc:=dS.rc
 have bB:=(h.own β hb af).cL
 rw[bD]at bB
 have jZ:Ext C.Y0 C.w0 w':=by
  refine h.ext.trans' (Y':=fun c=>c=b) hx ?_
  intro c hc he
  subst he
  exact(Ctx.FQ bB.1 Gz).resolve_left (by omega)
 have CE:∀β c,C.fx β=some c->∀e cap,cZ C.w0 c e cap->cZ w' c e cap:=fun b0 c dS e cap ij=>by
  have h1:=h.fp b0 c dS e cap ij
  by_cases jo:c=b
  ·subst jo;exact dH e cap h1
  ·exact mA (hx.block c (mC h1) jo) h1
 refine⟨h.sz,jZ,CE,fun γ hg aj=> ?_,fun γ δ c h1 h2 h3 h4=> ?_,fun i=> ?_⟩
 ·unfold Qi at aj
  by_cases sW:γ=β
  ·subst sW
   rw[if_pos rfl]at aj;cases aj
   refine⟨by rw[e1];exact(h.own γ hb af).lg,hl,?_,(h.own γ hb af).fix,fun hq=>by rw[Gz]at hq;cases hq⟩
   rw[bD]
   obtain⟨cur,cap,c1,c2,c3,c4,c5⟩:=aY
   exact⟨bB.1,Kbu bB.2.1 hx.size,cur,cap,c1,c2,c3,c4,fun i x hi j y hy=>hc _ _ (c5 i x hi j y hy)⟩
  ·rw[if_neg sW]at aj
   obtain⟨p1,p2,p3,p4,p5⟩:=h.own γ hg aj
   refine⟨p1,p2,?_,p4,p5⟩
   cases hr:ρ γ with
   |none=>rw[hr]at p3;exact p3
   |some c=>
    rw[hr]at p3
    exact⟨p3.1,Kbu p3.2.1 hx.size,p3.2.2.move (hx.block c p3.2.1 (fun e=>sW (h.inj γ β b (by simp[aj]) (by simp[af]) (e▸hr) bD))) rfl rfl rfl hc⟩
 ·have f1:∀γ,Qi hp β aw γ≠none->hp γ≠none:=fun γ hn=>by
   unfold Qi at hn
   by_cases aj:γ=β
   ·subst aj;simp[af]
   ·rwa[if_neg aj]at hn
  exact h.inj γ δ c (f1 γ h1) (f1 δ h2) h3 h4
 ·have key:∀γ,pI ρ ρ hp (Qi hp β aw) w w' γ:=fun γ=>⟨rfl,fun hg gO=>by
   by_cases aj:γ=β
   ·subst aj
    rw[af]at gO;cases gO
    exact⟨aw,by simp[Qi],e1,by rw[e3];exact Kaf _,fun c cap hr ij=>by rw[bD]at hr;cases hr;exact dH _ cap ij,fun he=>absurd he aH⟩
   ·have pA:∀c,ρ γ=some c->¬c=b:=fun c hr e=>aj (h.inj γ β b (by simp[gO]) (by simp[af]) (e▸hr) bD)
    refine⟨hg,by simp[Qi,aj,gO],rfl,Kaf _,fun c cap hr ij=>mA (hx.block c (mC ij) (pA c hr)) ij,fun he=>⟨he,rfl,fun c hr=>hx.block c ?_ (pA c hr)⟩⟩
    have:=(h.own γ hg gO).cL
    rw[hr]at this;exact this.2.1⟩
  exact(h.cS i).rK dS (fun γ _=>(key γ).o) (fun γ _=>key γ)
end Go.FW
namespace Go.FW
open Go
variable {C : Ctx} {ρ : Nat -> Option Nat} {fr : Fr} {hp : HP} {w : World} {a : Act} {K : Qh}
theorem Rj{X:Nat->Prop}{v:Value}{p:PV}(h:Bc v=some p):Qp w X p v:=by
 unfold Bc at h
 split at h<;>simp at h<;>subst h<;>constructor
theorem oE{α β:Type}{f:α->Option β}:∀ {l:List α} {r:List β},l.mapM f=some r->r.length=l.length/\∀(i:Nat)(y:β),r[i]? =some y->∃x,l[i]? =some x/\f x=some y
 | [],r,h=>by simp at h;subst h;simp
 |x::l,r,h=>by
  rw[KcD]at h
  simp only[Kch,KcJ,Kab,KaC]at h
  obtain⟨y,hy,r',hr,rfl⟩:=h
  obtain⟨h1,h2⟩:=oE hr
  refine⟨by simp[h1],fun i z hz=> ?_⟩
  cases i with
  |zero=>simp at hz;subst hz;exact⟨x,by simp,hy⟩
  |succ i=>simp at hz;simpa using h2 i z hz
theorem DJ(cs:Array Value)(i:Nat)(x:Value)(h:cs.toList[i]? =some x):cs.getD i undef=x:=by
 simp only[Array.getElem?_toList]at h
 simp[KaW,h]
theorem tk{X:Nat->Prop}{v:Value}{p:PV}(h:tz v=some p):bI w X p v:=by
 unfold tz at h
 split at h
 ·rename_i cs
  simp only[Kaa]at h
  obtain⟨l,h1,rfl⟩:=h
  obtain⟨g1,g2⟩:=oE h1
  refine⟨cs,rfl,by simpa using g1.symm,fun i x hx=> ?_⟩
  obtain⟨u,hu,hc⟩:=g2 i x hx
  rw[DJ cs i u hu]
  exact Rj hc
 ·exact bI.rN (Rj h)
theorem HV{v:Value}{p:PV}(h:tz v=some p):p.aL=true/\p.refs=[]/\(∀f first cap,p≠ .fn f first cap):=by
 unfold tz at h
 split at h
 ·simp only[Kaa]at h
  obtain⟨l,h1,rfl⟩:=h
  simp[PV.aL,PV.refs]
 ·unfold Bc at h
  split at h<;>simp at h<;>subst h<;>simp[PV.aL,PV.refs]
theorem Qm.VV{p:PV}{v:Value}(h:bI w (aK C ρ hp) p v)(hn:∀f first cap,p≠ .fn f first cap):Qm C ρ hp w p v:=by
 cases p with
 |fn f first cap=>exact absurd rfl (hn _ _ _)
 |undef=>trivial
 |mp=>cases h
 |aB=>cases h
 |rb=>cases h
 |aG=>cases h
 |np=>cases h
 |bm=>cases h
 |aF=>cases h
 |aI=>cases h
 |agg cs=>exact h
 |_=>exact h
theorem Qm.mu{p:PV}{v:Value}(h:bI w (aK C ρ hp) p v):Qm C ρ hp w p v:=by
 by_cases hf:∃f first cap,p= .fn f first cap
 ·obtain⟨f,first,cap,rfl⟩:=hf
  cases h with
  |fn _ _ _ fv cv h1 h2 h3 h4=>
   refine⟨fv,cv,rfl,h1,h2,fun i x hi=> ?_,fun i x hi=> ?_⟩
   ·have:=h3 i x hi;cases x<;>first|exact this|cases this
   ·have:=h4 i x hi;cases x<;>first|exact this|cases this
 ·exact Qm.VV h (fun f first cap e=>hf ⟨f,first,cap,e⟩)
theorem cO{x:Operand}{y:aS}(h:Qr C ρ fr hp a.tmps w)(ho:b5 x=some y):Qm C ρ hp w (ev fr y) (a.eval x):=by
 cases x with
 |tmp t=>simp[b5]at ho;subst ho;exact h.cS t
 |const v=>
  simp only[b5,Kaa]at ho
  obtain⟨p,hp',rfl⟩:=ho
  exact Qm.VV (tk hp') (HV hp').2.2
 |global g=>simp[b5]at ho
 |func f=>
  simp[b5]at ho;subst ho
  exact⟨#[],#[],rfl,rfl,rfl,by simp,by simp⟩
theorem Qm.lB{k:IntKind}{n:Int}{v:Value}(h:Qm C ρ hp w (.int k n) v):v= .int k n:=by cases h;rfl
theorem Qm.zQ{b:Bool}{v:Value}(h:Qm C ρ hp w (.bool b) v):v= .bool b:=by cases h;rfl
theorem Qm.yz{v:Value}(h:Qm C ρ hp w .al v):v= .slice none 0 0:=by cases h;rfl
theorem Qm.mkInt(k:IntKind)(n:Int):Qm C ρ hp w (.int k n) (.int k n):=Qp.int k n
theorem Qm.Ao(b:Bool):Qm C ρ hp w (.bool b) (.bool b):=Qp.bool b
theorem Qm.Wh:Qm C ρ hp w (.aI []) undef:=⟨#[],rfl,rfl,by simp⟩
def bP(C:Ctx)(ρ:Nat->Option Nat)(o:Oper)(a:Act)(w:World)(K:Qh):Prop:=
 ∃v,(∀w',(execOp a.eval o).run C.P w'= .ok (.value v) w')/\∃aC hp',Qr C ρ aC hp' (a.put o.dst v).tmps w/\K aC hp'
theorem bP.mk{o:Oper}{d:Nat}{p:PV}{v:Value}(hd:o.dst=some d)(au:d<C.N)(h:Qr C ρ fr hp a.tmps w)
  (cm:∀w',(execOp a.eval o).run C.P w'= .ok (.value v) w') (hr:Qm C ρ hp w p v) (hK:K (ae fr d p) hp):bP C ρ o a w K:=
 ⟨v,cm,ae fr d p,hp,by rw[hd];exact h.ae hr au,hK⟩
theorem jz{P:Program}{t:TypeId}{d:TypeDesc}(h:P.underlying t=some d)(w:World):(underlying t).run P w= .ok d w:=run_underlying h w
theorem lJ{P:Program}{t:TypeId}{n:Nat}(h:dW P t=some n)(w:World):(sizeOf t).run P w= .ok n w:=by
 simp only[dW,Kaa]at h
 obtain⟨i,hi,rfl⟩:=h
 simp[sizeOf,typeInfo,hi]
theorem AP{P:Program}{t:TypeId}{ag:Bool}(h:mU P t=some ag)(w:World):(isAgg t).run P w= .ok ag w:=by
 simp only[mU,Kaa]at h
 obtain⟨d,hd,rfl⟩:=h
 simp only[isAgg,Kaq,jz hd,Kal]
 cases d<;>rfl
theorem QW{P:Program}{T:TypeId}(hu:P.underlying T=some .bool)(n m:Bool)(w:World):(Op.equal T (.bool n) (.bool m)).run P w= .ok (n==m) w:=by
 show(Op.equalIn (9999+1) T (.bool n) (.bool m)).run P w=_
 unfold Op.equalIn
 rw[Kaq,jz hu,Kal]
 rfl
theorem WM{P:Program}{T:TypeId}(hu:P.underlying T=some .bool)(n m:Bool)(w:World):(binOp .eql T (.bool n) (.bool m)).run P w= .ok (.bool (n==m)) w:=by
 show(do pure (Value.bool (<-Op.equal T (.bool n) (.bool m))):Sem Value).run P w=_
 rw[Kaq,QW hu,Kal]
 rfl
theorem WN{P:Program}{T:TypeId}(hu:P.underlying T=some .bool)(n m:Bool)(w:World):(binOp .neq T (.bool n) (.bool m)).run P w= .ok (.bool (!(n==m))) w:=by
 show(do pure (Value.bool (!(<-Op.equal T (.bool n) (.bool m)))):Sem Value).run P w=_
 rw[Kaq,QW hu,Kal]
 rfl
theorem th{o:Oper}{op:BinOp}{T T2:TypeId}{x y:Operand}(ho:o.op= .binOp op T x y T2){vx vy v:Value}(ex:a.eval x=vx)(ey:a.eval y=vy)
  (hg:∀w,(eqGuard op T x y vx vy).run C.P w= .ok () w) (hr:∀w,(binOp op T vx vy).run C.P w= .ok v w):∀w,(execOp a.eval o).run C.P w= .ok (.value v) w:=by
 intro w
 unfold execOp
 simp only[ho,ex,ey,Kaq,hg,hr,Kal]
 rfl
theorem aaM{o:Oper}{op:BinOp}{T T2:TypeId}{x y:Operand}{px py:PV}{d:Nat}(ho:o.op= .binOp op T x y T2)(hd:o.dst=some d)(au:d<C.N)(h:Qr C ρ fr hp a.tmps w)
    (hx:Qm C ρ hp w px (a.eval x)) (hy:Qm C ρ hp w py (a.eval y)) {bt:Bool} (dv:bt=true->C.P.underlying T=some .bool)
    (hv:ca op bt px py d fr hp K):bP C ρ o a w K:=by
  unfold ca at hv
  split at hv
  · rename_i k n k' m
    have ex:=hx.lB
    have ey:=hy.lB
    have ql:∀w',(eqGuard op T x y (.int k n) (.int k' m)).run C.P w'= .ok () w':=by
      intro w';unfold eqGuard;cases op<;>rfl
    split at hv
    · obtain⟨h0,hv⟩:=hv
      have Kl:¬m<0:=by omega
      exact bP.mk hd au h (th ho ex ey ql (fun w'=>by simp[binOp,Op.shift,Kl])) (Qm.mkInt _ _) hv
    · obtain⟨h0,hv⟩:=hv
      have Kl:¬m<0:=by omega
      exact bP.mk hd au h (th ho ex ey ql (fun w'=>by simp[binOp,Op.shift,Kl])) (Qm.mkInt _ _) hv
    all_goals first
      |exact hv.elim
      | (obtain⟨rfl,h0,hv⟩:=hv
         exact bP.mk hd au h (th ho ex ey ql (fun w'=>by simp[binOp,Op.intDiv,h0])) (Qm.mkInt _ _) hv)
      | (obtain⟨rfl,hv⟩:=hv
         exact bP.mk hd au h (th ho ex ey ql (fun w'=>by simp[binOp,Op.intArith,Op.intBits])) (Qm.mkInt _ _) hv)
      | (obtain⟨rfl,hv⟩:=hv
         refine bP.mk hd au h (th ho ex ey ql ?_) (Qm.Ao _) hv
         intro w'
         simp[binOp,Op.intCmp]<;>rfl)
  · rename_i n m
    have ex:=hx.zQ
    have ey:=hy.zQ
    have ql:∀w',(eqGuard op T x y (.bool n) (.bool m)).run C.P w'= .ok () w':=by
      intro w';unfold eqGuard;cases op<;>rfl
    split at hv
    · obtain⟨hb,hv⟩:=hv
      exact bP.mk hd au h (th ho ex ey ql (WM (dv hb) n m)) (Qm.Ao _) hv
    · obtain⟨hb,hv⟩:=hv
      exact bP.mk hd au h (th ho ex ey ql (WN (dv hb) n m)) (Qm.Ao _) hv
    · exact hv.elim
  · exact hv.elim
theorem Qm.Wb{e:Nat}{xs:List PV}{v:Value}(h:Qm C ρ hp w (.sl e xs) v):∃ad cap,v= .slice ad xs.length cap/\xs.length<=cap/\cap<=maxLen:=by
 cases h with
 |nt _ ad cap hc=>exact⟨ad,cap,rfl,Kbv _,hc⟩
 |sl _ _ b off cap vs hX hb hl hc=>exact⟨_,cap,rfl,hl,hc⟩
theorem Qm.Ly{β o n:Nat}{v:Value}(h:Qm C ρ hp w (.aB β o n) v):∃ad cap,v= .slice ad n cap:=by
 obtain⟨hb,_,_,⟨_,rfl,rfl,rfl⟩|⟨b,cap,_,rfl,_⟩⟩:=h
 ·exact⟨_,_,rfl⟩
 ·exact⟨_,_,rfl⟩
theorem Qm.aro{γ o n:Nat}{v:Value}(h:Qm C ρ hp w (.aG γ o n) v):∃ad cap,v= .slice ad n cap:=by
 obtain⟨_,hb,b,cap,_,_,rfl,_⟩:=h
 exact⟨_,_,rfl⟩
theorem Qm.LA{γ i o:Nat}{v:Value}(h:Qm C ρ hp w (.np γ i o) v):bE γ=true/\∃b hb,ρ γ=some b/\hp γ=some hb/\v= .pointer (some ⟨b,i*hb.e+o,none⟩):=h
theorem Qm.ofS{p:PV}{v:Value}(h:cW C ρ hp w p v):Qm C ρ hp w p v:=by
 cases p with
 |undef=>trivial
 |aB β o n=>exact h.2
 |aG γ o n=>exact h
 |_=>exact Qm.mu (bI.rN h)
theorem cW.Wd{p:PV}{v:Value}(h:cW C ρ hp w p v)(hr:p.nr=false):Qp w (aK C ρ hp) p v:=by
 cases p with
 |undef=>cases hr
 |aB=>cases hr
 |aG=>cases hr
 |_=>exact h
theorem cW.VU{p:PV}{v:Value}(h:Qp w (aK C ρ hp) p v):cW C ρ hp w p v:=by
 cases p with
 |aB=>cases h
 |aG=>cases h
 |undef=>trivial
 |_=>exact h
theorem cW.sZ{p:PV}{v:Value}(h:cW C ρ hp w p v)(hu:p≠ .undef):v.oneCell'=true/\v.cells= #[v]:=by
 cases p with
 |undef=>exact absurd rfl hu
 |aB β o n=>obtain⟨_,hb,_,_,⟨_,rfl,_⟩|⟨b,cap,_,rfl,_⟩⟩:=h<;>exact⟨rfl,rfl⟩
 |aG γ o n=>obtain⟨_,hb,b,cap,_,_,rfl,_⟩:=h;exact⟨rfl,rfl⟩
 |_=>exact⟨(Qp.sZ h).1,(Qp.sZ h).2.1⟩
theorem Xa(cs:List PV):(nF cs).aU=cs:=by unfold nF;split<;>rfl
theorem aaN{cs:List PV}{vs:Array Value}(hs:vs.size=cs.length)(h:∀(i:Nat)(x:PV),cs[i]? =some x->cW C ρ hp w x (vs.getD i undef)):Qm C ρ hp w (nF cs) (.agg vs):=by
 unfold nF
 split
 ·exact⟨vs,rfl,hs,h⟩
 ·rename_i hn
  refine⟨vs,rfl,hs,fun i x hi=>(h i x hi).Wd ?_⟩
  have hm:=Kaj hi
  cases hq:x.nr with
  |false=>rfl
  |true=>exact absurd (Ka4.2 ⟨x,hm,hq⟩) hn
theorem OA{ag:Bool}{n off:Nat}{x:PV}{vs:Array Value}(hs:vs.size=n)(hle:off+n<=x.aU.length)(h1:ag=false->n=1)
  (hr:∀j y,j<n->x.aU[off+j]? =some y->cW C ρ hp w y (vs.getD j undef)):Qm C ρ hp w (rI ag n off x) (if ag then .agg vs else vs.getD 0 undef):=by
 cases ag with
 | true=>
  refine aaN (by simp[hs];omega) (fun i y hy=> ?_)
  have hi:i<n:=by
   have:=(Kae.1 hy).1
   simp at this;omega
  rw[KaM hi,Ka9]at hy
  exact hr i y hi hy
 | false=>
  have hn:=h1 rfl
  subst hn
  have au:off<x.aU.length:=by omega
  have e:x.aU[off+0]? =some (x.aU[off]):=by simp[Kag au]
  have:=hr 0 _ (by omega) e
  simp only[rI,Kbm,if_false]
  have e2:(x.aU.drop off).headD .undef=x.aU[off]:=by
   rw[KbN,Kcw,Kag au];rfl
  rw[e2]
  exact Qm.ofS this
theorem HM{o:Oper}{b:Builtin}{args:Array Operand}{ts:Array TypeId}(ho:o.op= .call { callee:= .builtin b,args:=args,argTypes:=ts }){v:Value}
  (hr:∀w,(builtin b ts o.type (args.map fun| .const _=>true|_=>false) (args.map a.eval)).run C.P w= .ok (.value v) w):∀w,(execOp a.eval o).run C.P w= .ok (.value v) w:=by
 intro w
 unfold execOp
 simp only[ho,resolve,Kaq,Ka3,Kal,invoke]
 exact hr w
theorem aaO{o:Oper}{x:Operand}{t:TypeId}{px:PV}{d:Nat}(ho:o.op= .call { callee:= .builtin .len,args:= #[x],argTypes:= #[t] })(hd:o.dst=some d)(au:d<C.N)(h:Qr C ρ fr hp a.tmps w)
  (hx:Qm C ρ hp w px (a.eval x)) {e:TypeId} (he:C.P.underlying t=some (.slice e)) (hv:pW px d fr hp K):bP C ρ o a w K:=by
 have key:∀ad n cap,a.eval x= .slice ad n cap->K (ae fr d (.int .i64 n)) hp->bP C ρ o a w K:=fun ad n cap ex hK=>
  bP.mk hd au h (HM ho (fun w'=>by simp[builtin,Builtin.len_,ex,Kaq,jz he,goInt])) (Qm.mkInt _ _) hK
 unfold pW at hv
 split at hv
 ·exact key _ _ _ hx.yz hv
 ·obtain⟨ad,cap,ex,_⟩:=hx.Wb;exact key _ _ _ ex hv
 ·obtain⟨ad,cap,ex⟩:=hx.Ly;exact key _ _ _ ex hv
 ·obtain⟨ad,cap,ex⟩:=hx.aro;exact key _ _ _ ex hv
 ·exact hv.elim
theorem acw{o:Oper}{x y:Operand}{ts:Array TypeId}{px py:PV}{d:Nat}(ho:o.op= .call { callee:= .builtin .max,args:= #[x,y],argTypes:=ts })(hd:o.dst=some d)(au:d<C.N)(h:Qr C ρ fr hp a.tmps w)
  (hx:Qm C ρ hp w px (a.eval x)) (hy:Qm C ρ hp w py (a.eval y)) (hv:yy px py d fr hp K):bP C ρ o a w K:=by
 unfold yy at hv
 split at hv
 ·rename_i k n k' m
  have ex:=hx.lB
  have ey:=hy.lB
  refine bP.mk hd au h (HM ho (fun w'=> ?_)) (Qm.mkInt _ _) hv
  have e:(if m>n then m else n)=max n m:=by omega
  simp[builtin,Builtin.max_,ex,ey,Builtin.max2,e]
 ·exact hv.elim
theorem ab3{o:Oper}{x y:Operand}{ts:Array TypeId}{px py:PV}{d:Nat}(ho:o.op= .call { callee:= .builtin .min,args:= #[x,y],argTypes:=ts })(hd:o.dst=some d)(au:d<C.N)(h:Qr C ρ fr hp a.tmps w)
  (hx:Qm C ρ hp w px (a.eval x)) (hy:Qm C ρ hp w py (a.eval y)) (hv:yw px py d fr hp K):bP C ρ o a w K:=by
 unfold yw at hv
 split at hv
 ·rename_i k n k' m
  have ex:=hx.lB
  have ey:=hy.lB
  refine bP.mk hd au h (HM ho (fun w'=> ?_)) (Qm.mkInt _ _) hv
  have e:(if m<n then m else n)=min n m:=by omega
  simp[builtin,Builtin.min_,ex,ey,Builtin.min2,e]
 ·exact hv.elim
theorem ab4{o:Oper}{op:UnOp}{T:TypeId}{x:Operand}{px:PV}{d:Nat}(ho:o.op= .unOp op T x)(hd:o.dst=some d)(au:d<C.N)(h:Qr C ρ fr hp a.tmps w)
  (hx:Qm C ρ hp w px (a.eval x)) (hv:wF op px d fr hp K):bP C ρ o a w K:=by
 unfold wF at hv
 split at hv
 ·have ex:=hx.zQ
  refine bP.mk hd au h (fun w'=> ?_) (Qm.Ao _) hv
  unfold execOp;simp only[ho,ex];rfl
 ·have ex:=hx.lB
  refine bP.mk hd au h (fun w'=> ?_) (Qm.mkInt _ _) hv
  unfold execOp;simp only[ho,ex];rfl
 ·exact hv.elim
theorem Za{o:Oper}{S T:TypeId}{x:Operand}{px:PV}{d:Nat}{ds:TypeDesc}{k:IntKind}(ho:o.op= .convert S T x)(hd:o.dst=some d)(au:d<C.N)(h:Qr C ρ fr hp a.tmps w)
  (hS:C.P.underlying S=some ds) (hT:C.P.underlying T=some (.int k)) (hx:Qm C ρ hp w px (a.eval x)) (hv:xf k px d fr hp K):bP C ρ o a w K:=by
 unfold xf at hv
 split at hv
 ·have ex:=hx.lB
  refine bP.mk hd au h (fun w'=> ?_) (Qm.mkInt _ _) hv
  unfold execOp;simp only[ho,ex,Kaq,convert,jz hS,jz hT,Kal];rfl
 ·exact hv.elim
theorem aaP{o:Oper}{i:Nat}{x:Operand}{px:PV}{d:Nat}(ho:o.op= .extract x i)(hd:o.dst=some d)(au:d<C.N)(h:Qr C ρ fr hp a.tmps w)
  (hx:Qm C ρ hp w px (a.eval x)) (hv:qM px i d fr hp K):bP C ρ o a w K:=by
 unfold qM at hv
 split at hv
 ·rename_i ps
  split at hv
  ·rename_i p ka
   obtain⟨iE,hv⟩:=hv
   obtain⟨vs,ex,h1,h2⟩:=hx
   have hi:i<vs.size:=by rw[h1];exact(Kae.1 ka).1
   have hr:=h2 i p ka
   have hg:vs.getD i undef=vs[i]:=by simp[Array.getD,hi]
   rw[hg]at hr
   refine bP.mk hd au h (fun w'=> ?_) (Qm.mu hr) hv
   unfold execOp;simp only[ho,ex,Kaq,Instr.extract,KbJ hi];rfl
  ·exact hv.elim
 ·exact hv.elim
theorem M9{o:Oper}{x:Operand}{px:PV}{d:Nat}(ho:o.op= .move x∨o.op= .assign x)(hd:o.dst=some d)(au:d<C.N)(h:Qr C ρ fr hp a.tmps w)
  (hx:Qm C ρ hp w px (a.eval x)) (hv:K (ae fr d px) hp):bP C ρ o a w K:=by
 refine bP.mk hd au h (fun w'=> ?_) hx hv
 rcases ho with ho|ho<;>(unfold execOp;simp only[ho];rfl)
theorem Zd{o:Oper}{c x y:Operand}{pc px py:PV}{d:Nat}(ho:o.op= .pick c x y)(hd:o.dst=some d)(au:d<C.N)(h:Qr C ρ fr hp a.tmps w)
  (hc:Qm C ρ hp w pc (a.eval c)) (hx:Qm C ρ hp w px (a.eval x)) (hy:Qm C ρ hp w py (a.eval y))
  (hv:tJ pc px py d fr hp K):bP C ρ o a w K:=by
 obtain⟨t,rfl,hv⟩:∃t,pc= .bool t/\((t=true->K (ae fr d px) hp)/\(t=false->K (ae fr d py) hp)):=by
  cases pc with
  |bool t=>exact⟨t,rfl,hv⟩
  |_=>exact hv.elim
 have ec:=hc.zQ
 cases t with
 |true=>
  refine bP.mk hd au h (fun w'=> ?_) hx (hv.1 rfl)
  unfold execOp;simp only[ho,ec];rfl
 |false=>
  refine bP.mk hd au h (fun w'=> ?_) hy (hv.2 rfl)
  unfold execOp;simp only[ho,ec];rfl
theorem Dv{P:Program}{T:TypeId}{k0:IntKind}(hu:P.underlying T=some (.int k0))(d:Nat)(k:IntKind)(n m:Int)(w:World):(Op.equalIn (d+1) T (.int k n) (.int k m)).run P w= .ok (n==m) w:=by
 unfold Op.equalIn
 rw[Kaq,jz hu,Kal]
 simp
theorem AQ{P:Program}{t:TypeId}{cs:Array Value}{off:Nat}{v:Value}(ha:mU P t=some false)(hv:cs[off]? =some v)(w:World):(part t cs off).run P w= .ok v w:=by
 unfold part
 rw[Kaq,AP ha,Kal]
 simp[hv]
theorem WO {P : Program} {T : TypeId} {f g : Field} (hu : P.underlying T = some (.struct #[f, g])) (h1 : f.name ≠ "_") (h2 : g.name ≠ "_") (o1 : f.offset = 0) (o2 : g.offset = 1) {k1 k2 : IntKind} (t1 : P.underlying f.type = some (.int k1)) (t2 : P.underlying g.type = some (.int k2))
  (hs:P.stoodInHeld T=false) (k l:IntKind) (x y x' y':Int) (w:World):(Op.equal T (.agg #[.int k x,.int l y]) (.agg #[.int k x',.int l y'])).run P w= .ok (x==x'&&y==y') w:=by
 have a1:mU P f.type=some false:=by simp[mU,t1]
 have a2:mU P g.type=some false:=by simp[mU,t2]
 show(Op.equalIn (9998+1+1) T _ _).run P w=_
 rw[Op.equalIn]
 rw[Kaq,jz hu,Kal]
 have hp:Sem.run P program w= .ok P w:=rfl
 rw[Kaq,hp,Kal,hs]
 simp only[Kbm,if_false]
 rw[<-Array.forIn_toList]
 simp only[List.forIn_cons,List.forIn_nil,Kaq,o1,o2,h1,h2,ne_eq,not_false_eq_true,if_true,AQ a1 (show(#[Value.int k x,Value.int l y])[0]? =some _ from rfl),AQ a1 (show(#[Value.int k x',Value.int l y'])[0]? =some _ from rfl),
  AQ a2 (show(#[Value.int k x,Value.int l y])[1]? =some _ from rfl),AQ a2 (show(#[Value.int k x',Value.int l y'])[1]? =some _ from rfl),Dv t1,Dv t2,Kal]
 have q1:∀n m w,(Op.equalIn 9999 f.type (.int k n) (.int k m)).run P w= .ok (n==m) w:=fun n m w=>Dv t1 9998 k n m w
 have q2:∀n m w,(Op.equalIn 9999 g.type (.int l n) (.int l m)).run P w= .ok (n==m) w:=fun n m w=>Dv t2 9998 l n m w
 have p2:∀u v w,(part g.type #[u,v] 1).run P w= .ok v w:=fun u v w=>AQ a2 (show(#[u,v])[1]? =some _ from rfl) w
 by_cases e1:x=x'<;>by_cases e2:y=y'<;>simp[e1,e2,q1,q2,p2]
theorem ab5{P:Program}{T:TypeId}{b:Bool}{X Y:Array Value}(h:∀w,(Op.equal T (.agg X) (.agg Y)).run P w= .ok b w)(w:World):(binOp .eql T (.agg X) (.agg Y)).run P w= .ok (.bool b) w:=by
 show(do pure (Value.bool (<-Op.equal T (.agg X) (.agg Y))):Sem Value).run P w=_
 rw[Kaq,h,Kal]
 rfl
theorem ab6{P:Program}{T:TypeId}{b:Bool}{X Y:Array Value}(h:∀w,(Op.equal T (.agg X) (.agg Y)).run P w= .ok b w)(w:World):(binOp .neq T (.agg X) (.agg Y)).run P w= .ok (.bool !b) w:=by
 show(do pure (Value.bool (!(<-Op.equal T (.agg X) (.agg Y)))):Sem Value).run P w=_
 rw[Kaq,h,Kal]
 rfl
theorem Sh {P : Program} {T:TypeId} {op:BinOp} {x y:Operand} {X Y:Array Value} (h:P.eqGuardType P.depth T=false) (w:World):(eqGuard op T x y (.agg X) (.agg Y)).run P w= .ok () w:=by
  have hp:Sem.run P program w= .ok P w:=rfl
  have hg : (do if !(<-program).eqGuardType (<-program).depth T then return
                if <- Op.eqGuardIn Op.maxDepth T (.agg X) (.agg Y) then unsupported (.noEntry "binop/eql: two nil values of an interface type with methods, in a part of a struct or an array") : Sem Unit).run P w = .ok () w := by
    rw[Kaq,hp,Kal,Kaq,hp,Kal,h];rfl
  cases op<;>first|rfl|exact hg
theorem aix {P : Program} {T : TypeId} (h : G8 P T = true) : ∃ f g k1 k2, P.underlying T = some (.struct #[f, g]) /\ f.name ≠ "_" /\ g.name ≠ "_" /\ f.offset = 0 /\ g.offset = 1 /\ P.underlying f.type = some (.int k1) /\ P.underlying g.type = some (.int k2) /\ P.stoodInHeld T = false /\ P.eqGuardType P.depth T = false := by
 unfold G8 at h
 split at h
 ·rename_i fs hu
  split at h
  ·rename_i f g jL
   simp only[Kar,bne_iff_ne,ne_eq,beq_iff_eq,Kcx]at h
   obtain⟨⟨⟨⟨⟨⟨⟨h1,h2⟩,h3⟩,h4⟩,h5⟩,h6⟩,h7⟩,h8⟩:=h
   have:fs= #[f,g]:=by rw[<-Array.toArray_toList (xs:=fs),jL]
   subst this
   cases u1:P.underlying f.type with
   |none=>rw[u1]at h5;cases h5
   | some t1=>cases u2:P.underlying g.type with
    |none=>rw[u2]at h6;cases h6
    |some t2=>
     rw[u1]at h5;rw[u2]at h6
     cases t1<;>first|(cases h5;done)|skip
     cases t2<;>first|(cases h6;done)|skip
     exact⟨f,g,_,_,hu,h1,h2,h3,h4,u1,u2,h7,h8⟩
  ·cases h
 ·cases h
theorem Na{cs:List PV}{v:Value}{p q:PV}(n5:cs=[p,q])(h:Qm C ρ hp w (.agg cs) v):∃x y,v= .agg #[x,y]/\Qp w (aK C ρ hp) p x/\Qp w (aK C ρ hp) q y:=by
 subst n5
 obtain⟨vs,rfl,h1,h2⟩:=h
 have hs:vs.size=2:=h1
 refine⟨vs.getD 0 undef,vs.getD 1 undef,?_,h2 0 p rfl,h2 1 q rfl⟩
 congr 1
 apply Array.ext
 ·simp[hs]
 ·intro i hi ao
  have:i=0∨i=1:=by simp at ao;omega
  rcases this with rfl|rfl<;>simp[Array.getD,hs]
theorem aam{o:Oper}{op:BinOp}{ng:Bool}{T T2:TypeId}{x y:Operand}{px py:PV}{d:Nat}(ho:o.op= .binOp op T x y T2)(hop:TT op=some ng)(cR:G8 C.P T=true)(hd:o.dst=some d)(au:d<C.N)(h:Qr C ρ fr hp a.tmps w)
  (hx:Qm C ρ hp w px (a.eval x)) (hy:Qm C ρ hp w py (a.eval y)) (hv:ss ng px py d fr hp K):bP C ρ o a w K:=by
 obtain⟨f,g,k1,k2,hu,h1,h2,h3,h4,u1,u2,h7,h8⟩:=aix cR
 unfold ss at hv
 split at hv
 ·rename_i k n l m k' n' l' m'
  obtain⟨rfl,rfl,hv⟩:=hv
  obtain⟨a1,b1,ex,r1,r2⟩:=Na rfl hx
  obtain⟨a2,b2,ey,r3,r4⟩:=Na rfl hy
  cases r1;cases r2;cases r3;cases r4
  have heq:∀w,(Op.equal T (.agg #[.int k n,.int l m]) (.agg #[.int k n',.int l m'])).run C.P w= .ok (n==n'&&m==m') w:=fun w=>WO hu h1 h2 h3 h4 u1 u2 h7 k l n m n' m' w
  have e:(n==n'&&m==m')=(decide (n=n')&&decide (m=m')):=rfl
  rw[e]at heq
  cases op<;>first|(cases hop;done)|skip
  ·cases hop
   exact bP.mk hd au h (th ho ex ey (Sh h8) (ab5 heq)) (Qm.Ao _) (by simpa using hv)
  ·cases hop
   exact bP.mk hd au h (th ho ex ey (Sh h8) (ab6 heq)) (Qm.Ao _) (by simpa using hv)
 ·exact hv.elim
end Go.FW
namespace Go.FW
open Go
variable {C : Ctx} {ρ : Nat -> Option Nat} {fr : Fr} {hp : HP} {w : World} {a : Act} {K : Qh}
theorem Xb{l:List PV}{n:Nat}(h:n<l.length):l[n]? =some (l[n]'h):=Kag h
theorem HN{P:Program}{t e:TypeId}{n:Nat}{ad:Addr}{len cap:Nat}{k:IntKind}{i:Int}(hu:P.underlying t=some (.slice e))(hn:dW P e=some n)(h0:0<=i)(h1:i<len)(w:World):
  (Instr.indexAt t (.slice (some ad) len cap) (.int k i)).run P w= .ok (.pointer (some (ad.add (i.toNat*n)))) w:=by
 have h2:0<=i/\i<len:=⟨h0,h1⟩
 unfold Instr.indexAt
 simp only[asIntOf,Kaq,Ka3,Kal,jz hu,if_pos h2,lJ hn]
theorem QS{P:Program}{t e:TypeId}{n len:Nat}{ad:Addr}{k:IntKind}{i:Int}(hu:P.underlying t=some (.array len e))(hn:dW P e=some n)(h0:0<=i)(h1:i<len)(w:World):
  (Instr.indexAt t (.pointer (some ad)) (.int k i)).run P w= .ok (.pointer (some (ad.add (i.toNat*n)))) w:=by
 have h2:0<=i/\i<len:=⟨h0,h1⟩
 unfold Instr.indexAt
 simp only[asIntOf,Kaq,Ka3,Kal,jz hu,Instr.sureAddr,if_pos h2,lJ hn]
theorem Qm.Ap{β i o:Nat}{v:Value}(h:Qm C ρ hp w (.mp β i o) v):∃b hb,ρ β=some b/\hp β=some hb/\v= .pointer (some ⟨b,i*hb.e+o,none⟩):=h
theorem Qm.Lx{β i o b:Nat}{hb:HB}(h1:ρ β=some b)(h2:hp β=some hb):Qm C ρ hp w (.mp β i o) (.pointer (some ⟨b,i*hb.e+o,none⟩)):=⟨b,hb,h1,h2,rfl⟩
theorem aan{o:Oper}{t e:TypeId}{n:Nat}{x i:Operand}{px pi:PV}{d:Nat}(ho:o.op= .indexAddr t x i)(hd:o.dst=some d)(au:d<C.N)(h:Qr C ρ fr hp a.tmps w)
  (hu:C.P.underlying t=some (.slice e)) (hn:dW C.P e=some n) (hx:Qm C ρ hp w px (a.eval x)) (hi:Qm C ρ hp w pi (a.eval i)) (hv:iR n px pi d fr hp K):bP C ρ o a w K:=by
 unfold iR at hv
 split at hv
 ·rename_i e' xs k m
  obtain⟨rfl,h0,h1,hK⟩:=hv
  have ei:=hi.lB
  have hlen:m<xs.length:=by omega
  generalize ev:a.eval x=vx at hx
  cases hx with
  |nt=>simp at h1
  |sl _ _ b off cap vs hX hb hl hc he pB hr=>
   have og:=Xb h1
   have jK:=he _ _ og
   refine bP.mk hd au h (v:= .pointer (some ⟨b,off+m.toNat*n,none⟩)) (fun w'=> ?_) ?_ hK
   ·unfold execOp;simp only[ho,ei,ev,Kaq,HN hu hn h0 hlen,Kal,KbU];rfl
   ·exact Qp.pt _ b _ (vs m.toNat) hX hb (fun j hj=>pB m.toNat h1 j (by omega)) (fun j y hy=>hr m.toNat _ og j y hy)
 ·rename_i β o' m k n'
  obtain⟨h0,h1,h2,hK⟩:=hv
  have ei:=hi.lB
  obtain⟨hb,g1,g2,⟨g3,_,g5,_⟩|⟨b,cap,g3,g4,g5,g6⟩⟩:=hx
  ·omega
  ·rw[g1]at h2;simp only[Kcd,KaC]at h2;subst h2
   have hm:n'<m:=by omega
   refine bP.mk hd au h (fun w'=> ?_) (Qm.Lx g3 g1) hK
   unfold execOp;simp only[ho,ei,g4,Kaq,HN hu hn h0 hm,Kal,KbU,KaX,KaJ];rfl
 ·rename_i γ o' m k n'
  obtain⟨h0,h1,h2,hK⟩:=hv
  have ei:=hi.lB
  obtain⟨hB,hb,b,cap,g1,g3,g4,g5,g6,g7⟩:=hx
  rw[g1]at h2;simp only[Kcd,KaC]at h2;subst h2
  have hm:n'<m:=by omega
  refine bP.mk hd au h (p:= .np γ (o'+n'.toNat) 0) (fun w'=> ?_) (show cK C ρ hp w (.np γ (o'+n'.toNat) 0) _ from⟨hB,b,hb,g3,g1,rfl⟩) hK
  unfold execOp;simp only[ho,ei,g4,Kaq,HN hu hn h0 hm,Kal,KbU,KaX,KaJ];rfl
 ·exact hv.elim
theorem Qp.VY{X:Nat->Prop}{cs:List PV}{b off k:Nat}(h:Qp w X (.pt cs) (.pointer (some ⟨b,off,none⟩))):Qp w X (.pt (cs.drop k)) (.pointer (some ⟨b,off+k,none⟩)):=by
 cases h with
 |pt _ _ _ vs hX hb hv hr=>
  refine Qp.pt _ b _ (fun j=>vs (k+j)) hX hb (fun j hj=> ?_) (fun j y hy=> ?_)
  ·have:=hv (k+j) (by simp at hj;omega);rwa[<-Nat.add_assoc]at this
  ·rw[Ka9]at hy;exact hr _ _ hy
theorem Qm.G7{cs:List PV}{v:Value}(h:Qm C ρ hp w (.pt cs) v):∃b off,v= .pointer (some ⟨b,off,none⟩)/\Qp w (aK C ρ hp) (.pt cs) (.pointer (some ⟨b,off,none⟩)):=by
 have h':Qp w (aK C ρ hp) (.pt cs) v:=h
 cases h' with
 |pt _ b off vs hX hb hv hr=>exact⟨b,off,rfl,.pt _ b off vs hX hb hv hr⟩
theorem Ze{o:Oper}{t e:TypeId}{n len:Nat}{x i:Operand}{px pi:PV}{d:Nat}(ho:o.op= .indexAddr t x i)(hd:o.dst=some d)(au:d<C.N)(h:Qr C ρ fr hp a.tmps w)
  (hu:C.P.underlying t=some (.array len e)) (hn:dW C.P e=some n) (hx:Qm C ρ hp w px (a.eval x)) (hi:Qm C ρ hp w pi (a.eval i)) (hv:vj len n px pi d fr hp K):bP C ρ o a w K:=by
 unfold vj at hv
 split at hv
 ·rename_i β j o' k m
  obtain⟨h0,h1,hK⟩:=hv
  have ei:=hi.lB
  obtain⟨b,hb,g1,g2,g3⟩:=hx.Ap
  refine bP.mk hd au h (fun w'=> ?_) (Qm.Lx g1 g2) hK
  unfold execOp;simp only[ho,ei,g3,Kaq,QS hu hn h0 h1,Kal,KbU,Kcf];rfl
 ·rename_i cs k m
  obtain⟨h0,h1,h2,hK⟩:=hv
  have ei:=hi.lB
  obtain⟨b,off,ex,hp'⟩:=hx.G7
  refine bP.mk hd au h (p:= .pt (cs.drop (m.toNat*n))) (v:= .pointer (some ⟨b,off+m.toNat*n,none⟩)) (fun w'=> ?_) hp'.VY hK
  unfold execOp;simp only[ho,ei,ex,Kaq,QS hu hn h0 h1,Kal,KbU];rfl
 ·exact hv.elim
theorem HW{P:Program}{t:TypeId}{fs:Array Field}{j:Nat}{f:Field}{n b off:Nat}(hu:P.underlying t=some (.struct fs))(hf:fs[j]? =some f)(hn:dW P f.type=some n)(h0:n≠0)(w:World):
  (Instr.fieldAt t (.pointer (some ⟨b,off,none⟩)) j).run P w= .ok (.pointer (some ⟨b,off+f.offset,none⟩)) w:=by
 unfold Instr.fieldAt
 simp only[Kaq,jz hu,Kal,hf,Instr.sureAddr,Ka3,fieldPlace,lJ hn,if_neg h0,KbU]
theorem aao{o:Oper}{t:TypeId}{fs:Array Field}{j n:Nat}{f:Field}{x:Operand}{px:PV}{d:Nat}(ho:o.op= .fieldAddr t x j)(hd:o.dst=some d)(au:d<C.N)(h:Qr C ρ fr hp a.tmps w)
  (hu:C.P.underlying t=some (.struct fs)) (hf:fs[j]? =some f) (hn:dW C.P f.type=some n) (ll:n≠0) (hx:Qm C ρ hp w px (a.eval x)) (hv:su f.offset px d fr hp K):bP C ρ o a w K:=by
 unfold su at hv
 split at hv
 ·rename_i β i o'
  obtain⟨b,hb,g1,g2,g3⟩:=hx.Ap
  refine bP.mk hd au h (fun w'=> ?_) (Qm.Lx g1 g2) hv
  unfold execOp;simp only[ho,g3,Kaq,HW hu hf hn ll,Kal,Kcf];rfl
 ·rename_i γ i o'
  obtain⟨hB,b,hb,g1,g2,g3⟩:=hx.LA
  refine bP.mk hd au h (p:= .np γ i (o'+f.offset)) (fun w'=> ?_) (show cK C ρ hp w (.np γ i (o'+f.offset)) _ from⟨hB,b,hb,g1,g2,rfl⟩) hv
  unfold execOp;simp only[ho,g3,Kaq,HW hu hf hn ll,Kal,Kcf];rfl
 ·rename_i cs
  obtain⟨_,hK⟩:=hv
  obtain⟨b,off,ex,hp'⟩:=hx.G7
  refine bP.mk hd au h (p:= .pt (cs.drop f.offset)) (v:= .pointer (some ⟨b,off+f.offset,none⟩)) (fun w'=> ?_) hp'.VY hK
  unfold execOp;simp only[ho,ex,Kaq,HW hu hf hn ll,Kal];rfl
 ·exact hv.elim
theorem yJ(vs:Array Value)(off n j:Nat)(hj:j<n)(h:off+n<=vs.size):(vs.extract off (off+n)).getD j undef=vs.getD (off+j) undef:=by
 have h1:j<(vs.extract off (off+n)).size:=by simp;omega
 have h2:off+j<vs.size:=by omega
 simp only[KaW,KbJ h1,KbJ h2,Array.getElem_extract]
theorem Bv{X:Nat->Prop}{ag:Bool}{n off:Nat}{x:PV}{vs:Array Value}(hs:vs.size=n)(hle:off+n<=x.cells.length)(h1:ag=false->n=1)
  (hr:∀j y,j<n->x.cells[off+j]? =some y->Qp w X y (vs.getD j undef)):bI w X (eE ag n off x) (if ag then .agg vs else vs.getD 0 undef):=by
 cases ag with
 | true=>
  refine⟨vs,rfl,by simp[hs];omega,fun i y hy=> ?_⟩
  have hi:i<n:=by
   have:=(Kae.1 hy).1
   simp at this;omega
  rw[KaM hi,Ka9]at hy
  exact hr i y hi hy
 | false=>
  have hn:=h1 rfl
  subst hn
  have au:off<x.cells.length:=by omega
  have e:x.cells[off+0]? =some (x.cells[off]):=by simp[Kag au]
  have:=hr 0 _ (by omega) e
  simp only[eE,Kbm,if_false]
  have e2:(x.cells.drop off).headD .undef=x.cells[off]:=by
   rw[KbN,Kcw,Kag au];rfl
  rw[e2]
  exact bI.rN this
theorem Zj{o:Oper}{t:TypeId}{fs:Array Field}{j n:Nat}{ag:Bool}{f:Field}{x:Operand}{px:PV}{d:Nat}(ho:o.op= .field t x j)(hd:o.dst=some d)(au:d<C.N)(h:Qr C ρ fr hp a.tmps w)
  (hu:C.P.underlying t=some (.struct fs)) (hf:fs[j]? =some f) (hn:dW C.P f.type=some n) (kC:mU C.P f.type=some ag) (hx:Qm C ρ hp w px (a.eval x)) (hv:r9 f.offset n ag px d fr hp K):bP C ρ o a w K:=by
 unfold r9 at hv
 split at hv
 ·rename_i cs
  obtain⟨h1,h2,hK⟩:=hv
  obtain⟨vs,ex,g1,g2⟩:=hx
  have hle:f.offset+n<=vs.size:=by omega
  have gw:=Bv (X:=aK C ρ hp) (w:=w) (ag:=ag) (off:=f.offset) (x:= .agg cs) (vs:=vs.extract f.offset (f.offset+n)) (by simp;omega) h1 h2
   (fun j y hj hy=>by rw[yJ vs _ _ _ hj hle];exact g2 _ y hy)
  refine bP.mk hd au h (fun w'=> ?_) (Qm.mu gw) hK
  unfold execOp;simp only[ho,ex,Kaq,Instr.field,jz hu,Kal,hf,asAgg,Ka3,part,AP kC]
  cases ag with
  |true=>simp only[if_true,Kaq,lJ hn,Kal,Ka3]
  |false=>
   have gl:=h2 rfl
   subst gl
   have qn:f.offset<vs.size:=by omega
   simp only[Kbm,if_false,KbJ qn,Ka3,Kal]
   rw[yJ vs _ _ 0 (by omega) hle]
   simp[Array.getD,qn]
 ·rename_i cs
  obtain⟨h1,h2,hK⟩:=hv
  obtain⟨vs,ex,g1,g2⟩:=hx
  have hle:f.offset+n<=vs.size:=by omega
  have gw:=OA (C:=C) (ρ:=ρ) (hp:=hp) (w:=w) (ag:=ag) (off:=f.offset) (x:= .bm cs) (vs:=vs.extract f.offset (f.offset+n)) (by simp;omega) h1 h2
   (fun j y hj hy=>by rw[yJ vs _ _ _ hj hle];exact g2 _ y hy)
  refine bP.mk hd au h (fun w'=> ?_) gw hK
  unfold execOp;simp only[ho,ex,Kaq,Instr.field,jz hu,Kal,hf,asAgg,Ka3,part,AP kC]
  cases ag with
  |true=>simp only[if_true,Kaq,lJ hn,Kal,Ka3]
  |false=>
   have gl:=h2 rfl
   subst gl
   have qn:f.offset<vs.size:=by omega
   simp only[Kbm,if_false,KbJ qn,Ka3,Kal]
   rw[yJ vs _ _ 0 (by omega) hle]
   simp[Array.getD,qn]
 ·exact hv.elim
theorem aap{o:Oper}{t e:TypeId}{len n:Nat}{ag:Bool}{x i:Operand}{px pi:PV}{d:Nat}(ho:o.op= .index t x i)(hd:o.dst=some d)(au:d<C.N)(h:Qr C ρ fr hp a.tmps w)
  (hu:C.P.underlying t=some (.array len e)) (hn:dW C.P e=some n) (kC:mU C.P e=some ag) (hx:Qm C ρ hp w px (a.eval x)) (hi:Qm C ρ hp w pi (a.eval i)) (hv:vw len n ag px pi d fr hp K):bP C ρ o a w K:=by
 unfold vw at hv
 split at hv
 ·rename_i cs k m
  obtain⟨h0,h00,h1,h2,hK⟩:=hv
  have ei:=hi.lB
  obtain⟨vs,ex,g1,g2⟩:=hx
  have hle:m.toNat*n+n<=vs.size:=by omega
  have Cu:0<=m/\m<len:=⟨h0,h00⟩
  have gw:=Bv (X:=aK C ρ hp) (w:=w) (ag:=ag) (off:=m.toNat*n) (x:= .agg cs) (vs:=vs.extract (m.toNat*n) (m.toNat*n+n)) (by simp;omega) h1 h2
   (fun j y hj hy=>by rw[yJ vs _ _ _ hj hle];exact g2 _ y hy)
  refine bP.mk hd au h (fun w'=> ?_) (Qm.mu gw) hK
  unfold execOp;simp only[ho,ex,ei,Kaq,Instr.index,asIntOf,jz hu,Kal,Ka3,if_pos Cu,lJ hn,part,AP kC]
  cases ag with
  |true=>simp only[if_true,Kaq,lJ hn,Kal,Ka3]
  |false=>
   have gl:=h2 rfl
   subst gl
   have qn:m.toNat*1<vs.size:=by omega
   simp only[Kbm,if_false,KbJ qn,Ka3,Kal]
   rw[yJ vs _ _ 0 (by omega) hle]
   have xW:m.toNat<vs.size:=by omega
   simp[Array.getD,xW]
 ·exact hv.elim
end Go.FW
namespace Go.FW
open Go
variable {C : Ctx} {ρ : Nat -> Option Nat} {fr : Fr} {hp : HP} {w : World} {a : Act} {K : Qh}
def BJ(C:Ctx)(ρ:Nat->Option Nat)(o:Oper)(a:Act)(w:World)(K:Qh):Prop:=
 ∃v b,b<w.heap.size/\(∀w',w'.heap[b]? =w.heap[b]? ->(execOp a.eval o).run C.P w'= .ok (.value v) w')/\∃aC hp',Qr C ρ aC hp' (a.put o.dst v).tmps w/\K aC hp'
theorem DF{P:Program}{t:TypeId}{n b off:Nat}{ag:Bool}{vs:Array Value}(hn:dW P t=some n)(kC:mU P t=some ag)(h1:ag=false->n=1)(hs:vs.size=n)
  (w:World) (hc:∀j,j<n->w.cell? ⟨b,off+j,none⟩=some (vs.getD j undef)):
  (loadVar t ⟨b,off,none⟩).run P w= .ok (if ag then .agg vs else vs.getD 0 undef) w:=by
 unfold loadVar
 simp only[Kaq,AP kC,Kal]
 cases ag with
 | true=>
  have hl:=run_loadCells_list (P:=P) w ⟨b,off,none⟩ vs.toList (fun j v hj=>by
   have dw:j<vs.size:=by simpa using(Kae.1 hj).1
   rw[KbU,hc j (by omega),DJ vs j v hj])
  simp only[Array.length_toList,hs]at hl
  simp only[if_true,Kaq,lJ hn,Kal,hl,Ka3]
 |false=>
  have gl:=h1 rfl
  subst gl
  have h0:=hc 0 (by omega)
  simp only[KaX]at h0
  simp only[Kbm,if_false,run_load,h0]
theorem oL{i e o j n cap:Nat}(h1:i<cap)(h2:o+n<=e)(h3:j<n):i*e+o+j<cap*e:=by
 have:(i+1)*e<=cap*e:=Kah e h1
 rw[KaJ,KcK]at this
 omega
theorem my{w:World}{b o:Nat}{cur:Array Value}{ty:TypeId}(h:w.heap[b]? =some (.cells cur ty (0,0)))(ho:o<cur.size):w.cell? ⟨b,o,none⟩=some (cur.getD o undef):=by
 simp[World.cell?,h,ho,Array.getD]
theorem uQ{n:Nat}{f:Nat->Value}{j:Nat}(hj:j<n):(Array.ofFn (n:=n) fun i=>f i.val).getD j undef=f j:=by
 simp[Array.getD,hj]
theorem ab7{o:Oper}{t:TypeId}{n:Nat}{ag:Bool}{x:Operand}{px:PV}{d:Nat}(ho:o.op= .load t x)(hd:o.dst=some d)(au:d<C.N)(h:Qr C ρ fr hp a.tmps w)
  (hn:dW C.P t=some n) (kC:mU C.P t=some ag) (hx:Qm C ρ hp w px (a.eval x)) (hv:iW n ag px d fr hp K):BJ C ρ o a w K:=by
 have fin:∀(b off:Nat)(vs:Array Value)(p:PV),a.eval x= .pointer (some ⟨b,off,none⟩)->(ag=false->n=1)->b<w.heap.size->vs.size=n->
   (∀j,j<n->w.cell? ⟨b,off+j,none⟩=some (vs.getD j undef))->bI w (aK C ρ hp) p (if ag then .agg vs else vs.getD 0 undef)->K (ae fr d p) hp->BJ C ρ o a w K:=by
  intro b off vs p ex h1 hb hs hc hr hK
  refine⟨_,b,hb,fun w' qt=> ?_,ae fr d p,hp,by rw[hd];exact h.ae (Qm.mu hr) au,hK⟩
  have:=DF (P:=C.P) hn kC h1 hs w' (fun j hj=>by rw[wL qt];exact hc j hj)
  unfold execOp
  simp only[ho,ex,Kaq,Instr.loadAt,Instr.sureAddr,Ka3,Kal,this]
 unfold iW at hv
 split at hv
 ·rename_i β i o'
  split at hv
  ·rename_i hb af
   obtain⟨h1,h2,h3,hK⟩:=hv
   obtain⟨b,hb2,g1,g2,g3⟩:=hx.Ap
   rw[af]at g2;cases g2
   have bB:=h.own β hb af
   have aY:=bB.cL
   rw[g1]at aY
   obtain⟨_,qn,cur,cap,c1,c2,c3,c4,c5⟩:=aY
   have fE:=Kag h1
   have jK:=(bB.len i _ fE).1
   have dH:i<cap:=by omega
   have um:∀j,j<n->i*hb.e+o'+j<cur.size:=fun j hj=>by rw[c2];exact oL dH h2 hj
   refine fin b (i*hb.e+o') (Array.ofFn (n:=n) fun j=>cur.getD (i*hb.e+o'+j.val) undef) _ g3 h3 qn (by simp) (fun j hj=> ?_) ?_ hK
   ·rw[uQ (f:=fun j=>cur.getD (i*hb.e+o'+j) undef) hj];exact my c1 (um j hj)
   ·refine Bv (by simp) (by rw[jK];exact h2) h3 (fun j y hj hy=> ?_)
    rw[uQ (f:=fun j=>cur.getD (i*hb.e+o'+j) undef) hj,Kcf]
    exact c5 i _ fE (o'+j) y hy
  ·exact hv.elim
 ·rename_i cs
  obtain⟨h1,h3,hK⟩:=hv
  obtain⟨b,off,ex,Le⟩:=hx.G7
  cases Le with
  | pt _ _ _ vs hX hb Gj hr=>
   refine fin b off (Array.ofFn (n:=n) fun j=>vs j.val) _ ex h3 hb (by simp) (fun j hj=> ?_) ?_ hK
   ·rw[uQ hj];exact Gj j (by omega)
   ·refine Bv (by simp) (by simpa[PV.cells]using h1) h3 (fun j y hj hy=> ?_)
    rw[uQ hj]
    exact hr j y (by simpa[PV.cells]using hy)
 ·rename_i β o' m
  obtain⟨rfl,rfl,hK⟩:=hv
  obtain⟨b,u,e1,e2,e3,e4,e5⟩:=hx
  refine⟨_,b,e2,fun w' qt=> ?_,ae fr d (.aB β o' m),hp,by rw[hd];exact h.ae (p:= .aB β o' m) (v:=u) e5 au,hK⟩
  have:=DF (P:=C.P) (t:=t) (b:=b) (off:=0) (vs:= #[u]) hn kC (fun _=>rfl) rfl w' (fun j hj=>by
   obtain rfl:j=0:=by omega
   rw[wL qt];simpa using e4)
  unfold execOp
  simp only[ho,e1,Kaq,Instr.loadAt,Instr.sureAddr,Ka3,Kal,this]
  rfl
 ·rename_i γ i o'
  split at hv
  ·rename_i bo e ty xs aj
   obtain⟨rfl,h1,h2,h3,hK⟩:=hv
   obtain⟨hB,b,hb,g1,g2,g3⟩:=hx.LA
   have bb:=h.cS bo
   rw[aj]at bb
   obtain⟨_,v8,b',aw,cur,cap,q1,q2,q3,q4,q5,q6,q7,q8,q9,C8,yA⟩:=bb
   rw[g1]at q1;cases q1
   rw[g2]at q2;cases q2
   rw[q4]at g3
   have qn:b<w.heap.size:=(KbR.1 q6).1
   have fE:=Kag h1
   have jK:=C8 i _ fE
   have dH:i<cap:=by omega
   have um:∀j,j<n->i*e+o'+j<cur.size:=fun j hj=>by rw[q7];exact oL dH h2 hj
   have lv:∀j,j<n->w.cell? ⟨b,i*e+o'+j,none⟩=some ((Array.ofFn (n:=n) fun j=>cur.getD (i*e+o'+j.val) undef).getD j undef):=fun j hj=>by
    rw[uQ (f:=fun j=>cur.getD (i*e+o'+j) undef) hj];exact my q6 (um j hj)
   have gw:=OA (C:=C) (ρ:=ρ) (hp:=hp) (w:=w) (ag:=ag) (n:=n) (off:=o') (x:=xs[i]) (vs:=Array.ofFn (n:=n) fun j=>cur.getD (i*e+o'+j.val) undef) (by simp) (by rw[jK];exact h2) h3 (fun j y hj hy=>by
    rw[uQ (f:=fun j=>cur.getD (i*e+o'+j) undef) hj,Kcf]
    exact yA i _ fE (o'+j) y hy)
   refine⟨_,b,qn,fun w' qt=> ?_,ae fr d _,hp,by rw[hd];exact h.ae gw au,hK⟩
   have:=DF (P:=C.P) (b:=b) (off:=i*e+o') (vs:=Array.ofFn (n:=n) fun j=>cur.getD (i*e+o'+j.val) undef) hn kC h3 (by simp) w' (fun j hj=>by rw[wL qt];exact lv j hj)
   unfold execOp
   simp only[ho,g3,Kaq,Instr.loadAt,Instr.sureAddr,Ka3,Kal,this]
  ·exact hv.elim
 ·exact hv.elim
theorem RD{tmps:Array Value}(h:Qr C ρ fr hp tmps w){β b:Nat}{hb:HB}{l:List Nat}(_hB:aP β=false)(af:hp β=some hb)(hl:β∈l)(bD:ρ β=some b):¬aK C ρ (bV hp l) b:=by
 have aY:=(h.own β hb af).cL
 rw[bD]at aY
 rintro(hx|⟨γ,hg,h1,h2,h3⟩)
 ·exact Ctx.FP aY.1 (zt _hB) hx
 ·obtain⟨qk,g1,_,_,_,_,g6⟩:=Az h1
  have:=h.inj γ β b (by simp[g1]) (by simp[af]) h3 bD
  subst this
  exact g6 h2 hl
theorem Eg{tmps:Array Value}(h:Qr C ρ fr hp tmps w){p:PV}{v:Value}{l:List Nat}(hr:cK C ρ hp w p v)(hl:∀β∈p.bX,β∈l)(hu:cN hp p≠ .undef):Qp w (aK C ρ (bV hp l)) (cN hp p) v:=by
 cases p with
 | mp β i o=>
  obtain⟨b,hb,g1,g2,rfl⟩:=hr
  have yq:=hl β (by simp[PV.bX])
  have bB:=h.own β hb g2
  have aY:=bB.cL
  rw[g1]at aY
  obtain⟨_,au,cur,cap,c1,c2,c3,c4,c5⟩:=aY
  have hB:aP β=false:=by
   cases hq:aP β with
   |false=>rfl
   |true=>simp[cN,hq]at hu
  simp only[cN,g2,hB]at hu⊢
  cases hx:hb.xs[i]? with
  |none=>simp[hx]at hu
  | some x=>
   simp only[Kbm,if_false]
   have hi:i<hb.xs.length:=(Kae.1 hx).1
   have jK:=(bB.len i x hx).1
   refine Qp.pt _ b _ (fun j=>cur.getD (i*hb.e+o+j) undef) (RD h hB g2 yq g1) au (fun j hj=> ?_) (fun j y hy=> ?_)
   ·have dw:o+(j+1)<=hb.e:=by simp[jK]at hj;omega
    exact my c1 (by rw[c2];exact oL (by omega) dw (Nat.lt_succ_self j))
   ·rw[Ka9]at hy
    rw[Kcf]
    exact(c5 i x hx (o+j) y hy).freeze
 | aB β o n=>
  obtain⟨hb,g1,g2,g3⟩:=hr
  have hB:aP β=false:=by
   cases hq:aP β with
   |false=>rfl
   |true=>simp[cN,hq]at hu
  simp only[cN,g1,hB]
  rcases g3 with⟨g3,rfl,rfl,rfl⟩|⟨b,cap,g3,rfl,g5,g6⟩
  ·simp only[Kcr];exact .nt _ _ _ (Kbv _)
  ·have yq:=hl β (by simp[PV.bX])
   have bB:=h.own β hb g1
   have aY:=bB.cL
   rw[g3]at aY
   obtain⟨_,au,cur,eK,c1,c2,c3,c4,c5⟩:=aY
   obtain⟨cur',ty',d1,d2⟩:=g5
   rw[c1]at d1;cases d1
   have ij:o+cap=eK:=by
    rw[c2]at d2
    exact(KbF bB.lg d2).symm
   subst ij
   have hlen:((hb.xs.drop o).take n).length=n:=by simp;omega
   have eL:∀(i:Nat)(x:PV),((hb.xs.drop o).take n)[i]? =some x->i<n/\hb.xs[o+i]? =some x:=fun i x hx=>by
    have hi:i<n:=by have:=(Kae.1 hx).1;omega
    rw[KaM hi,Ka9]at hx
    exact⟨hi,hx⟩
   have:=Qp.sl (w:=w) (X:=aK C ρ (bV hp l)) hb.e ((hb.xs.drop o).take n) b (o*hb.e) cap (fun i j=>cur.getD ((o+i)*hb.e+j) undef) (RD h hB g1 yq g3) au (by omega) (by omega)
    (fun i x hx=>(bB.len _ x (eL i x hx).2).1)
    (fun i hi j hj=>by
     rw[hlen]at hi
     have:=oL (i:=o+i) (e:=hb.e) (o:=0) (j:=j) (n:=hb.e) (cap:=o+cap) (by omega) (by omega) hj
     rw[KaX]at this
     rw[show o*hb.e+i*hb.e+j=(o+i)*hb.e+j by rw[KaJ]]
     exact my c1 (by rw[c2];exact this))
    (fun i x hx j y hy=>(c5 _ x (eL i x hx).2 j y hy).freeze)
   rwa[hlen]at this
 |undef=>simp[cN]at hu
 |rb=>simp[cN]at hu
 |aG=>simp[cN]at hu
 |np=>simp[cN]at hu
 |bm=>simp[cN]at hu
 |aF=>simp[cN]at hu
 |_=>exact Qp.freeze hr
theorem OB{p:PV}(h:p.iX=true):p≠ .undef:=by cases p<;>simp[PV.iX]at h⊢
theorem L1{p:PV}(h:p.aL=true):p≠ .undef:=by cases p<;>simp[PV.aL]at h⊢
theorem rU{tmps:Array Value}(h:Qr C ρ fr hp tmps w){p:PV}{v:Value}{l:List Nat}(hr:Qm C ρ hp w p v)(hl:∀β∈p.refs,β∈l)(hd:(aO hp p).aL=true):bI w (aK C ρ (bV hp l)) (aO hp p) v:=by
 cases p with
 | fn f first cap=>
  obtain⟨fv,cv,rfl,h1,h2,h3,h4⟩:=hr
  simp only[aO,PV.aL,Kar,Kas,Kau,forall_exists_index,and_imp,forall_apply_eq_imp_iff₂]at hd
  refine Qp.fn f _ _ fv cv (by simp[h1]) (by simp[h2]) (fun i x hx=> ?_) (fun i x hx=> ?_)
  ·simp only[Kav,Kaa]at hx
   obtain⟨y,hy,rfl⟩:=hx
   exact Eg h (h3 i y hy) (fun β af=>hl β (HL hy β af)) (OB (hd.1 y (Kaj hy)))
  ·simp only[Kav,Kaa]at hx
   obtain⟨y,hy,rfl⟩:=hx
   exact Eg h (h4 i y hy) (fun β af=>hl β (HU hy β af)) (OB (hd.2 y (Kaj hy)))
 |mp β i o=>exact bI.rN (Eg (p:= .mp β i o) h hr hl (L1 hd))
 |aB β o n=>exact bI.rN (Eg (p:= .aB β o n) h hr hl (L1 hd))
 |undef=>simp[aO,cN,PV.aL]at hd
 |rb=>simp[aO,cN,PV.aL]at hd
 |aG=>simp[aO,cN,PV.aL]at hd
 |np=>simp[aO,cN,PV.aL]at hd
 |bm=>simp[aO,cN,PV.aL]at hd
 |aF=>simp[aO,cN,PV.aL]at hd
 |aI ps=>simp[aO,cN,PV.aL]at hd
 |agg cs=>exact bI.mono (p:= .agg cs) hr (fun _ _ _=>rfl) (fun _ _ hn hx=>hn (Il hx)) (Kaf _)
 |_=>exact Qp.freeze hr
end Go.FW
namespace Go.FW
open Go
variable {C : Ctx} {ρ : Nat -> Option Nat} {fr : Fr} {hp : HP} {w : World} {a : Act} {K : Qh}
theorem uR{x:Option Operand}{y:Option aS}{TS n:Int}(h:Qr C ρ fr hp a.tmps w)(ho:oO x=some y)(hb:iK TS (y.map (ev fr))=some n):
  (x=none/\y=none/\n=TS)∨∃z k,x=some z/\a.eval z= .int k n/\y.isSome=true:=by
 cases x with
 |none=>simp[oO]at ho;subst ho;simp[iK]at hb;exact .inl ⟨rfl,rfl,hb.symm⟩
 | some z=>
  simp only[oO,Kaa]at ho
  obtain⟨u,hu,rfl⟩:=ho
  have hr:=cO h hu
  simp only[Kcd]at hb
  cases hp':ev fr u with
  |int k m=>
   rw[hp']at hb hr
   simp[iK]at hb
   subst hb
   exact .inr ⟨z,k,rfl,hr.lB,rfl⟩
  |_=>rw[hp']at hb;simp[iK]at hb
theorem wI{P:Program}{k:IntKind}{i:Int}{y:Nat}{code:BoundsCode}(h0:0<=i)(h1:i<=y)(w:World):(Instr.sliceBound (.int k i) y code).run P w= .ok i.toNat w:=by
 unfold Instr.sliceBound
 have:0<=i/\i<=y:=⟨h0,h1⟩
 simp only[asIntOf,Kaq,Ka3,Kal,if_pos this]
theorem DU{P:Program}{len cap:Nat}{lo hi mx:Option Operand}{L H M:Int}(eval:Operand->Value)
  (hL:(lo=none/\L=0)∨∃z k,lo=some z/\eval z= .int k L)
  (hH:(hi=none/\H=len)∨∃z k,hi=some z/\eval z= .int k H)
  (hM:(mx=none/\M=len)∨∃z k,mx=some z/\eval z= .int k M) (hm:mx.isSome=true->hi.isSome=true)
  (h0:0<=L) (h1:L<=H) (h2:H<=M) (h3:M<=len) (h4:len<=cap):
  ∃m,L.toNat<=m/\H.toNat<=m/\m<=cap/\(mx=none->m=cap)/\∀w,(Instr.sliceBounds true len cap (lo.map eval) (hi.map eval) (mx.map eval)).run P w= .ok (L.toNat,H.toNat,m) w:=by
 have c1:H<=(cap:Int):=by omega
 rcases hM with⟨rfl,hM⟩|⟨zm,km,rfl,hM⟩
 ·refine⟨cap,by omega,by omega,Kaf _,fun _=>rfl,fun w=> ?_⟩
  rcases hH with⟨rfl,hH⟩|⟨zh,kh,rfl,hH⟩<;>rcases hL with⟨rfl,hL⟩|⟨zl,kl,rfl,hL⟩
  ·subst hH;subst hL
   simp[Instr.sliceBounds,Kaq]
  ·subst hH
   have e:=wI (P:=P) (k:=kl) (code:= .sliceB) (y:=len) h0 h1
   simp[Instr.sliceBounds,Kaq,hL,e]
  ·subst hL
   have e:=wI (P:=P) (k:=kh) (code:= .sliceAcap) (y:=cap) (by omega) c1
   simp[Instr.sliceBounds,Kaq,hH,e]
  ·have e:=wI (P:=P) (k:=kh) (code:= .sliceAcap) (y:=cap) (by omega) c1
   have e2:=wI (P:=P) (k:=kl) (code:= .sliceB) (y:=H.toNat) h0 (by omega)
   simp[Instr.sliceBounds,Kaq,hH,hL,e,e2]
 ·rcases hH with⟨rfl,hH⟩|⟨zh,kh,rfl,hH⟩
  ·simp at hm
  have e:=wI (P:=P) (k:=km) (code:= .slice3Acap) (y:=cap) (i:=M) (by omega) (by omega)
  have e1:=wI (P:=P) (k:=kh) (code:= .slice3B) (y:=M.toNat) (i:=H) (by omega) (by omega)
  refine⟨M.toNat,by omega,by omega,by omega,fun h=>by simp at h,fun w=> ?_⟩
  rcases hL with⟨rfl,hL⟩|⟨zl,kl,rfl,hL⟩
  ·subst hL
   simp[Instr.sliceBounds,Kaq,hH,hM,e,e1]
  ·have e2:=wI (P:=P) (k:=kl) (code:= .slice3C) (y:=H.toNat) (i:=L) h0 (by omega)
   simp[Instr.sliceBounds,Kaq,hH,hM,hL,e,e1,e2]
theorem DG{P:Program}{t e:TypeId}{n len cap l h m:Nat}{ad:Option Addr}{lo hi mx:Option Value}(hu:P.underlying t=some (.slice e))(hn:dW P e=some n)(w:World)
  (hb:(Instr.sliceBounds true len cap lo hi mx).run P w= .ok (l,h,m) w):
  (Instr.sliceAt t (.slice ad len cap) lo hi mx).run P w= .ok (.slice (if m=l then ad else ad.map (·.add (l*n))) (h-l) (m-l)) w:=by
 unfold Instr.sliceAt Instr.slice
 simp only[Kaq,jz hu,Kal,hb,lJ hn,Ka3]
theorem Ra{xs:List PV}{H L i:Nat}{x:PV}(hx:((xs.take H).drop L)[i]? =some x):xs[L+i]? =some x/\L+i<H:=by
 rw[Ka9]at hx
 have hi:L+i<H:=by
  have:=(Kae.1 hx).1
  simp at this;omega
 rw[KaM hi]at hx
 exact⟨hx,hi⟩
theorem Qp.part{X:Nat->Prop}{e:Nat}{xs:List PV}{ad:Option Addr}{cap L H m:Nat}(h:Qp w X (.sl e xs) (.slice ad xs.length cap))(h1:L<=H)(h2:H<=xs.length)(h3:H<=m)(h4:m<=cap):
  Qp w X (.sl e ((xs.take H).drop L)) (.slice (if m=L then ad else ad.map (·.add (L*e))) (H-L) (m-L)):=by
 by_cases he:H=L
 ·subst he
  have:(xs.take H).drop H=[]:=List.drop_eq_nil_of_le (by simp;omega)
  rw[this,KbD]
  refine .nt _ _ _ ?_
  cases h with
  |nt _ _ _ hc=>omega
  |sl _ _ b off _ vs hX hb hl hc=>omega
 ·have hlen:((xs.take H).drop L).length=H-L:=by simp;omega
  cases h with
  |nt=>simp at h2;omega
  | sl _ _ b off _ vs hX hb hl hc he' hv hr=>
   have hm:¬m=L:=by omega
   rw[if_neg hm]
   simp only[Kcd,KbU]
   have:=Qp.sl (w:=w) (X:=X) e ((xs.take H).drop L) b (off+L*e) (m-L) (fun i j=>vs (L+i) j) hX hb (by omega) (by omega)
    (fun i x hx=>he' _ x (Ra hx).1)
    (fun i hi j hj=>by
     have:=hv (L+i) (by omega) j hj
     rw[show off+L*e+i*e+j=off+(L+i)*e+j by rw[KaJ];omega]
     exact this)
    (fun i x hx j y hy=>hr _ x (Ra hx).1 j y hy)
   rwa[hlen]at this
theorem ab8{o:Oper}{t e:TypeId}{n:Nat}{x:Operand}{px:PV}{lo hi mx:Option Operand}{G6 C6 C7:Option aS}{d:Nat}(ho:o.op= .slice t x lo hi mx)(hd:o.dst=some d)(au:d<C.N)(h:Qr C ρ fr hp a.tmps w)
  (hu:C.P.underlying t=some (.slice e)) (hn:dW C.P e=some n) (hx:Qm C ρ hp w px (a.eval x)) (sM:oO lo=some G6) (v9:oO hi=some C6) (xZ:oO mx=some C7)
  (hv:iZ n px (G6.map (ev fr)) (C6.map (ev fr)) (C7.map (ev fr)) d fr hp K):bP C ρ o a w K:=by
 have mj:∀ {x:Option Operand} {y:Option aS},oO x=some y->(x.isSome=true↔y.isSome=true):=by
  intro x y CW
  cases x with
  |none=>simp[oO]at CW;subst CW;simp
  |some z=>simp only[oO,Kaa]at CW;obtain⟨u,_,rfl⟩:=CW;simp
 have common:∀(hp':HP)(xs:List PV)(len cap:Nat)(ad:Option Addr)(L H M:Int),Qr C ρ fr hp' a.tmps w->len=xs.length->a.eval x= .slice ad len cap->len<=cap->
   Qp w (aK C ρ hp') (.sl n xs) (.slice ad xs.length cap)->iK 0 (G6.map (ev fr))=some L->iK len (C6.map (ev fr))=some H->iK len (C7.map (ev fr))=some M->
   0<=L->L<=H->H<=M->M<=len->((C7.map (ev fr)).isSome=true->(C6.map (ev fr)).isSome=true)->K (ae fr d (.sl n ((xs.take H.toNat).drop L.toNat))) hp'->bP C ρ o a w K:=by
  intro hp' xs len cap ad L H M hs hl ex dH hr bL bH bM h0 h1 h2 h3 hm hK
  have e1:=uR h sM bL
  have e2:=uR h v9 bH
  have e3:=uR h xZ bM
  obtain⟨m,q1,q2,q3,_,q4⟩:∃m,L.toNat<=m/\H.toNat<=m/\m<=cap/\(mx=none->m=cap)/\∀w',(Instr.sliceBounds true len cap (lo.map a.eval) (hi.map a.eval) (mx.map a.eval)).run C.P w'= .ok (L.toNat,H.toNat,m) w':=by
   refine DU (P:=C.P) a.eval ?_ ?_ ?_ (fun hq=>(mj v9).2 (by simpa using hm (by simpa using(mj xZ).1 hq))) h0 h1 h2 h3 dH
   ·rcases e1 with⟨q1,_,q3⟩|⟨z,k,q1,q2,_⟩
    ·exact .inl ⟨q1,q3⟩
    ·exact .inr ⟨z,k,q1,q2⟩
   ·rcases e2 with⟨q1,_,q3⟩|⟨z,k,q1,q2,_⟩
    ·exact .inl ⟨q1,q3⟩
    ·exact .inr ⟨z,k,q1,q2⟩
   ·rcases e3 with⟨q1,_,q3⟩|⟨z,k,q1,q2,_⟩
    ·exact .inl ⟨q1,q3⟩
    ·exact .inr ⟨z,k,q1,q2⟩
  have hp:=hr.part (L:=L.toNat) (H:=H.toNat) (m:=m) (by omega) (by omega) q2 q3
  refine⟨_,fun w'=> ?_,ae fr d _,hp',by rw[hd];exact hs.ae (Qm.mu (bI.rN hp)) au,hK⟩
  unfold execOp
  simp only[ho,ex,Kaq,DG hu hn w' (q4 w'),Kal]
  rfl
 unfold iZ at hv
 split at hv
 ·
  split at hv
  ·rename_i L H M bL bH bM
   obtain⟨rfl,rfl,rfl,hm,hK⟩:=hv
   have ex:=hx.yz
   refine bP.mk hd au h (p:= .al) (v:= .slice none 0 0) (fun w'=> ?_) Qp.al hK
   have e1:=uR h sM bL
   have e2:=uR h v9 bH
   have e3:=uR h xZ bM
   obtain⟨m,q1,q2,q3,_,q4⟩:∃m,(0:Int).toNat<=m/\(0:Int).toNat<=m/\m<=0/\(mx=none->m=0)/\∀w',(Instr.sliceBounds true 0 0 (lo.map a.eval) (hi.map a.eval) (mx.map a.eval)).run C.P w'= .ok ((0:Int).toNat,(0:Int).toNat,m) w':=by
    refine DU (P:=C.P) a.eval ?_ ?_ ?_ (fun hq=>(mj v9).2 (by simpa using hm (by simpa using(mj xZ).1 hq))) (Int.le_refl _) (Int.le_refl _) (Int.le_refl _) (by simp) (Kaf _)
    ·rcases e1 with⟨q1,_,q3⟩|⟨z,k,q1,q2,_⟩
     ·exact .inl ⟨q1,q3⟩
     ·exact .inr ⟨z,k,q1,q2⟩
    ·rcases e2 with⟨q1,_,q3⟩|⟨z,k,q1,q2,_⟩
     ·exact .inl ⟨q1,by simp⟩
     ·exact .inr ⟨z,k,q1,q2⟩
    ·rcases e3 with⟨q1,_,q3⟩|⟨z,k,q1,q2,_⟩
     ·exact .inl ⟨q1,by simp⟩
     ·exact .inr ⟨z,k,q1,q2⟩
   obtain rfl:m=0:=by omega
   unfold execOp
   simp only[ho,ex,Kaq,DG hu hn w' (q4 w'),Kal]
   rfl
  ·exact hv.elim
 ·rename_i e' xs
  split at hv
  ·rename_i L H M bL bH bM
   obtain⟨rfl,h0,h1,h2,h3,hm,hK⟩:=hv
   obtain⟨ad,cap,ex,xL,ie⟩:=hx.Wb
   have aV:Qp w (aK C ρ hp) (.sl e' xs) (a.eval x):=hx
   rw[ex]at aV
   exact common hp xs _ cap ad L H M h rfl ex xL aV bL bH bM h0 h1 h2 h3 hm hK
  ·exact hv.elim
 ·rename_i β o' m
  cases C7 with
  |some zm=>revert hv;split<;>simp_all
  |none=>
  split at hv
  ·rename_i L H bL bH bM
   obtain⟨he,h0,h1,h2,h3,hK⟩:=hv
   have m0:mx=none:=by cases mx<;>simp[oO]at xZ⊢
   subst m0
   have e1:=uR h sM bL
   have e2:=uR h v9 bH
   obtain⟨hb,g1,g2,g3⟩:=hx
   rw[g1]at he
   simp only[Kcd,KaC]at he
   have hL:(lo=none/\L=0)∨∃z k,lo=some z/\a.eval z= .int k L:=by
    rcases e1 with⟨q1,_,q3⟩|⟨z,k,q1,q2,_⟩
    ·exact .inl ⟨q1,q3⟩
    ·exact .inr ⟨z,k,q1,q2⟩
   have hH:(hi=none/\H=(m:Int))∨∃z k,hi=some z/\a.eval z= .int k H:=by
    rcases e2 with⟨q1,_,q3⟩|⟨z,k,q1,q2,_⟩
    ·exact .inl ⟨q1,q3⟩
    ·exact .inr ⟨z,k,q1,q2⟩
   rcases g3 with⟨g3,ex,rfl,rfl⟩|⟨b,cap,g3,ex,g5,g6⟩
   ·obtain⟨m',q1,q2,q3,_,q4⟩:=DU (P:=C.P) (len:=0) (cap:=0) (mx:=none) (M:=0) a.eval hL hH (.inl ⟨rfl,rfl⟩) (by simp) h0 h1 h2 (by simp) (Kaf _)
    have hH0:H.toNat=0:=by omega
    have hL0:L.toNat=0:=by omega
    have xX:m'=0:=by omega
    refine bP.mk hd au h (v:= .slice none 0 0) (fun w'=> ?_) ?_ hK
    ·unfold execOp
     simp only[ho,ex,Kaq,DG hu hn w' (q4 w'),Kal]
     simp[hH0,xX,hL0]
    ·exact⟨hb,g1,by omega,.inl ⟨g3,rfl,by omega,by omega⟩⟩
   ·have dH:m<=cap:=by
     have aY:=(h.own β hb g1).cL
     rw[g3]at aY
     obtain⟨_,_,cur,eK,c1,c2,c3,c4,c5⟩:=aY
     obtain⟨cur',ty',d1,d2⟩:=g5
     rw[c1]at d1;cases d1
     rw[c2]at d2
     have:=KbF (h.own β hb g1).lg d2
     omega
    obtain⟨m',q1,q2,q3,q5,q4⟩:=DU (P:=C.P) (len:=m) (cap:=cap) (mx:=none) (M:=(m:Int)) a.eval hL hH (.inl ⟨rfl,rfl⟩) (by simp) h0 h1 h2 (Int.le_refl _) dH
    obtain rfl:=q5 rfl
    refine bP.mk hd au h (v:= .slice (some ⟨b,(o'+L.toNat)*hb.e,none⟩) (H.toNat-L.toNat) (m'-L.toNat)) (fun w'=> ?_) ?_ hK
    ·unfold execOp
     simp only[ho,ex,Kaq,DG hu hn w' (q4 w'),Kal]
     congr 1
     by_cases hz:L=0
     ·subst hz;simp[Addr.add_zero']
     ·rw[if_neg (by omega)]
      simp[KbU,he,KaJ]
    ·exact⟨hb,g1,by omega,.inr ⟨b,m'-L.toNat,g3,rfl,by rw[show o'+L.toNat+(m'-L.toNat)=o'+m' by omega];exact g5,by omega⟩⟩
  ·exact hv.elim
 ·exact hv.elim
end Go.FW
namespace Go.FW
open Go
variable {C : Ctx} {ρ : Nat -> Option Nat} {fr : Fr} {hp : HP} {w : World} {a : Act} {K : Qh}
def qJ(Q:PV->Value->Prop)(ps:List PV)(vs:Array Value):Prop:=vs.size=ps.length/\∀(i:Nat)(x:PV),ps[i]? =some x->Q x (vs.getD i undef)
abbrev Rows(w:World)(X:Nat->Prop)(ps:List PV)(vs:Array Value):Prop:=qJ (Qp w X) ps vs
theorem Nb(off:Nat):∀(l:List Value)(s:Nat)(cs:Array Value),
  ((l.zipIdx s).foldl (fun cs (p:Value×Nat)=>cs.setIfInBounds (off+p.2) p.1) cs).size=cs.size/\
  ∀k,k<cs.size->((l.zipIdx s).foldl (fun cs (p:Value×Nat)=>cs.setIfInBounds (off+p.2) p.1) cs).getD k undef=if off+s<=k/\k<off+s+l.length then l.getD (k-off-s) undef else cs.getD k undef
 | [],s,cs=>by
  refine⟨rfl,fun k hk=> ?_⟩
  simp only[List.zipIdx_nil,List.foldl_nil,Kbn,KaX]
  rw[if_neg (by omega)]
 | c::l,s,cs=>by
  obtain⟨h1,h2⟩:=Nb off l (s+1) (cs.setIfInBounds (off+s) c)
  simp only[List.zipIdx_cons,List.foldl_cons]
  refine⟨by rw[h1];simp,fun k hk=> ?_⟩
  rw[h2 k (by simpa using hk)]
  by_cases hks:k=off+s
  ·subst hks
   rw[if_neg (by omega),if_pos (by simp)]
   simp[Array.getD,hk]
  ·by_cases hr:off+(s+1)<=k/\k<off+(s+1)+l.length
   ·rw[if_pos hr,if_pos (by simp;omega)]
    have:k-off-s=(k-off-(s+1))+1:=by omega
    rw[this];simp
   ·rw[if_neg hr,if_neg (by simp;omega)]
    simp only[KaW]
    rw[Kcv (by omega)]
theorem WQ(cs:Array Value)(v:Array Value)(off:Nat):
  v.zipIdx.foldl (fun cs (x:Value×Nat)=>match x with|(c,j)=>cs.setIfInBounds (off+j) c) cs=(v.toList.zipIdx).foldl (fun cs (p:Value×Nat)=>cs.setIfInBounds (off+p.2) p.1) cs:=by
 rw[<-Array.foldl_toList,Array.toList_zipIdx]
theorem qJ.aoZ{Q:PV->Value->Prop}{ps qs:List PV}{vs us:Array Value}{off:Nat}(h:qJ Q ps vs)(hq:qJ Q qs us)(hle:off+qs.length<=ps.length):
  qJ Q (ps.take off++qs++ps.drop (off+qs.length)) (us.zipIdx.foldl (fun cs (x:Value×Nat)=>match x with|(c,j)=>cs.setIfInBounds (off+j) c) vs):=by
 obtain⟨h1,h2⟩:=h
 obtain⟨q1,q2⟩:=hq
 rw[WQ]
 obtain⟨f1,f2⟩:=Nb off us.toList 0 vs
 refine⟨by rw[f1,h1];simp;omega,fun i x hx=> ?_⟩
 have hi:i<ps.length:=by have:=(Kae.1 hx).1;simp at this;omega
 rw[f2 i (by omega)]
 simp only[KaX,Array.length_toList,Kcm]
 rw[Kbs,KaZ]at hx
 by_cases c1:i<off
 ·rw[if_neg (by omega)]
  rw[if_pos (by simp;omega),KaM c1]at hx
  exact h2 i x hx
 ·rw[if_neg (by simp;omega)]at hx
  have ht:(ps.take off).length=off:=by simp;omega
  rw[ht,KaZ]at hx
  by_cases c2:i-off<qs.length
  ·rw[if_pos c2]at hx
   rw[if_pos (by omega)]
   have:=q2 _ _ hx
   rwa[show us.toList.getD (i-off) undef=us.getD (i-off) undef by simp[KaW]]
  ·rw[if_neg c2,Ka9]at hx
   rw[if_neg (by omega)]
   rw[show off+qs.length+(i-off-qs.length)=i by omega]at hx
   exact h2 i x hx
theorem DV{Q:PV->Value->Prop}(place:Nat->Option (Nat×Nat)):∀(parts:List (Nat×Value))(qs:List (Nat×List PV))(ps:List PV)(vs:Array Value),qJ Q ps vs->parts.length=qs.length->
  (∀(i:Nat)(p:Nat×Value)(q:Nat×List PV),parts[i]? =some p->qs[i]? =some q->place p.1=some (q.1,q.2.length)/\qJ Q q.2 p.2.cells/\q.1+q.2.length<=ps.length)->
  ∃eF,Instr.fill place vs parts=some eF/\qJ Q (iP ps qs) eF
 | [],[],ps,vs,h,_,_=>⟨vs,rfl,h⟩
 | [],q::qs,_,_,_,hl,_=>by simp at hl
 |p::parts,[],_,_,_,hl,_=>by simp at hl
 | (i,v)::parts,(off,xs)::qs,ps,vs,h,hl,hp=>by
  obtain⟨h1,h2,h3⟩:=hp 0 (i,v) (off,xs) rfl rfl
  have dV:v.cells.size=xs.length:=h2.1
  have hn:¬((v.cells.size≠xs.length||decide (off+v.cells.size>vs.size))=true):=by
   have:=h.1
   simp only[Kci,decide_eq_true_eq,not_or]
   exact⟨by simp[dV],by rw[dV,this];simp only at h3;omega⟩
  have hlen:(ps.take off++xs++ps.drop (off+xs.length)).length=ps.length:=by simp;simp only at h3;omega
  obtain⟨eF,g1,g2⟩:=DV place parts qs _ _ (h.aoZ h2 h3) (by simpa using hl) (fun j p q yb hqj=>by
   obtain⟨k1,k2,k3⟩:=hp (j+1) p q (by simpa using yb) (by simpa using hqj)
   exact⟨k1,k2,by rw[hlen];exact k3⟩)
  refine⟨eF,?_,g2⟩
  unfold Instr.fill
  simp only[h1]
  rw[if_neg hn]
  exact g1
theorem bI.rows{X:Nat->Prop}{p:PV}{v:Value}(h:bI w X p v):Rows w X p.cells v.cells:=h.cells
theorem tA{P:Program}{t:TypeId}{n by_:Nat}{z:PV}(h:kn P t=some (n,by_,z)):∃(i:TypeInfo)(zv:Value),P.info? t=some i/\i.zero=some zv/\i.size=n/\i.bytes=by_/\tz zv=some z:=by
 simp only[kn,Kab,Kaa,Prod.mk.injEq]at h
 obtain⟨i,h1,zv,h2,p,h3,h4,h5,h6⟩:=h
 subst h6
 exact⟨i,zv,h1,h2,h4,h5,h3⟩
theorem wJ{P:Program}{t:TypeId}{i:TypeInfo}{zv:Value}(h1:P.info? t=some i)(h2:i.zero=some zv)(w:World):(zeroValue t).run P w= .ok zv w:=by
 simp[zeroValue,typeInfo,h1,h2]
theorem L3{parts:List (Nat×Operand)}{ps:List (Nat×Nat×aS)}{f:Nat×Operand->Option (Nat×Nat×aS)}(h:parts.mapM f=some ps){eval:Operand->Value}{i:Nat}{p:Nat×Value}{q:Nat×Nat×aS}
  (h1:(parts.map fun x=>(x.1,eval x.2))[i]? =some p) (h2:ps[i]? =some q):∃x,parts[i]? =some x/\f x=some q/\p=(x.1,eval x.2):=by
 obtain⟨x,hx,hf⟩:=(oE h).2 i q h2
 refine⟨x,hx,hf,?_⟩
 simp only[Kav,hx,Kcd,KaC]at h1
 exact h1.symm
theorem aaq{o:Oper}{t:TypeId}{parts:Array (Nat×Operand)}{z:PV}{n by_:Nat}{ps:List (Nat×Nat×aS)}{d:Nat}(ho:o.op= .build t parts)(hd:o.dst=some d)(au:d<C.N)(h:Qr C ρ fr hp a.tmps w)
  (hz:kn C.P t=some (n,by_,z)) (eO:BI C.P t parts.toList=some ps)
  (hv:Dh z.cells (ps.map fun p=>(p.1,p.2.1,ev fr p.2.2)) d fr hp K):bP C ρ o a w K:=by
 obtain⟨cb,hK⟩:=hv
 obtain⟨ti,zv,i1,i2,i3,i4,i5⟩:=tA hz
 have Lu:Rows w (aK C ρ (bV hp ((ps.map fun p=>(p.1,p.2.1,ev fr p.2.2)).flatMap fun p=>p.2.2.refs))) z.cells zv.cells:=(tk i5).rows
 have kE:(parts.map fun(x:Nat×Operand)=>(x.1,a.eval x.2)).toList=parts.toList.map fun x=>(x.1,a.eval x.2):=by simp
 have key:∀(f:Nat×Operand->Option (Nat×Nat×aS))(place:Nat->Option (Nat×Nat)),parts.toList.mapM f=some ps->(∀x q,f x=some q->place x.1=some (q.1,q.2.1)/\b5 x.2=some q.2.2)->
   ∃eF,Instr.fill place zv.cells (parts.map fun(x:Nat×Operand)=>(x.1,a.eval x.2)).toList=some eF/\
    Rows w (aK C ρ (bV hp ((ps.map fun p=>(p.1,p.2.1,ev fr p.2.2)).flatMap fun p=>p.2.2.refs))) (iP z.cells ((ps.map fun p=>(p.1,p.2.1,ev fr p.2.2)).map fun p=>(p.1,(aO hp p.2.2).cells))) eF:=by
  intro f place hm hf
  rw[kE]
  refine DV place _ _ _ _ Lu (by simp[(oE hm).1]) (fun i p q sP wm=> ?_)
  simp only[KbE,Kav,Kaa]at wm
  obtain⟨q0,gu,rfl⟩:=wm
  obtain⟨x,hx,pj,rfl⟩:=L3 hm sP gu
  obtain⟨f1,f2⟩:=hf x q0 pj
  obtain⟨o1,o2,o3⟩:=cb (q0.1,q0.2.1,ev fr q0.2.2) (Kau.2 ⟨q0,Kaj gu,rfl⟩)
  simp only[Function.comp]at o1 o2 o3⊢
  refine⟨by rw[o2];exact f1,?_,by rw[o2];exact o3⟩
  exact(rU h (cO h f2) (fun β af=>Kat.2 ⟨_,Kau.2 ⟨q0,Kaj gu,rfl⟩,af⟩) o1).rows
 have fin:∀eF,(∀w',(Instr.build t (parts.map fun(x:Nat×Operand)=>(x.1,a.eval x.2))).run C.P w'= .ok (.agg eF) w')->
   Rows w (aK C ρ (bV hp ((ps.map fun p=>(p.1,p.2.1,ev fr p.2.2)).flatMap fun p=>p.2.2.refs))) (iP z.cells ((ps.map fun p=>(p.1,p.2.1,ev fr p.2.2)).map fun p=>(p.1,(aO hp p.2.2).cells))) eF->bP C ρ o a w K:=by
  intro eF cm hr
  refine⟨.agg eF,fun w'=> ?_,_,_,by rw[hd];exact(h.freeze _).ae (p:= .agg _) ⟨eF,rfl,hr.1,hr.2⟩ au,hK⟩
  unfold execOp
  simp only[ho,Kaq]
  have:=cm w'
  rw[show(parts.map fun(x:Nat×Operand)=>(x.1,a.eval x.2))=(parts.map fun x=>match x with|(i,x)=>(i,a.eval x))from rfl]at this
  rw[this]
  rfl
 unfold BI at eO
 split at eO
 ·rename_i fs hu
  simp only[Kab]at eO
  obtain⟨pl,bx,hm⟩:=eO
  obtain⟨eF,g1,g2⟩:=key _ (fun i=>pl[i]?) hm (fun x q hq=>by
   simp only[Kab,Kaa]at hq
   obtain⟨r,hr,y,hy,rfl⟩:=hq
   exact⟨by simpa using hr,hy⟩)
  refine fin eF (fun w'=> ?_) g2
  unfold Instr.build
  have ka:=run_places (P:=C.P) w' fs.toList pl bx
  simp[Kaq,wJ i1 i2,jz hu,KbW,ka]at g1⊢
  simp[g1]
 ·rename_i len e hu
  simp only[Kab]at eO
  obtain⟨m,xX,hm⟩:=eO
  obtain⟨eF,g1,g2⟩:=key _ (fun i=>some (i*m,m)) hm (fun x q hq=>by
   simp only[Kaa]at hq
   obtain⟨y,hy,rfl⟩:=hq
   exact⟨rfl,hy⟩)
  refine fin eF (fun w'=> ?_) g2
  unfold Instr.build
  simp only[Kaq,wJ i1 i2,jz hu,lJ xX,Kal,g1,Ka3]
 ·simp at eO
theorem Jf{xs:List Operand}{ys:List aS}(h:Qr C ρ fr hp a.tmps w)(hm:xs.mapM b5=some ys):(ys.map (ev fr)).length=xs.length/\∀(i:Nat)(x:PV),(ys.map (ev fr))[i]? =some x->Qm C ρ hp w x ((xs.map a.eval).toArray.getD i undef):=by
 obtain⟨h1,h2⟩:=oE hm
 refine⟨by simp[h1],fun i x hx=> ?_⟩
 simp only[Kav,Kaa]at hx
 obtain⟨y,hy,rfl⟩:=hx
 obtain⟨z,hz,ho⟩:=h2 i y hy
 have e:((xs.map a.eval).toArray.getD i undef)=a.eval z:=by
  simp[KaW,Kav,hz]
 rw[e]
 exact cO h ho
theorem Qm.Wc{p:PV}{v:Value}(h:Qm C ρ hp w p v)(hc:p.lC=true):cK C ρ hp w p v:=by
 cases p<;>first|exact h|simp[PV.lC]at hc
theorem ab9{o:Oper}{f:FuncId}{first cap:Array Operand}{pf pc:List aS}{d:Nat}(ho:o.op= .makeFunc (.func f) first cap)(hd:o.dst=some d)(au:d<C.N)(h:Qr C ρ fr hp a.tmps w)
  (h1:first.toList.mapM b5=some pf) (h2:cap.toList.mapM b5=some pc)
  (hv:(pf.map (ev fr)++pc.map (ev fr)).all PV.lC=true/\K (ae fr d (.fn f (pf.map (ev fr)) (pc.map (ev fr)))) hp):bP C ρ o a w K:=by
 obtain⟨hc,hK⟩:=hv
 rw[Kas]at hc
 obtain⟨f1,f2⟩:=Jf h h1
 obtain⟨c1,c2⟩:=Jf h h2
 refine bP.mk hd au h (v:= .func (.func f) (first.map a.eval) (cap.map a.eval)) (fun w'=> ?_) ?_ hK
 ·unfold execOp
  simp only[ho,Kaq,Instr.makeFunc,Ka3,Kal]
 ·refine⟨_,_,rfl,by simpa using f1.symm,by simpa using c1.symm,fun i x hx=> ?_,fun i x hx=> ?_⟩
  ·have:=f2 i x hx
   rw[show(first.toList.map a.eval).toArray=first.map a.eval from Array.ext' (by simp)]at this
   exact this.Wc (hc x (Kct _ (Kaj hx)))
  ·have:=c2 i x hx
   rw[show(cap.toList.map a.eval).toArray=cap.map a.eval from Array.ext' (by simp)]at this
   exact this.Wc (hc x (Kb0 _ (Kaj hx)))
theorem Zp{o:Oper}{x:Operand}{px:PV}(ho:o.op= .nilCheck x)(au:∀d,o.dst=some d->d<C.N)(h:Qr C ρ fr hp a.tmps w)
  (hx:Qm C ρ hp w px (a.eval x)) (hv:BQ px o.dst fr hp K):bP C ρ o a w K:=by
 have key:(∃b o',a.eval x= .pointer (some ⟨b,o',none⟩))∨(∃f fv cv,a.eval x= .func (.func f) fv cv)->(∀d,o.dst=some d->K (ae fr d px) hp)->(o.dst=none->K fr hp)->bP C ρ o a w K:=by
  intro CR k1 k2
  have cm:∀w',(execOp a.eval o).run C.P w'= .ok (.value (a.eval x)) w':=by
   intro w'
   unfold execOp
   rcases CR with⟨b,o',e⟩|⟨f,fv,cv,e⟩<;>simp only[ho,e]<;>rfl
  cases hd:o.dst with
  |some d=>exact⟨_,cm,_,_,by rw[hd];exact h.ae hx (au d hd),k1 d hd⟩
  |none=>exact⟨_,cm,fr,hp,by rw[hd];exact h,k2 hd⟩
 cases px with
 |mp β i o'=>
  obtain⟨b,hb,_,_,e⟩:=hx.Ap
  refine key (.inl ⟨_,_,e⟩) (fun d hd=> ?_) (fun hd=> ?_)<;>(rw[hd]at hv;exact hv)
 |pt cs=>
  obtain⟨b,off,e,_⟩:=hx.G7
  refine key (.inl ⟨_,_,e⟩) (fun d hd=> ?_) (fun hd=> ?_)<;>(rw[hd]at hv;exact hv)
 |fn f first cap=>
  obtain⟨fv,cv,e,_⟩:=hx
  refine key (.inr ⟨_,_,_,e⟩) (fun d hd=> ?_) (fun hd=> ?_)<;>(rw[hd]at hv;exact hv)
 |_=>exact hv.elim
end Go.FW
namespace Go.FW
open Go
variable {C : Ctx} {ρ : Nat -> Option Nat} {fr : Fr} {hp : HP} {w : World} {a : Act} {K : Qh}
def cU(C:Ctx)(two:Bool)(w:World)(K:Qh)(a':Act)(w':World):Prop:=
 a'.defers=[]/\(∃aC hp',eu C aC hp' a'.tmps w'/\K aC hp')/\(two=true->Ext dL w w')
theorem kf{P:Program}{o:Oper}{v:Value}{w w':World}{a:Act}{K':Act->World->Prop}{Q:Exit->Act->World->Prop}(hr:(execOp a.eval o).run P w= .ok (.value v) w')(hK:K' (a.put o.dst v) w'):o.wp P a w K' Q:=by
 unfold Oper.wp
 rw[hr]
 exact hK
theorem wM{a:Act}{d:Option Nat}{v:Value}:(a.put d v).defers=a.defers:=by cases d<;>rfl
theorem RE(w:World)(o:Obj)(k:Nat)(h:k<w.heap.size):(w.alloc o).heap[k]? =w.heap[k]? :=by
 show(w.heap.push o)[k]? =_
 rw[Array.getElem?_push,if_neg (by omega)]
theorem oy(w:World)(o:Obj):(w.alloc o).heap[w.heap.size]? =some o:=by
 show(w.heap.push o)[w.heap.size]? =_
 simp
theorem H9(w:World)(o:Obj):(w.alloc o).heap.size=w.heap.size+1:=by
 show(w.heap.push o).size=_
 simp
theorem Ext.alloc(w:World)(o:Obj)(Y:Nat->Prop):Ext Y w (w.alloc o):=⟨rfl,rfl,rfl,by rw[H9];omega,fun b hb _=>RE w o b hb⟩
theorem Ext.drew(w:World)(Y:Nat->Prop):Ext Y w w.drew:=⟨rfl,rfl,rfl,Kaf _,fun _ _ _=>rfl⟩
theorem zJ{d:Nat}(h:d<C.N):bE d=false:=by have:=C.hN;simp[bE];omega
theorem Qr.Aq{tmps:Array Value}{aC:Fr}(h:Qr C ρ fr hp tmps w)(d:Nat)(hB:aP d=false)(rm:zI C ρ hp w d fr aC)(aw:HB)(cur:Array Value)(cap:Nat)(w':World)(hw:w'=w.alloc (.cells cur aw.ty)∨w'=w.drew.alloc (.cells cur aw.ty))
  (hs:cur.size=cap*aw.e) (hle:aw.xs.length<=cap) (hm:cap<=maxLen) (he:0<aw.e) (hl:∀(i:Nat)(x:PV),aw.xs[i]? =some x->x.cells.length=aw.e/\x.aL=true)
  (hc:∀(i:Nat)(x:PV),aw.xs[i]? =some x->∀(j:Nat)(y:PV),x.cells[j]? =some y->Qp w (aK C ρ hp) y (cur.getD (i*aw.e+j) undef)):
  Qr C (rb ρ d (some w.heap.size)) aC (Qi hp d aw) tmps w'/\Ext dL w w':=by
 have jZ:∀Y,Ext Y w w':=fun Y=>by
  rcases hw with rfl|rfl
  ·exact Ext.alloc w _ Y
  ·exact(Ext.drew w Y).trans (Ext.alloc w.drew _ Y)
 have dV:w'.heap.size=w.heap.size+1:=by rcases hw with rfl|rfl<;>rw[H9]<;>rfl
 have aqM:w'.heap[w.heap.size]? =some (.cells cur aw.ty (0,0)):=by
  rcases hw with rfl|rfl
  ·exact oy w _
  ·exact oy w.drew _
 refine⟨h.At d (some w.heap.size) aw hB rm (jZ _) (fun c dS=> ?_) he hl (by simp) (fun c dS=> ?_),jZ _⟩
 ·cases dS;exact⟨.inl h.ext.size,by omega,.inl (Kaf _)⟩
 ·cases dS;exact⟨cur,cap,aqM,hs,hle,hm,hc⟩
theorem Qr.G3{tmps:Array Value}(h:Qr C ρ fr hp tmps w)(d:Nat)(hB:bE d=false)(aw:HB)(cur:Array Value)(cap:Nat)(w':World)(hw:w'=w.alloc (.cells cur aw.ty)∨w'=w.drew.alloc (.cells cur aw.ty))
  (hs:cur.size=cap*aw.e) (hle:aw.xs.length<=cap) (hm:cap<=maxLen) (he:0<aw.e) (hl:∀(i:Nat)(x:PV),aw.xs[i]? =some x->x.cells.length=aw.e/\x.aL=true)
  (hc:∀(i:Nat)(x:PV),aw.xs[i]? =some x->∀(j:Nat)(y:PV),x.cells[j]? =some y->Qp w (aK C ρ hp) y (cur.getD (i*aw.e+j) undef)):
  Qr C (rb ρ d (some w.heap.size)) (cx d fr) (Qi hp d aw) tmps w'/\Ext dL w w':=
 h.Aq d (zu hB) (Ef hB) aw cur cap w' hw hs hle hm he hl hc
theorem oF:maxLen=9223372036854775807:=rfl
theorem cU.mq{two:Bool}{o:Oper}{d:Nat}{v:Value}{p:PV}{w':World}{aC:Fr}{hp':HP}{ρ':Nat->Option Nat}(hd:o.dst=some d)(au:d<C.N)(bk:a.defers=[])
  (h:Qr C ρ' aC hp' a.tmps w') (hx:two=true->Ext dL w w') (hv:Qm C ρ' hp' w' p v) (hK:K (ae aC d p) hp'):cU C two w K (a.put o.dst v) w':=by
 refine⟨by rw[wM];exact bk,⟨_,hp',⟨ρ',?_⟩,hK⟩,hx⟩
 rw[hd]
 exact h.ae hv au
theorem bI.V'{X:Nat->Prop}{p:PV}{v:Value}{n:Nat}(h:bI w X p v)(hn:p.cells.length=n):v.cells.size=1*n/\∀(i:Nat)(x:PV),[p][i]? =some x->∀(j:Nat)(y:PV),x.cells[j]? =some y->Qp w X y (v.cells.getD (i*n+j) undef):=by
 obtain⟨h1,h2⟩:=h.cells
 refine⟨by omega,fun i x hx j y hy=> ?_⟩
 match i,hx with
 |0,hx=>simp at hx;subst hx;simpa using h2 j y hy
 |i+1,hx=>simp at hx
theorem QM{d n ty:Nat}{x:PV}{w':World}:Qm C (rb ρ d (some w.heap.size)) (Qi hp d ⟨n,ty,[x],false⟩) w' (.mp d 0 0) (.pointer (some ⟨w.heap.size,0,none⟩)):=by
 refine⟨w.heap.size,⟨n,ty,[x],false⟩,ja _ _ _,by simp[Qi],by simp⟩
theorem aar{o:Oper}{t:TypeId}{n:Nat}{x:Operand}{px:PV}{d:Nat}{Q:Exit->Act->World->Prop}(ho:o.op= .box t x)(hd:o.dst=some d)(au:d<C.N)(bk:a.defers=[])(h:Qr C ρ fr hp a.tmps w)
  (hx:Qm C ρ hp w px (a.eval x)) (hv:iB n t px d fr hp K):o.wp C.P a w (cU C true w K) Q:=by
 unfold iB at hv
 split at hv
 ·rename_i β o' m hm
  have yc:px= .aB β o' m:=by
   cases px with
   |aB wG o2 m2=>
    simp only at hm
    split at hm
    ·cases hm;rfl
    ·cases hm
   |_=>cases hm
  subst yc
  have hs:=h.grow (w':=w.alloc (.cells (a.eval x).cells t)) (Ext.alloc w _ _)
  have aV:eH ρ hp (w.alloc (.cells (a.eval x).cells t)) β o' m (a.eval x):=eH.move hx ⟨rfl,fun hb af=>⟨hb,af,rfl,Kaf _,fun b cap _ hc=>mA (RE w _ b (mC hc)) hc⟩⟩
  have xL:(a.eval x).cells= #[a.eval x]:=by
   obtain⟨ad,cap,e⟩:=Qm.Ly hx
   rw[e];rfl
  refine kf (v:= .pointer (some ⟨w.heap.size,0,none⟩)) (w':=w.alloc (.cells (a.eval x).cells t)) ?_ (cU.mq (p:= .rb β o' m) hd au bk hs (fun _=>Ext.alloc w _ _) ⟨w.heap.size,a.eval x,rfl,by rw[H9];omega,?_,?_,aV⟩ hv)
  ·unfold execOp
   simp only[ho,Instr.box,newVar,newRow]
   simp
  ·rintro(hq|⟨γ,hg,g1,_,g3⟩)
   ·have:=C.Cp _ hq
    have:=h.ext.size
    omega
   ·have:=(h.own γ hg g1).cL
    rw[g3]at this
    have:=this.2.1
    omega
  ·have:=oy w (.cells (a.eval x).cells t)
   rw[my this (by rw[xL];simp),xL]
   rfl
 obtain⟨h1,h2,h3,hK⟩:=hv
 have hr:=rU h hx (fun β af=>af) h1
 obtain⟨r1,r2⟩:=hr.V' h2
 obtain⟨hs,he⟩:=(h.freeze px.refs).G3 d (zJ au) ⟨n,t,[aO hp px],false⟩ (a.eval x).cells 1 _ (.inl rfl) r1 (by simp) (by rw[oF];omega) h3
  (fun i y hy=>by
   match i,hy with
   |0,hy=>simp at hy;subst hy;exact⟨h2,h1⟩
   |i+1,hy=>simp at hy) r2
 refine kf (v:= .pointer (some ⟨w.heap.size,0,none⟩)) (w':=w.alloc (.cells (a.eval x).cells t)) ?_ (cU.mq hd au bk hs (fun _=>he) QM hK)
 unfold execOp
 simp only[ho,Instr.box,newVar,newRow]
 simp
theorem Xc{o:Oper}{t:TypeId}{n:Nat}{ti:TypeInfo}{zv:Value}{z:PV}{d:Nat}{Q:Exit->Act->World->Prop}(ho:o.op= .alloc t)(hd:o.dst=some d)(au:d<C.N)(bk:a.defers=[])(h:Qr C ρ fr hp a.tmps w)
  (i1:C.P.info? t=some ti) (i2:ti.zero=some zv) (hz:tz zv=some z) (hv:iB n t z d fr hp K):o.wp C.P a w (cU C true w K) Q:=by
 unfold iB at hv
 split at hv
 ·rename_i β o' m hm
  have hd:=(HV hz).1
  cases z with
  |aB=>simp[PV.aL]at hd
  |_=>cases hm
 obtain⟨h1,h2,h3,hK⟩:=hv
 have hr:=rU (C:=C) (ρ:=ρ) (hp:=hp) h (Qm.mu (tk (w:=w) hz)) (fun β af=>af) h1
 obtain⟨r1,r2⟩:=hr.V' h2
 obtain⟨hs,he⟩:=(h.freeze z.refs).G3 d (zJ au) ⟨n,t,[aO hp z],false⟩ zv.cells 1 _ (.inl rfl) r1 (by simp) (by rw[oF];omega) h3
  (fun i y hy=>by
   match i,hy with
   |0,hy=>simp at hy;subst hy;exact⟨h2,h1⟩
   |i+1,hy=>simp at hy) r2
 refine kf (v:= .pointer (some ⟨w.heap.size,0,none⟩)) (w':=w.alloc (.cells zv.cells t)) ?_ (cU.mq hd au bk hs (fun _=>he) QM hK)
 unfold execOp
 simp only[ho,Instr.alloc,Kaq,wJ i1 i2,Kal,newVar,newRow]
 simp
theorem Nc{i e j:Nat}(hj:j<e):(i*e+j)%e=j:=by
 rw[KbO,KcU,KaO hj]
theorem aca{i e j:Nat}(hj:j<e):(i*e+j)/e=i:=by
 rw[KbO,Kcn _ _ (by omega),KbY hj,Kbb]
theorem Qza{z:Array Value}{n k:Nat}(hk:k<n)(hz:0<z.size):(madeCells z n).getD k undef=z.getD (k%z.size) undef:=by
 have h1:k%z.size<z.size:=Kbt _ hz
 simp[madeCells,Array.getD,hk,h1]
theorem QN{d:Nat}{hb:HB}{n cap:Nat}{w':World}{cur:Array Value}(hle:n<=hb.xs.length)(apI:w'.heap[w.heap.size]? =some (.cells cur hb.ty (0,0)))(hs:cur.size=cap*hb.e)(hm:cap<=maxLen):
  Qm C (rb ρ d (some w.heap.size)) (Qi hp d hb) w' (.ms d n) (.slice (some ⟨w.heap.size,0,none⟩) n cap):=
 ⟨hb,by simp[Qi],by omega,.inr ⟨w.heap.size,cap,ja _ _ _,by simp,⟨cur,hb.ty,apI,by rw[Kbb];exact hs⟩,by omega⟩⟩
theorem acb{o:Oper}{t e:TypeId}{n by_:Nat}{z:PV}{l c:Operand}{pl pc:PV}{d:Nat}{Q:Exit->Act->World->Prop}(ho:o.op= .makeSlice t l c)(hd:o.dst=some d)(au:d<C.N)(bk:a.defers=[])(h:Qr C ρ fr hp a.tmps w)
  (hu:C.P.underlying t=some (.slice e)) (hz:kn C.P e=some (n,by_,z)) (hl:Qm C ρ hp w pl (a.eval l)) (hc:Qm C ρ hp w pc (a.eval c)) (hv:ot n by_ e z pl pc d fr hp K):o.wp C.P a w (cU C true w K) Q:=by
 unfold ot at hv
 split at hv
 ·rename_i kl L kc Cc
  obtain⟨h0,h1,h2,h3,h4,h5,hK⟩:=hv
  obtain⟨ti,zv,i1,i2,i3,i4,i5⟩:=tA hz
  have el:=hl.lB
  have ec:=hc.lB
  have fU:=(tk (w:=w) (X:=aK C ρ hp) i5).cells
  have uD:zv.cells.size=n:=by rw[fU.1];exact h1
  have cm:=run_make (P:=C.P) w t e ti zv hu i1 i2 kl kc L Cc h2 h3 (by rw[i4];exact h4) h5
  rw[i3]at cm
  obtain⟨hs,he⟩:=h.G3 d (zJ au) ⟨n,e,List.replicate L.toNat z,false⟩ (madeCells zv.cells (Cc.toNat*n)) Cc.toNat _ (.inl rfl) (size_madeCells _ _) (by simp;omega) (by rw[oF];omega) h0
   (fun i x hx=>by
    have aV:=Kaj hx
    obtain rfl:=(Kc0.1 aV).2
    exact⟨h1,(HV i5).1⟩)
   (fun i x hx j y hy=>by
    have hi:i<L.toNat:=by have:=(Kae.1 hx).1;simpa using this
    obtain rfl:=(Kc0.1 (Kaj hx)).2
    have hj:j<n:=by have:=(Kae.1 hy).1;omega
    have xW:i*n+0+j<Cc.toNat*n:=oL (by omega) (by omega:0+n<=n) hj
    rw[Qza (by omega) (by omega),uD,Nc hj]
    exact fU.2 j y hy)
  refine kf (v:= .slice (some ⟨w.heap.size,0,none⟩) L.toNat Cc.toNat) ?_ (cU.mq hd au bk hs (fun _=>he) (QN (by simp) (oy w _) (size_madeCells _ _) (by rw[oF];omega)) hK)
  unfold execOp
  simp only[ho,el,ec,Kaq,cm,Kal]
  rfl
 ·exact hv.elim
end Go.FW
namespace Go.FW
open Go
variable {C : Ctx} {ρ : Nat -> Option Nat} {fr : Fr} {hp : HP} {w : World} {a : Act} {K : Qh}
theorem Si(n:Nat):∀(xs:List (List PV))(s:Nat)(pre rest:List PV),(∀x∈xs,x.length=n)->pre.length=s*n->rest.length=xs.length*n->
  iP (pre++rest) ((xs.zipIdx s).map fun p=>(p.2*n,p.1))=pre++xs.flatten
 | [],s,pre,rest,_,_,hr=>by
  simp at hr;subst hr
  simp[iP]
 | x::xs,s,pre,rest,hx,hp,hr=>by
  have GS:=hx x (by simp)
  simp only[List.zipIdx_cons,Kbd,iP]
  have e1:(pre++rest).take (s*n)=pre:=by rw[<-hp];exact List.take_left
  have e2:(pre++rest).drop (s*n+x.length)=rest.drop n:=by
   rw[GS,<-hp,<-List.drop_drop,List.drop_left]
  rw[e1,e2]
  have hlen:(pre++x).length=(s+1)*n:=by simp[hp,GS,KaJ]
  have yd:(rest.drop n).length=xs.length*n:=by simp[hr,KaJ]
  rw[Si n xs (s+1) (pre++x) (rest.drop n) (fun y hy=>hx y (by simp[hy])) hlen yd]
  simp
theorem yU{n:Nat}(hn:0<n):∀(xs:List (List PV))(i j:Nat)(x:List PV)(y:PV),(∀x∈xs,x.length=n)->xs[i]? =some x->x[j]? =some y->xs.flatten[i*n+j]? =some y
 | [],i,j,x,y,_,h,_=>by simp at h
 |z::xs,0,j,x,y,hl,h,hy=>by
  simp at h;subst h
  have hj:j<z.length:=(Kae.1 hy).1
  simp only[List.flatten_cons,KcA,Kbb]
  rw[Kby hj];exact hy
 |z::xs,i+1,j,x,y,hl,h,hy=>by
  simp at h
  have hz:=hl z (by simp)
  simp only[List.flatten_cons]
  rw[KbS (by rw[hz,KaJ];omega)]
  rw[show(i+1)*n+j-z.length=i*n+j by rw[hz,KaJ];omega]
  exact yU hn xs i j x y (fun q hq=>hl q (by simp[hq])) h hy
theorem Wp{parts:List (Nat×Operand)}{len i:Nat}{p:Nat×Operand}(h:parts.map (·.1)=List.range len)(hp:parts[i]? =some p):p.1=i:=by
 have h1:(parts.map (·.1))[i]? =some p.1:=by simp[hp]
 rw[h]at h1
 have hi:i<len:=by have:=(Kae.1 h1).1;simpa using this
 rw[Kb8 hi]at h1
 simp at h1;exact h1.symm
theorem aas{X:Nat->Prop}{e:TypeId}{n N by_:Nat}{z:PV}{zv:Value}(i5:tz zv=some z)(hz:z.cells.length=n)(hn:0<n):
  Rows w X ((List.range N).map fun k=>z.cells.getD (k%n) .undef) ((Array.range N).map (zv.cells[· %zv.cells.size]!)):=by
 have fU:=(tk (w:=w) (X:=X) i5).cells
 refine⟨by simp,fun i x hx=> ?_⟩
 have hi:i<N:=by have:=(Kae.1 hx).1;simpa using this
 simp only[Kav,Kb8 hi,Kcd,KaC]at hx
 have hm:i%n<z.cells.length:=by rw[hz];exact Kbt _ hn
 have aV:z.cells[i%n]? =some x:=by rw[<-hx];simp[hm]
 have:=fU.2 _ x aV
 have hs:zv.cells.size=n:=by rw[fU.1];exact hz
 have nh:i%n<zv.cells.size:=by omega
 have e2:((Array.range N).map (zv.cells[· %zv.cells.size]!)).getD i undef=zv.cells.getD (i%n) undef:=by
  have hmn:i%n<n:=Kbt _ hn
  simp[Array.getD,hi,hs,hmn,getElem!_def,KbJ nh]
 rw[e2];exact this
theorem acd{o:Oper}{t e:TypeId}{len n by_:Nat}{z:PV}{parts:Array (Nat×Operand)}{ps:List aS}{d:Nat}{Q:Exit->Act->World->Prop}(ho:o.op= .buildSlice t len parts)(hd:o.dst=some d)(au:d<C.N)(bk:a.defers=[])(h:Qr C ρ fr hp a.tmps w)
  (hu:C.P.underlying t=some (.slice e)) (hz:kn C.P e=some (n,by_,z)) (uv:parts.toList.map (·.1)=List.range len) (Vv:len*n<=16777216) (kK:z.cells.length=n) (eO:(parts.toList.mapM fun p=>b5 p.2)=some ps)
  (hv:B3 n e (ps.map (ev fr)) d fr hp K):o.wp C.P a w (cU C true w K) Q:=by
 obtain⟨h0,cb,hK⟩:=hv
 obtain⟨ti,zv,i1,i2,i3,i4,i5⟩:=tA hz
 obtain⟨m1,m2⟩:=oE eO
 have hlen:parts.toList.length=len:=by have:=congrArg List.length uv;simpa using this
 have bx:ps.length=len:=by omega
 let xs:List (List PV):=(ps.map (ev fr)).map fun p=>(aO hp p).cells
 have dN:∀x∈xs,x.length=n:=by
  intro x hx
  simp only[xs,Kau]at hx
  obtain⟨p,⟨q,hq,rfl⟩,rfl⟩:=hx
  exact(cb _ (Kau.2 ⟨q,hq,rfl⟩)).2
 have Lr:xs.length=len:=by simp[xs,bx]
 have kE:(parts.map fun(x:Nat×Operand)=>(x.1,a.eval x.2)).toList=parts.toList.map fun x=>(x.1,a.eval x.2):=by simp
 have Uy:Rows w (aK C ρ (bV hp ((ps.map (ev fr)).flatMap PV.refs))) ((List.range (len*n)).map fun k=>z.cells.getD (k%n) .undef) ((Array.range (len*n)).map ((if len*n=0 then(#[]:Array Value)else zv.cells)[· %(if len*n=0 then(#[]:Array Value)else zv.cells).size]!)):=by
  by_cases rz:len*n=0
  ·rw[if_pos rz,rz];exact⟨by simp,by simp⟩
  ·rw[if_neg rz];exact aas (e:=e) (by_:=by_) i5 kK h0
 obtain⟨eF,g1,g2⟩:=DV (fun i=>some (i*n,n)) (parts.toList.map fun x=>(x.1,a.eval x.2)) ((xs.zipIdx 0).map fun p=>(p.2*n,p.1)) _ _ Uy (by simp[Lr,hlen]) (fun i p q sP wm=>by
  simp only[Kav,Kaa]at sP wm
  obtain⟨x,hx,rfl⟩:=sP
  obtain⟨q0,gu,rfl⟩:=wm
  rw[List.getElem?_zipIdx]at gu
  simp only[Kaa]at gu
  obtain⟨y,hy,rfl⟩:=gu
  simp only[Kbb]
  have VH:=dN y (Kaj hy)
  simp only[xs,Kav,Kaa]at hy
  obtain⟨pv,⟨u,kI,rfl⟩,rfl⟩:=hy
  obtain⟨x',aV,K7⟩:=m2 i u kI
  rw[hx]at aV;cases aV
  have hi:i<len:=by have:=(Kae.1 hx).1;omega
  obtain⟨o1,o2⟩:=cb (ev fr u) (Kau.2 ⟨u,Kaj kI,rfl⟩)
  refine⟨by rw[Wp uv hx,VH],(rU h (cO h K7) (fun β af=>Kat.2 ⟨_,Kau.2 ⟨u,Kaj kI,rfl⟩,af⟩) o1).rows,?_⟩
  rw[VH];simp
  have:(i+1)*n<=len*n:=Kah n hi
  rw[KaJ]at this;omega)
 have KR:=Si n xs 0 [] ((List.range (len*n)).map fun k=>z.cells.getD (k%n) .undef) dN (by simp) (by simp[Lr])
 simp only[KaQ]at KR
 rw[KR]at g2
 have qj:xs.flatten.length=len*n:=by
  have:=g2.1
  have hb:=Uy.1
  have h2:iP ((List.range (len*n)).map fun k=>z.cells.getD (k%n) .undef) ((xs.zipIdx 0).map fun p=>(p.2*n,p.1))=xs.flatten:=KR
  rw[List.length_flatten]
  have:xs.map List.length=List.replicate xs.length n:=by
   apply Kbg (by simp)
   intro i h1 h2
   simp only[KbB,List.getElem_replicate]
   exact dN _ (Kai _)
  rw[this,List.sum_replicate_nat,Lr]
 have lv:eF.size=len*n:=by rw[g2.1,qj]
 obtain⟨hs,he⟩:=(h.freeze ((ps.map (ev fr)).flatMap PV.refs)).G3 d (zJ au) ⟨n,e,(ps.map (ev fr)).map (aO hp),false⟩ eF len _ (.inl rfl) lv (by simp[bx]) (by rw[oF];have:len*1<=len*n:=KaA len h0;omega) h0
  (fun i x hx=>by
   simp only[Kav,Kaa]at hx
   obtain⟨p,⟨u,kI,rfl⟩,rfl⟩:=hx
   obtain⟨o1,o2⟩:=cb (ev fr u) (Kau.2 ⟨u,Kaj kI,rfl⟩)
   exact⟨o2,o1⟩)
  (fun i x hx j y hy=>by
   refine g2.2 _ y (yU h0 xs i j x.cells y dN ?_ hy)
   simp only[Kav,Kaa,xs]at hx⊢
   obtain⟨p,ka,rfl⟩:=hx
   exact⟨p,ka,rfl⟩)
 refine kf (v:= .slice (some ⟨w.heap.size,0,none⟩) len len) ?_ (cU.mq hd au bk hs (fun _=>he) ?_ hK)
 ·unfold execOp
  have lu:¬(len*n>2^24):=by omega
  have CO:(parts.map fun x=>match x with|(i,x)=>(i,a.eval x)).toList=parts.toList.map fun x=>(x.1,a.eval x.2):=kE
  simp only[ho,Instr.buildSlice,Kaq,jz hu,Kal,lJ (show dW C.P e=some n by simp[dW,i1,i3]),if_neg lu,CO]
  by_cases rz:len*n=0
  ·simp only[if_pos rz]at g1⊢
   simp only[Ka3,Kal,Kaq,g1,newRow]
   simp
  ·simp only[if_neg rz]at g1⊢
   simp only[Ka3,Kal,Kaq,wJ i1 i2,g1,newRow]
   simp
 ·rw[show(ps.map (ev fr)).length=len by simp[bx]]
  exact QN (by simp[bx]) (oy w _) lv (by rw[oF];have:len*1<=len*n:=KaA len h0;omega)
theorem AF(w:World)(b:Nat)(cur:Array Value):Ext (fun c=>c=b) w (w.setRow b cur):=
 ⟨rfl,rfl,rfl,by simp,fun k hk hn=>setRow_other w b k _ hn⟩
theorem AA{cur:Array Value}{p:Nat}{cs:List Value}{k:Nat}(hle:p+cs.length<=cur.size)(hk:k<cur.size):
  ((cur.toList.take p++cs++cur.toList.drop (p+cs.length)).toArray).getD k undef=if p<=k/\k<p+cs.length then cs.getD (k-p) undef else cur.getD k undef:=by
 have cf:k<cur.toList.length:=by simpa using hk
 have ht:(cur.toList.take p).length=p:=by simp;omega
 simp only[KaW,List.getElem?_toArray,Kbs,Kad]
 rw[KaZ,ht]
 by_cases c1:k<p
 ·rw[if_pos c1,if_neg (by omega),KaM c1];simp
 ·rw[if_neg c1,KaZ]
  by_cases c2:k-p<cs.length
  ·rw[if_pos c2,if_pos (by omega)]
  ·rw[if_neg c2,if_neg (by omega),Ka9]
   rw[show p+cs.length+(k-p-cs.length)=k by omega];simp
theorem AB{cur:Array Value}{p:Nat}{cs:List Value}(hle:p+cs.length<=cur.size):((cur.toList.take p++cs++cur.toList.drop (p+cs.length)).toArray).size=cur.size:=by
 simp;omega
theorem Rb{P:Program}{t:TypeId}{n b off:Nat}{ty:TypeId}{v:Value}{cur:Array Value}(hn:dW P t=some n)(hs:v.cells.size=n)(hg:w.heap[b]? =some (.cells cur ty (0,0)))(hle:off+n<=cur.size)(h1:∀u∈v.cells.toList,u.oneCell'=true):
  (storeVar t ⟨b,off,none⟩ v).run P w= .ok () (w.setRow b (cur.toList.take off++v.cells.toList++cur.toList.drop (off+n)).toArray):=by
 unfold storeVar
 have bA:=run_storeCells_at P b off ty v.cells.toList 0 cur w hg (by simp[hs];omega) h1
 simp only[KaX,Array.length_toList,hs]at bA
 have aH:¬(v.cells.size≠n):=by simp[hs]
 simp only[Kaq,lJ hn,Kal,if_neg aH]
 exact bA
theorem acH{x:PV}{o:Nat}{v:PV}{j:Nat}(hl:o+v.cells.length<=x.cells.length)(hj:j<x.cells.length):
  (tc x o v).cells[j]? =if o<=j/\j<o+v.cells.length then v.cells[j-o]? else x.cells[j]? :=by
 show(x.cells.take o++v.cells++x.cells.drop (o+v.cells.length))[j]? =_
 rw[Kbs]
 have ht:(x.cells.take o).length=o:=by simp;omega
 rw[KaZ,ht]
 by_cases c1:j<o
 ·rw[if_pos c1,if_neg (by omega),KaM c1]
 ·rw[if_neg c1,KaZ]
  by_cases c2:j-o<v.cells.length
  ·rw[if_pos c2,if_pos (by omega)]
  ·rw[if_neg c2,if_neg (by omega),Ka9]
   rw[show o+v.cells.length+(j-o-v.cells.length)=j by omega]
theorem aiy{x:PV}{o:Nat}{v:PV}(hl:o+v.cells.length<=x.cells.length):(tc x o v).cells.length=x.cells.length:=by
 show(List.take o x.cells++v.cells++List.drop (o+v.cells.length) x.cells).length=_
 simp;omega
theorem M3{e i j m k n:Nat}(hj:j<e)(hk:k+n<=e)(aH:i≠m):¬(m*e+k<=i*e+j/\i*e+j<m*e+k+n):=by
 intro⟨h1,h2⟩
 rcases Nat.lt_or_gt_of_ne aH with h|h
 ·have:(i+1)*e<=m*e:=Kah e h
  rw[KaJ]at this;omega
 ·have:(m+1)*e<=i*e:=Kah e h
  rw[KaJ]at this;omega
theorem Bw{l:List PV}{i k:Nat}{nx x:PV}(h:(l.set i nx)[k]? =some x):(i=k/\x=nx)∨(i≠k/\l[k]? =some x):=by
 by_cases KW:i=k
 ·subst KW
  have hi:i<l.length:=by have:=(Kae.1 h).1;simpa using this
  rw[List.getElem?_set_self hi]at h
  cases h;exact .inl ⟨rfl,rfl⟩
 ·rw[List.getElem?_set_ne KW]at h;exact .inr ⟨KW,h⟩
theorem cW.aU{p:PV}{v:Value}(h:cW C ρ hp w p v):p.aU=[p]:=by
 cases p with
 |agg=>cases h
 |bm=>cases h
 |_=>rfl
theorem Sj{l:List PV}(h:∀c∈l,c.aU=[c]):(fA l).aU=l:=by
 unfold fA
 split
 ·exact h _ (by simp)
 ·exact Xa _
theorem OC{py:PV}{v:Value}{cs:List PV}(h:Qm C ρ hp w py v)(hs:eU py=some cs):v.cells.size=cs.length/\(∀(j:Nat)(y:PV),cs[j]? =some y->cW C ρ hp w y (v.cells.getD j undef))/\∀u∈v.cells.toList,u.oneCell'=true:=by
 have one:∀ {p:PV},cW C ρ hp w p v->p≠ .undef->cs=[p]->v.cells.size=cs.length/\(∀(j:Nat)(y:PV),cs[j]? =some y->cW C ρ hp w y (v.cells.getD j undef))/\∀u∈v.cells.toList,u.oneCell'=true:=by
  rintro p hr hu rfl
  obtain⟨h1,h2⟩:=hr.sZ hu
  rw[h2]
  refine⟨rfl,fun j y hy=> ?_,fun u kI=> ?_⟩
  ·match j,hy with
   |0,hy=>simp at hy;subst hy;exact hr
   |j+1,hy=>simp at hy
  ·simp at kI;subst kI;exact h1
 cases py with
 | bm cs'=>
  simp only[eU]at hs
  split at hs
  ·rename_i cH
   simp only[KaC]at hs
   subst hs
   obtain⟨vs,rfl,h1,h2⟩:=h
   refine⟨h1,h2,fun u hu=> ?_⟩
   obtain⟨j,hj,rfl⟩:=KaT hu
   have dw:j<vs.size:=by simpa[Value.cells]using hj
   have hp:j<cs'.length:=by omega
   have h3:=h2 j cs'[j] (Kag hp)
   have h4:=Kas.1 cH cs'[j] (Kai hp)
   have:=(h3.sZ (fun e=>by rw[e]at h4;cases h4)).1
   simpa[Array.getD,dw,Value.cells]using this
  ·cases hs
 |aG γ o n=>simp only[eU,KaC]at hs;exact one (p:= .aG γ o n) h (by simp) hs.symm
 |aB β o n=>
  simp only[eU]at hs
  split at hs
  ·rename_i hB;simp only[KaC]at hs;exact one (p:= .aB β o n) ⟨hB,h⟩ (by simp) hs.symm
  ·cases hs
 |int k n=>simp only[eU,KaC]at hs;exact one (p:= .int k n) h (by simp) hs.symm
 |bool b=>simp only[eU,KaC]at hs;exact one (p:= .bool b) h (by simp) hs.symm
 |al=>simp only[eU,KaC]at hs;exact one (p:= .al) h (by simp) hs.symm
 |sl e xs=>simp only[eU,KaC]at hs;exact one (p:= .sl e xs) h (by simp) hs.symm
 |pt cs'=>simp only[eU,KaC]at hs;exact one (p:= .pt cs') h (by simp) hs.symm
 |agg cs'=>
  simp only[eU,KaC]at hs;subst hs
  have hr:bI w (aK C ρ hp) (.agg cs') v:=h
  obtain⟨h1,h2⟩:=hr.cells
  exact⟨h1,fun j y hy=>cW.VU (h2 j y hy),hr.VW⟩
 |_=>cases hs
theorem Qr.VQ{tmps:Array Value}{w':World}(h:Qr C ρ fr hp tmps w){γ b e ty:Nat}{hb:HB}{xs':List PV}{cur':Array Value}{cap:Nat}(hB:bE γ=true)(he:0<e)(aj:hp γ=some hb)(na:hb.fz=false)(cF:hb.xs=[])(zZ:hb.e=e)(ht:hb.ty=ty)(bD:ρ γ=some b)
  (hx:Ext (fun c=>c=b) w w') (dH:∀e cap,cZ w b e cap->cZ w' b e cap) (h1:w'.heap[b]? =some (.cells cur' ty (0,0))) (h2:cur'.size=cap*e) (h3:xs'.length<=cap) (h4:cap<=maxLen)
  (h5:∀(i:Nat)(x:PV),xs'[i]? =some x->x.aU.length=e) (h6:∀(i:Nat)(x:PV),xs'[i]? =some x->∀(j:Nat)(y:PV),x.aU[j]? =some y->cW C ρ hp w y (cur'.getD (i*e+j) undef)):
  Qr C ρ (FW.ae (gU γ fr) γ (.aF γ e ty xs')) hp tmps w':=by
 have Kz:aK C ρ hp b:= .inr ⟨γ,hb,aj,na,bD⟩
 have Gz:dK γ=false:=by
  cases hq:dK γ with
  |false=>rfl
  |true=>have:=(h.own γ hb aj).ro hq;rw[na]at this;cases this
 have dS:mW w w' (aK C ρ hp) (aK C ρ hp):=⟨fun c hc hn=>hx.block c hc (fun e=>hn (e▸Kz)),fun _ _ hn=>hn,hx.size⟩
 have bB:=(h.own γ hb aj).cL
 rw[bD]at bB
 have jZ:Ext C.Y0 C.w0 w':=by
  refine h.ext.trans' (Y':=fun c=>c=b) hx ?_
  intro c hc he
  subst he
  exact(Ctx.FQ bB.1 Gz).resolve_left (by omega)
 have CE:∀β c,C.fx β=some c->∀e cap,cZ C.w0 c e cap->cZ w' c e cap:=fun b0 c dS e cap ij=>by
  have lh:=h.fp b0 c dS e cap ij
  by_cases jo:c=b
  ·rw[jo]at lh ⊢;exact dH e cap lh
  ·exact mA (hx.block c (mC lh) jo) lh
 have pA:∀β hg c,β≠γ->hp β=some hg->ρ β=some c->¬c=b:=fun β hg c aH gO hr e=>aH (h.inj β γ b (by simp[gO]) (by simp[aj]) (e▸hr) bD)
 have c0:∀β,vA ρ ρ hp hp w w' β:=fun β=>⟨rfl,fun hg gO=>⟨hg,gO,rfl,Kaf _,fun c cap hr ij=>by
  by_cases aH:β=γ
  ·subst aH;rw[bD]at hr;cases hr;exact dH _ _ ij
  ·exact mA (hx.block c (mC ij) (pA β hg c aH gO hr)) ij⟩⟩
 refine⟨h.sz,jZ,CE,fun β hg af=> ?_,h.inj,fun i=> ?_⟩
 ·obtain⟨p1,p2,p3,p4,p5⟩:=h.own β hg af
  refine⟨p1,p2,?_,p4,p5⟩
  by_cases aH:β=γ
  ·subst aH
   rw[aj]at af;cases af
   rw[bD]at p3⊢
   exact⟨p3.1,Kbu p3.2.1 hx.size,cur',cap,by rw[h1,ht],by rw[zZ];exact h2,by rw[cF];simp,h4,by rw[cF];simp⟩
  ·cases hr:ρ β with
   |none=>rw[hr]at p3;exact p3
   |some c=>
    rw[hr]at p3
    exact⟨p3.1,Kbu p3.2.1 hx.size,p3.2.2.move (hx.block c p3.2.1 (pA β hg c aH af hr)) rfl rfl rfl dS.rc⟩
 ·unfold FW.ae
  split
  ·exact⟨hB,he,b,hb,cur',cap,bD,aj,cF,zZ,ht,h1,h2,h3,h4,h5,fun i x hi j y hy=>(h6 i x hi j y hy).move dS (fun β _=>c0 β)⟩
  ·have bb:=h.cS i
   unfold gU
   generalize fr i=p at bb
   have mv:(∀bo e ty xs,p= .aF bo e ty xs->bo≠γ)->Qm C ρ hp w' p (tmps.getD i undef):=fun hq=>
    bb.move dS (fun β _=>⟨(c0 β).r,(c0 β).h⟩) (fun β _=>c0 β) (fun bo e ty xs e1=>⟨rfl,fun hg gO=>by
     have aH:=hq bo e ty xs e1
     refine⟨hg,gO,rfl,Kaf _,fun c cap hr ij=>mA (hx.block c (mC ij) (pA bo hg c aH gO hr)) ij,fun he=>⟨he,rfl,fun c hr=>hx.block c ?_ (pA bo hg c aH gO hr)⟩⟩
     have:=(h.own bo hg gO).cL
     rw[hr]at this;exact this.2.1⟩)
   cases p with
   |aF bo e' ty' xs=>
    simp only[gT]
    split
    ·trivial
    ·rename_i aH;exact mv (fun _ _ _ _ e1=>by cases e1;exact aH)
   |_=>exact mv (fun _ _ _ _ e1=>by cases e1)
theorem M4{l cs:List PV}{o j:Nat}(hl:o+cs.length<=l.length)(hj:j<l.length):(oP l o cs)[j]? =if o<=j/\j<o+cs.length then cs[j-o]? else l[j]? :=by
 unfold oP
 rw[Kbs]
 have ht:(l.take o).length=o:=by simp;omega
 rw[KaZ,ht]
 by_cases c1:j<o
 ·rw[if_pos c1,if_neg (by omega),KaM c1]
 ·rw[if_neg c1,KaZ]
  by_cases c2:j-o<cs.length
  ·rw[if_pos c2,if_pos (by omega)]
  ·rw[if_neg c2,if_neg (by omega),Ka9]
   rw[show o+cs.length+(j-o-cs.length)=j by omega]
theorem Jg{l cs:List PV}{o:Nat}(hl:o+cs.length<=l.length):(oP l o cs).length=l.length:=by
 unfold oP;simp;omega
theorem acI {o:Oper} {t:TypeId} {n:Nat} {x y:Operand} {px py:PV} {Q:Exit->Act->World->Prop} (ho:o.op= .store t x y) (hd:o.dst=none) (bk:a.defers=[]) (h:Qr C ρ fr hp a.tmps w)
  (hn:dW C.P t=some n) (hx:Qm C ρ hp w px (a.eval x)) (hy:Qm C ρ hp w py (a.eval y)) (hv:ow n px py fr hp K):o.wp C.P a w (cU C false w K) Q:=by
 unfold ow at hv
 split at hv
 ·rename_i β i o'
  split at hv
  ·rename_i hb af
   obtain⟨h1,h2,h3,h4,h5,hK⟩:=hv
   obtain⟨b,cI,g1,g2,ex⟩:=hx.Ap
   obtain⟨hb1,g3,e1,e2,e3,e4,_⟩:=DI (l:=py.refs) g2
   rw[af]at g3;cases g3
   have xJ:=e4 h1
   subst xJ
   have hf:=h.freeze py.refs
   have hr:=rU h hy (fun β af=>af) h2
   have yn:=hr.cells
   have bB:=hf.own β hb af
   have aY:=bB.cL
   rw[g1]at aY
   obtain⟨b1,b2,cur,cap,c1,c2,c3,c4,c5⟩:=aY
   have fE:=Kag h4
   have jK:=(bB.len i _ fE).1
   have lv:(a.eval y).cells.size=n:=by rw[yn.1,h3]
   have um:i*hb.e+o'+n<=cur.size:=by
    rw[c2]
    have:(i+1)*hb.e<=cap*hb.e:=Kah _ (by omega)
    rw[KaJ]at this;omega
   have cm:=Rb (P:=C.P) (w:=w) (off:=i*hb.e+o') hn lv c1 um hr.VW
   have nn:(a.eval y).cells.toList.length=n:=by simp[lv]
   have eD:∀k,k<cur.size->((cur.toList.take (i*hb.e+o')++(a.eval y).cells.toList++cur.toList.drop (i*hb.e+o'+n)).toArray).getD k undef=if i*hb.e+o'<=k/\k<i*hb.e+o'+n then(a.eval y).cells.getD (k-(i*hb.e+o')) undef else cur.getD k undef:=by
    intro k hk
    have:=AA (cur:=cur) (p:=i*hb.e+o') (cs:=(a.eval y).cells.toList) (k:=k) (by omega) hk
    rw[nn]at this
    rw[this]
    simp[KaW,Kad]
   have kd:((cur.toList.take (i*hb.e+o')++(a.eval y).cells.toList++cur.toList.drop (i*hb.e+o'+n)).toArray).size=cur.size:=by
    have:=AB (cur:=cur) (p:=i*hb.e+o') (cs:=(a.eval y).cells.toList) (by omega)
    rwa[nn]at this
   have od:(if n=hb.e then aO hp py else tc (hb.xs[i]'h4) o' (aO hp py)).cells.length=hb.e/\(if n=hb.e then aO hp py else tc (hb.xs[i]'h4) o' (aO hp py)).aL=true:=by
    by_cases hc:n=hb.e
    ·rw[if_pos hc];exact⟨by omega,h2⟩
    ·rw[if_neg hc];exact⟨by rw[aiy (by omega)];exact jK,rfl⟩
   obtain⟨nx,fo⟩:∃nx,nx=(if n=hb.e then aO hp py else tc (hb.xs[i]'h4) o' (aO hp py)):=⟨_,rfl⟩
   rw[<-fo]at hK od
   have bA:=hf.store β b hb { hb with xs:=hb.xs.set i nx } af h1 (by intro e;rw[e]at h4;simp at h4) g1 (AF w b _) rfl (by simp) h1
    (fun k x hk=>by
     rcases Bw hk with⟨_,rfl⟩|⟨_,hk⟩
     ·exact od
     ·exact bB.len k x hk)
    (fun e' eK dH=>by
     obtain⟨cur',ty',d1,d2⟩:=dH
     rw[c1]at d1;cases d1
     exact⟨_,_,setRow_heap w b cur _ hb.ty _ c1,by rw[kd];exact d2⟩)
    ⟨_, cap,setRow_heap w b cur _ hb.ty _ c1,by rw[kd];exact c2,by simpa using c3,c4,fun k x hk j z hz=>by
     have z7:k<hb.xs.length:=by have:=(Kae.1 hk).1;simpa using this
     have dN:x.cells.length=hb.e:=by
      rcases Bw hk with⟨_,rfl⟩|⟨_,hk⟩
      ·exact od.1
      ·exact(bB.len k x hk).1
     have hj:j<hb.e:=by have:=(Kae.1 hz).1;omega
     have au:k*hb.e+0+j<cap*hb.e:=oL (by omega) (by omega:0+hb.e<=hb.e) hj
     show Qp w _ z (Array.getD _ (k*hb.e+j) undef)
     rw[eD _ (by omega)]
     rcases Bw hk with⟨xR,GS⟩|⟨xR,hk⟩
     ·subst xR;subst GS
      by_cases hc:n=hb.e
      ·rw[fo,if_pos hc]at hz
       have ya:o'=0:=by omega
       subst ya
       rw[if_pos (by omega)]
       rw[show i*hb.e+j-(i*hb.e+0)=j by omega]
       exact yn.2 j z hz
      ·rw[fo,if_neg hc]at hz
       rw[acH (by omega) (by omega),h3]at hz
       by_cases US:o'<=j/\j<o'+n
       ·rw[if_pos US]at hz
        rw[if_pos (by omega)]
        rw[show i*hb.e+j-(i*hb.e+o')=j-o' by omega]
        exact yn.2 _ z hz
       ·rw[if_neg US]at hz
        rw[if_neg (by omega)]
        exact c5 i _ fE j z hz
     ·rw[if_neg (M3 hj (by omega) (fun e=>xR e.symm))]
      exact c5 k x hk j z hz⟩
   unfold Oper.wp
   have hex:(execOp a.eval o).run C.P w= .ok .skip (w.setRow b (cur.toList.take (i*hb.e+o')++(a.eval y).cells.toList++cur.toList.drop (i*hb.e+o'+n)).toArray):=by
    unfold execOp
    simp only[ho,ex,Kaq,Instr.storeAt,Instr.sureAddr,Ka3,Kal,cm]
   rw[hex]
   refine⟨by rw[wM];exact bk,⟨fr,_,⟨ρ,?_⟩,hK⟩,by simp⟩
   rw[hd];exact bA
  ·exact hv.elim
 ·rename_i γ i o'
  split at hv
  ·rename_i bo e ty xs aj
   obtain⟨rfl,⟨hb,k1,k2⟩,h1,h2,hv⟩:=hv
   split at hv
   ·rename_i cs n5
    obtain⟨h3,hK⟩:=hv
    obtain⟨r1,r2,r3⟩:=OC hy n5
    obtain⟨hB,b,aw,g1,g2,ex⟩:=hx.LA
    rw[k1]at g2;cases g2
    have bb:=h.cS bo
    rw[aj]at bb
    obtain⟨_,v8,b',aw,cur,cap,q1,q2,q3,q4,q5,q6,q7,q8,q9,C8,yA⟩:=bb
    rw[g1]at q1;cases q1
    rw[k1]at q2;cases q2
    rw[q4]at ex
    have fE:=Kag h1
    have jK:=C8 i _ fE
    have lv:(a.eval y).cells.size=n:=by rw[r1,h3]
    have um:i*e+o'+n<=cur.size:=by
     rw[q7]
     have:(i+1)*e<=cap*e:=Kah _ (by omega)
     rw[KaJ]at this;omega
    have cm:=Rb (P:=C.P) (w:=w) (off:=i*e+o') hn lv q6 um r3
    have nn:(a.eval y).cells.toList.length=n:=by simp[lv]
    have eD:∀k,k<cur.size->((cur.toList.take (i*e+o')++(a.eval y).cells.toList++cur.toList.drop (i*e+o'+n)).toArray).getD k undef=if i*e+o'<=k/\k<i*e+o'+n then(a.eval y).cells.getD (k-(i*e+o')) undef else cur.getD k undef:=by
     intro k hk
     have:=AA (cur:=cur) (p:=i*e+o') (cs:=(a.eval y).cells.toList) (k:=k) (by omega) hk
     rw[nn]at this
     rw[this]
     simp[KaW,Kad]
    have kd:((cur.toList.take (i*e+o')++(a.eval y).cells.toList++cur.toList.drop (i*e+o'+n)).toArray).size=cur.size:=by
     have:=AB (cur:=cur) (p:=i*e+o') (cs:=(a.eval y).cells.toList) (by omega)
     rwa[nn]at this
    generalize(cur.toList.take (i*e+o')++(a.eval y).cells.toList++cur.toList.drop (i*e+o'+n)).toArray=W at cm eD kd
    have CS:o'+cs.length<=(xs[i]).aU.length:=by rw[jK,h3];exact h2
    have pe:∀c∈oP (xs[i]).aU o' cs,c.aU=[c]:=by
     intro c hc
     obtain⟨j,hj⟩:=KaV hc
     have ru:j<(xs[i]).aU.length:=by have:=(Kae.1 hj).1;rwa[Jg CS]at this
     rw[M4 CS ru]at hj
     split at hj
     ·exact(r2 _ c hj).aU
     ·exact(yA i _ fE j c hj).aU
    have ik:=Sj pe
    have bA:=h.VQ (w':=w.setRow b W) (xs':=xs.set i (fA (oP (xs[i]).aU o' cs))) (cur':=W) (cap:=cap) hB v8 k1 k2 q3 q4 q5 g1 (AF w b W)
     (fun e2 B4 Cv=>by
      obtain⟨arW,ty2,d1,d2⟩:=Cv
      rw[q6]at d1;cases d1
      exact⟨_,_,setRow_heap w b cur _ ty _ q6,by rw[kd];exact d2⟩)
     (setRow_heap w b cur W ty _ q6) (by rw[kd];exact q7) (by simpa using q8) q9
     (fun k x hk=>by
      rcases Bw hk with⟨_,rfl⟩|⟨_,hk⟩
      ·rw[ik,Jg CS];exact jK
      ·exact C8 k x hk)
     (fun k x hk j y' mh=>by
      rcases Bw hk with⟨rfl,rfl⟩|⟨aH,hk⟩
      ·rw[ik]at mh
       have ru:j<(xs[i]).aU.length:=by have:=(Kae.1 mh).1;rwa[Jg CS]at this
       have xQ:j<e:=by omega
       have xW:i*e+0+j<cap*e:=oL (n:=e) (by omega) (by omega) xQ
       rw[M4 CS ru]at mh
       rw[eD _ (by omega)]
       split at mh
       ·rename_i hr
        rw[if_pos (by omega),show i*e+j-(i*e+o')=j-o' by omega]
        exact r2 _ y' mh
       ·rename_i hr
        rw[if_neg (by omega)]
        exact yA i _ fE j y' mh
      ·have z7:k<xs.length:=(Kae.1 hk).1
       have xQ:j<e:=by have:=(Kae.1 mh).1;have:=C8 k x hk;omega
       have xW:k*e+0+j<cap*e:=oL (n:=e) (by omega) (by omega) xQ
       rw[eD _ (by omega),if_neg (M3 xQ h2 (fun e=>aH e.symm))]
       exact yA k x hk j y' mh)
    unfold Oper.wp
    have hex:(execOp a.eval o).run C.P w= .ok .skip (w.setRow b W):=by
     unfold execOp
     simp only[ho,ex,Kaq,Instr.storeAt,Instr.sureAddr,Ka3,Kal,cm]
    rw[hex]
    refine⟨by rw[wM];exact bk,⟨_,hp,⟨ρ,?_⟩,hK⟩,by simp⟩
    rw[hd];exact bA
   ·exact hv.elim
  ·exact hv.elim
 ·exact hv.elim
end Go.FW
namespace Go.FW
open Go
variable {C : Ctx} {ρ : Nat -> Option Nat} {fr : Fr} {hp : HP} {w : World} {a : Act} {K : Qh}
theorem WE{X:Nat->Prop}{x:PV}{e:Nat}{f:Nat->Value}(he:x.cells.length=e)(h0:0<e)(hr:∀(j:Nat)(y:PV),x.cells[j]? =some y->Qp w X y (f j)):x.aL=true:=by
 by_cases ha:∃cs,x= .agg cs
 ·obtain⟨cs,rfl⟩:=ha;rfl
 ·have hc:x.cells=[x]:=by
   cases x with
   |agg cs=>exact absurd ⟨cs,rfl⟩ ha
   |_=>rfl
  have:=hr 0 x (by rw[hc];rfl)
  exact bI.data (bI.rN this)
theorem IS{e:Nat}{px:PV}{v:Value}{ys:List PV}{e':Nat}(h:Qr C ρ fr hp a.tmps w)(hx:Qm C ρ hp w px v)(hs:jd hp px=some (e',ys))(h0:0<e)(n6:e'=e∨ys=[]):
  ∃ad cap,v= .slice ad ys.length cap/\(ys≠[]->∃(b off:Nat)(f:Nat->Value),ad=some ⟨b,off,none⟩/\(∀k,k<ys.length*e->w.cell? ⟨b,off+k,none⟩=some (f k))/\
   ∀(i:Nat)(y:PV),ys[i]? =some y->y.cells.length=e/\y.aL=true/\∀(j:Nat)(z:PV),y.cells[j]? =some z->Qp w (aK C ρ hp) z (f (i*e+j))):=by
 cases px with
 |al=>
  simp[jd]at hs
  obtain⟨rfl,rfl⟩:=hs
  exact⟨none,0,hx.yz,fun hn=>absurd rfl hn⟩
 | sl e2 xs=>
  simp[jd]at hs
  obtain⟨rfl,rfl⟩:=hs
  have aV:Qp w (aK C ρ hp) (.sl e2 xs) v:=hx
  cases aV with
  |nt _ ad cap hc=>exact⟨ad,cap,rfl,fun hn=>absurd rfl hn⟩
  | sl _ _ b off cap vs hX hb hl hc he hv hr=>
   refine⟨_,cap,rfl,fun hn=> ?_⟩
   obtain rfl:e2=e:=n6.resolve_right hn
   refine⟨b,off,fun k=>vs (k/e2) (k%e2),rfl,fun k hk=> ?_,fun i y hy=> ?_⟩
   ·have h1:k/e2<xs.length:=(Kbc h0).2 hk
    have h2:=Kbt k h0
    have:=hv _ h1 _ h2
    rw[Kcf,KaR,Kbl]at this
    exact this
   ·have jK:=he i y hy
    refine⟨jK,WE jK h0 (hr i y hy),fun j z hz=> ?_⟩
    have hj:j<e2:=by have:=(Kae.1 hz).1;omega
    show Qp w _ z (vs ((i*e2+j)/e2) ((i*e2+j)%e2))
    rw[aca hj,Nc hj]
    exact hr i y hy j z hz
 | aB β o n=>
  simp only[jd,Kaa,Prod.mk.injEq]at hs
  obtain⟨hb,af,zZ,rfl⟩:=hs
  obtain⟨hb2,g1,g2,g3⟩:=hx
  rw[af]at g1;cases g1
  have hlen:((hb.xs.drop o).take n).length=n:=by simp;omega
  rcases g3 with⟨g3,rfl,rfl,rfl⟩|⟨b,cap,g3,rfl,g5,g6⟩
  ·exact⟨none,0,by simp,fun hn=>absurd (by simp) hn⟩
  ·refine⟨_,cap,by rw[hlen],fun hn=> ?_⟩
   have bB:=h.own β hb af
   have aY:=bB.cL
   rw[g3]at aY
   obtain⟨_,au,cur,eK,c1,c2,c3,c4,c5⟩:=aY
   have UG:hb.e=e:=by
    rcases n6 with n6|n6
    ·omega
    ·exact absurd n6 hn
   refine⟨b,o*hb.e,fun k=>cur.getD (o*hb.e+k) undef,rfl,fun k hk=> ?_,fun i y hy=> ?_⟩
   ·rw[hlen]at hk
    have:(o+n)*e<=eK*e:=Kah e (by omega)
    rw[KaJ]at this
    exact my c1 (by rw[c2,UG];omega)
   ·have hi:i<n:=by have:=(Kae.1 hy).1;omega
    rw[KaM hi,Ka9]at hy
    obtain⟨l1,l2⟩:=bB.len _ y hy
    refine⟨by omega,l2,fun j z hz=> ?_⟩
    have:=c5 _ y hy j z hz
    rw[KaJ,Kcf]at this
    rwa[UG]at this⊢
 |_=>simp[jd]at hs
theorem QT{P:Program}{t ty e:TypeId}{i:TypeInfo}(ht:P.underlying t=some (.slice e))(hi:P.info? e=some i){base ad:Option Addr}{n cap c:Nat}(hle:n<=cap)(w:World):
  (Builtin.append_ #[t,t] ty #[.slice base n cap,.slice ad 0 c]).run P w= .ok (.slice base n cap) w:=by
 cases ad<;>cases base<;>simp[Builtin.append_,run_underlying ht,sizeOf,typeInfo,hi,Builtin.lenOf,Builtin.firstCells,hle,storeCells,loadCells,loadCellsFrom]
theorem uL{P:Program}{o:Oper}{s x:Operand}{t:TypeId}(ho:o.op= .call { callee:= .builtin .append,args:= #[s,x],argTypes:= #[t,t] }){vs vx v:Value}{w w':World}(es:a.eval s=vs)(ex:a.eval x=vx)
  (hr:(Builtin.append_ #[t,t] o.type #[vs,vx]).run P w= .ok v w'):(execOp a.eval o).run P w= .ok (.value v) w':=by
 unfold execOp
 simp only[ho,resolve,Kaq,Ka3,Kal,invoke,builtin]
 simp[es,ex,hr]
def fK(f:Nat->Value)(n:Nat):List Value:=(List.range n).map f
theorem yD(f:Nat->Value)(n:Nat):(fK f n).length=n:=by simp[fK]
theorem AG{f:Nat->Value}{n j:Nat}{u:Value}(h:(fK f n)[j]? =some u):j<n/\u=f j:=by
 have hj:j<n:=by have:=(Kae.1 h).1;simpa[fK]using this
 simp only[fK,Kav,Kb8 hj,Kcd,KaC]at h
 exact⟨hj,h.symm⟩
theorem DK{f:Nat->Value}{n j:Nat}(h:j<n):(fK f n).getD j undef=f j:=by
 simp[fK,Kad,h]
theorem wN(l:List Value)(k:Nat):l.toArray.getD k undef=l.getD k undef:=by simp[KaW,Kad]
theorem kQ(xs ys:Array Value)(k:Nat):(xs++ys).getD k undef=if k<xs.size then xs.getD k undef else ys.getD (k-xs.size) undef:=by
 simp only[KaW,Array.getElem?_append]
 split<;>rfl
theorem wY{n m e i j:Nat}(h0:i<m)(hj:j<e):i*e+j<m*e/\(n+i)*e+j=n*e+(i*e+j):=by
 constructor
 ·have:(i+1)*e<=m*e:=Kah e h0
  rw[KaJ]at this;omega
 ·rw[KaJ];omega
theorem AR{β:Nat}{p:PV}{v:Value}(h:cW C ρ hp w p v):cW C ρ hp w (jc β p) v/\∀γ∈(jc β p).gB,γ≠β:=by
 cases p with
 | aB bn o n=>
  simp only[jc]
  split
  ·exact⟨trivial,fun γ aj=>by cases aj⟩
  ·rename_i aH
   exact⟨h,fun γ aj=>by simp[PV.gB]at aj;subst aj;exact aH⟩
 | aG bo o n=>
  simp only[jc]
  split
  ·exact⟨trivial,fun γ aj=>by cases aj⟩
  ·rename_i aH
   exact⟨h,fun γ aj=>by simp[PV.gB]at aj;subst aj;exact aH⟩
 |np=>cases h
 |_=>exact⟨h,fun γ aj=>by cases aj⟩
theorem wZ{l:List PV}{f:PV->PV}{i:Nat}{y:PV}(h:(l.map f)[i]? =some y):∃x,l[i]? =some x/\y=f x:=by
 simp only[Kav,Kaa]at h
 obtain⟨x,h1,h2⟩:=h
 exact⟨x,h1,h2.symm⟩
theorem AS{β:Nat}:zI C ρ hp w β fr (fJ β fr):=by
 intro i v h
 unfold fJ
 generalize fr i=p at h
 have kill:cT β p=cd β p->(∀γ∈p.aQ,γ≠β)->Qm C ρ hp w (cT β p) v/\(∀γ∈(cT β p).refs,γ≠β)/\∀γ∈(cT β p).aQ,γ≠β:=fun e hs=>by
  rw[e]
  refine⟨Qm.kill h,fun γ aj=>(Sg γ aj).1,fun γ aj=> ?_⟩
  unfold cd at aj
  split at aj
  ·cases aj
  ·exact hs γ aj
 cases p with
 | aF γ e ty xs=>
  simp only[cT]
  split
  ·exact⟨trivial,fun γ aj=>(by cases aj),fun γ aj=>by cases aj⟩
  ·rename_i aH
   obtain⟨h0,he,b,hb,cur,cap,h1,h2,h3,h4,h5,h6,h7,h8,h9,bl,ct⟩:=h
   have pe:∀(i:Nat)(x:PV),xs[i]? =some x->(fA (x.aU.map (jc β))).aU=x.aU.map (jc β):=fun i x hi=>Sj fun c hc=>by
    obtain⟨d,hd,rfl⟩:=Kau.1 hc
    obtain⟨j,hj⟩:=KaV hd
    exact(AR (ct i x hi j d hj)).1.aU
   refine⟨⟨h0,he,b,hb,cur,cap,h1,h2,h3,h4,h5,h6,h7,by simpa using h8,h9,fun i x hi=> ?_,fun i x hi j y hy=> ?_⟩,fun γ aj=>(by cases aj),fun bo aj=> ?_⟩
   ·obtain⟨x0,cF,rfl⟩:=wZ hi
    rw[pe i x0 cF,Kap];exact bl i x0 cF
   ·obtain⟨x0,cF,rfl⟩:=wZ hi
    rw[pe i x0 cF]at hy
    obtain⟨y0,cY,rfl⟩:=wZ hy
    exact(AR (ct i x0 cF j y0 cY)).1
   ·rcases KaG.1 aj with rfl|aj
    ·exact aH
    ·obtain⟨x,hx,aj⟩:=Kat.1 aj
     obtain⟨y,hy,aj⟩:=Kat.1 aj
     obtain⟨i,hi⟩:=KaV hx
     obtain⟨x0,cF,rfl⟩:=wZ hi
     rw[pe i x0 cF]at hy
     obtain⟨j,hj⟩:=KaV hy
     obtain⟨y0,cY,rfl⟩:=wZ hj
     exact(AR (ct i x0 cF j y0 cY)).2 bo aj
 | bm cs=>
  obtain⟨vs,rfl,h1,h2⟩:=h
  refine⟨⟨vs,rfl,by simpa using h1,fun i x hi=> ?_⟩,fun γ aj=>(by cases aj),fun γ aj=> ?_⟩
  ·obtain⟨x0,cF,rfl⟩:=wZ hi
   exact(AR (h2 i x0 cF)).1
  ·obtain⟨x,hx,aj⟩:=Kat.1 aj
   obtain⟨i,hi⟩:=KaV hx
   obtain⟨x0,cF,rfl⟩:=wZ hi
   exact(AR (h2 i x0 cF)).2 γ aj
 |aG γ o n=>
  simp only[cT]
  split
  ·exact⟨trivial,fun γ aj=>(by cases aj),fun γ aj=>by cases aj⟩
  ·rename_i aH;exact⟨h,fun γ aj=>(by cases aj),fun bo aj=>by simp[PV.aQ]at aj;subst aj;exact aH⟩
 |np γ o n=>
  simp only[cT]
  split
  ·exact⟨trivial,fun γ aj=>(by cases aj),fun γ aj=>by cases aj⟩
  ·rename_i aH;exact⟨h,fun γ aj=>(by cases aj),fun bo aj=>by simp[PV.aQ]at aj;subst aj;exact aH⟩
 | fn f first cap=>
  by_cases hc:(first.flatMap PV.dY++cap.flatMap PV.dY).contains β=true
  ·simp only[cT,hc,if_true]
   exact⟨trivial,fun γ aj=>(by cases aj),fun γ aj=>by cases aj⟩
  ·exact kill (by simp only[cT,hc];rfl) (fun γ aj e=>hc (by subst e;exact List.contains_iff_mem.2 aj))
 |_=>exact kill rfl (fun γ aj=>by cases aj)
end Go.FW
namespace Go.FW
open Go
variable {C : Ctx} {ρ : Nat -> Option Nat} {fr : Fr} {hp : HP} {w : World} {a : Act} {K : Qh}
theorem OD{o:Oper}{s x:Operand}{t e:TypeId}{n by_:Nat}{z:PV}{px:PV}{ys:List PV}{e' d:Nat}{β:Nat}{aC:Fr}{Q:Exit->Act->World->Prop}
  (ho:o.op= .call { callee:= .builtin .append,args:= #[s,x],argTypes:= #[t,t] }) (hd:o.dst=some d) (au:d<C.N) (bk:a.defers=[]) (h:Qr C ρ fr hp a.tmps w)
  (hu:C.P.underlying t=some (.slice e)) (hz:kn C.P e=some (n,by_,z)) (hx:Qm C ρ hp w px (a.eval x)) (qq:jd hp px=some (e',ys)) (h0:0<n) (kK:z.cells.length=n) (n6:e'=n∨ys=[])
  (es:a.eval s= .slice none 0 0) (hb:ys.length*by_<=140737488355328) (hm:ys.length<=9223372036854775807)
  (rm:zI C ρ hp w β fr aC) (hB:aP β=false)
  (hK:K (ae aC d (.ms β ys.length)) (Qi hp β ⟨n,e,ys,false⟩)):o.wp C.P a w (cU C false w K) Q:=by
 obtain⟨ti,zv,i1,i2,i3,i4,i5⟩:=tA hz
 obtain⟨ad,cap,ex,Ct⟩:=IS h hx qq h0 n6
 by_cases oh:ys=[]
 ·subst oh
  have cm:=QT (P:=C.P) (ty:=o.type) (ad:=ad) (c:=cap) hu i1 (base:=none) (n:=0) (cap:=0) (Kaf 0) w
  have hs:=h.At (w':=w) β none ⟨n,e,[],false⟩ hB rm (Ext.refl _ _) (by simp) h0 (by simp) (by simp) (by simp)
  refine kf (uL ho es ex cm) (cU.mq hd au bk hs (by simp) ?_ hK)
  exact⟨⟨n,e,[],false⟩,by simp[Qi],by simp,.inl ⟨ja _ _ _,rfl,rfl,rfl⟩⟩
 ·obtain⟨b,off,f,rfl,hf,ik⟩:=Ct oh
  have rz:0<ys.length:=List.length_pos_iff.2 oh
  have cm:=run_append_nil (P:=C.P) w t o.type e ti zv hu i1 i2 ⟨b,off,none⟩ ys.length cap (fK f (ys.length*n)) (by rw[yD,i3])
   (fun j v hj=>by obtain⟨dw,rfl⟩:=AG hj;rw[KbU];exact hf j dw) rz (by omega) (by rw[i4];omega)
  have il:=grownCap_ge w ys.length 0 e
  have kD:=grownCap_le_maxLen w ys.length 0 e (by rw[oF];exact hm)
  generalize grownCap w ys.length 0 e=G at cm il kD
  have uD:zv.cells.size=n:=by have:=(tk (w:=w) (X:=aK C ρ hp) i5).cells.1;omega
  obtain⟨hs,jZ⟩:=h.Aq β hB rm ⟨n,e,ys,false⟩ ((fK f (ys.length*n)).toArray++Builtin.zeroCells zv.cells (G-ys.length)) G _ (.inr rfl)
   (by simp[yD,size_zeroCells,uD,<-Nat.add_mul];congr 1;omega) il kD h0 (fun i y hy=>⟨(ik i y hy).1,(ik i y hy).2.1⟩)
   (fun i y hy j z hz=>by
    have hi:i<ys.length:=(Kae.1 hy).1
    have hj:j<n:=by have:=(Kae.1 hz).1;have:=(ik i y hy).1;omega
    obtain⟨q1,_⟩:=wY (n:=0) hi hj
    show Qp w _ z (Array.getD _ (i*n+j) undef)
    rw[kQ,if_pos (by simpa[yD]using q1)]
    have:=(ik i y hy).2.2 j z hz
    rw[wN,DK q1]
    exact this)
  refine kf (uL ho es ex cm) (cU.mq hd au bk hs (by simp) ?_ hK)
  exact⟨⟨n,e,ys,false⟩,by simp[Qi],by simp,.inr ⟨w.heap.size,G,ja _ _ _,by simp,⟨_,e,oy w.drew _,by simp[yD,size_zeroCells,uD,<-Nat.add_mul];congr 1;omega⟩,by omega⟩⟩
theorem OE{o:Oper}{s x:Operand}{t e:TypeId}{n by_:Nat}{z:PV}{px:PV}{ys:List PV}{e' d:Nat}{β m:Nat}{hb:HB}{aC:Fr}{Q:Exit->Act->World->Prop}
  (ho:o.op= .call { callee:= .builtin .append,args:= #[s,x],argTypes:= #[t,t] }) (hd:o.dst=some d) (au:d<C.N) (bk:a.defers=[]) (h:Qr C ρ fr hp a.tmps w)
  (hu:C.P.underlying t=some (.slice e)) (hz:kn C.P e=some (n,by_,z)) (hx:Qm C ρ hp w px (a.eval x)) (qq:jd hp px=some (e',ys)) (h0:0<n) (kK:z.cells.length=n) (n6:e'=n∨ys=[])
  (hs:Qm C ρ hp w (.ms β m) (a.eval s)) (rm:zI C ρ hp w β fr aC) (hB:aP β=false) (af:hp β=some hb) (na:hb.fz=false) (hbe:hb.e=n) (dv:hb.ty=e) (pk:m<=hb.xs.length)
  (KG:(m+ys.length)*by_<=140737488355328) (CK:m+ys.length<=9223372036854775807)
  (hK:K (ae aC d (.ms β (m+ys.length))) (Qi hp β ⟨n,e,hb.xs.take m++ys,false⟩)):o.wp C.P a w (cU C false w K) Q:=by
 obtain⟨hb2,g1,g2,g3⟩:=hs
 rw[af]at g1;cases g1
 have uz:(hb.xs.take m).length=m:=by simp;omega
 rw[Kbb]at g2
 rcases g3 with⟨g3,es,rfl,_⟩|⟨b,cap,g3,es,g5,g6⟩
 ·simp only[Kbb,Kcr,KaQ]at hK KG CK
  exact OD ho hd au bk h hu hz hx qq h0 kK n6 es KG CK rm hB hK
 rw[KcA]at es
 rw[Kbb]at g5 g6
 obtain⟨ti,zv,i1,i2,i3,i4,i5⟩:=tA hz
 obtain⟨ad,C9,ex,Ct⟩:=IS h hx qq h0 n6
 have bB:=h.own β hb af
 have aY:=bB.cL
 rw[g3]at aY
 obtain⟨b1,b2,cur,eK,c1,c2,c3,c4,c5⟩:=aY
 replace b1:=Ctx.vO b1 hB
 obtain⟨cur',ty',d1,d2⟩:=g5
 rw[c1]at d1;cases d1
 obtain rfl:eK=cap:=KbF bB.lg (by omega)
 subst dv
 subst hbe
 have ph:aK C ρ hp b:= .inr ⟨β,hb,af,na,g3⟩
 have z8:∀(i:Nat)(x:PV),(hb.xs.take m++ys)[i]? =some x->(i<m/\hb.xs[i]? =some x)∨(m<=i/\ys[i-m]? =some x):=by
  intro i x aV
  rw[KaZ,uz]at aV
  by_cases hi:i<m
  ·rw[if_pos hi,KaM hi]at aV;exact .inl ⟨hi,aV⟩
  ·rw[if_neg hi]at aV;exact .inr ⟨by omega,aV⟩
 by_cases oh:ys=[]
 ·subst oh
  have cm:=QT (P:=C.P) (ty:=o.type) (ad:=ad) (c:=C9) hu i1 (base:=some ⟨b,0,none⟩) (n:=m) (cap:=eK) (by omega) w
  have hr:=h.At (w':=w) β (some b) ⟨hb.e,hb.ty,hb.xs.take m++[],false⟩ hB rm (Ext.refl _ _) (fun c hc=>by cases hc;exact⟨b1,b2,.inr ⟨g3,hb,af,na⟩⟩) bB.lg
   (fun i x aV=>by
    rcases z8 i x aV with⟨_,hq⟩|⟨_,hq⟩
    ·exact bB.len i x hq
    ·simp at hq) (by simp)
   (fun c hc=>by
    cases hc
    refine⟨cur,eK,c1,c2,by simp;omega,c4,fun i x aV j y hy=> ?_⟩
    rcases z8 i x aV with⟨_,hq⟩|⟨_,hq⟩
    ·exact c5 i x hq j y hy
    ·simp at hq)
  refine kf (uL ho es ex cm) (cU.mq hd au bk hr (by simp) ?_ hK)
  exact⟨⟨hb.e,hb.ty,hb.xs.take m++[],false⟩,by simp[Qi],by simp;omega,.inr ⟨b,eK,ja _ _ _,by simp,⟨cur,hb.ty,c1,by rw[Kbb];exact c2⟩,by omega⟩⟩
 obtain⟨sb,off,f,rfl,hf,ik⟩:=Ct oh
 have rz:0<ys.length:=List.length_pos_iff.2 oh
 have z9:∀(j:Nat)(v:Value),(fK f (ys.length*hb.e))[j]? =some v->w.cell? ((⟨sb,off,none⟩:Addr).add j)=some v:=fun j v hj=>by
  obtain⟨dw,rfl⟩:=AG hj;rw[KbU];exact hf j dw
 have rD:∀u∈fK f (ys.length*hb.e),u.oneCell'=true:=by
  intro u kI
  obtain⟨k,hk⟩:=KaV kI
  obtain⟨cf,rfl⟩:=AG hk
  have hi:k/hb.e<ys.length:=(Kbc h0).2 cf
  have hj:=Kbt k h0
  obtain⟨l1,l2,l3⟩:=ik _ _ (Kag hi)
  have ru:k%hb.e<(ys[k/hb.e]'hi).cells.length:=by omega
  have:=l3 _ _ (Kag ru)
  rw[KaR,Kbl]at this
  exact this.sZ.1
 have gQ:=yD f (ys.length*hb.e)
 have K3:m*hb.e+(fK f (ys.length*hb.e)).length=(m+ys.length)*hb.e:=by rw[gQ,KaJ]
 by_cases Ae:m+ys.length<=eK
 ·have qi:m*hb.e+(fK f (ys.length*hb.e)).length<=cur.size:=by rw[K3,c2];exact Kah _ Ae
  have cm:=run_append_room (P:=C.P) w t o.type hb.ty ti hu i1 b m eK cur c1 ⟨sb,off,none⟩ ys.length C9 (fK f (ys.length*hb.e)) (by rw[gQ,i3]) z9 rD Ae (by rw[i3];exact qi)
  rw[i3]at cm
  have kd:=AB (cur:=cur) (p:=m*hb.e) (cs:=fK f (ys.length*hb.e)) qi
  have eD:=fun k hk=>AA (cur:=cur) (p:=m*hb.e) (cs:=fK f (ys.length*hb.e)) (k:=k) qi hk
  generalize hW:(cur.toList.take (m*hb.e)++fK f (ys.length*hb.e)++cur.toList.drop (m*hb.e+(fK f (ys.length*hb.e)).length)).toArray=W at cm kd eD
  have hr:=h.At (w':=w.setRow b W) β (some b) ⟨hb.e,hb.ty,hb.xs.take m++ys,false⟩ hB rm ((AF w b W).mono (fun i _ hi=>⟨hi▸g3,hb,af,na⟩))
   (fun c hc=>by cases hc;exact⟨b1,by simpa using b2,.inr ⟨g3,hb,af,na⟩⟩) bB.lg
   (fun i x aV=>by
    rcases z8 i x aV with⟨_,hq⟩|⟨_,hq⟩
    ·exact bB.len i x hq
    ·exact⟨(ik _ x hq).1,(ik _ x hq).2.1⟩) (by simp)
   (fun c hc=>by
    cases hc
    refine⟨W,eK,setRow_heap w b cur W hb.ty _ c1,by rw[kd];exact c2,by simp;omega,c4,fun i x aV j y hy=> ?_⟩
    show Qp w _ y (Array.getD W (i*hb.e+j) undef)
    rcases z8 i x aV with⟨hi,hq⟩|⟨hi,hq⟩
    ·have hj:j<hb.e:=by have:=(Kae.1 hy).1;have:=(bB.len i x hq).1;omega
     have q1:=(wY (n:=0) hi hj).1
     have q2:m*hb.e<=eK*hb.e:=Kah _ (by omega)
     rw[eD _ (by omega),if_neg (by omega)]
     exact c5 i x hq j y hy
    ·have gj:i-m<ys.length:=(Kae.1 hq).1
     have hj:j<hb.e:=by have:=(Kae.1 hy).1;have:=(ik _ x hq).1;omega
     obtain⟨q1,q2⟩:=wY (n:=m) gj hj
     rw[show m+(i-m)=i by omega]at q2
     rw[eD _ (by omega),if_pos (by omega),q2,show m*hb.e+((i-m)*hb.e+j)-m*hb.e=(i-m)*hb.e+j by omega,DK q1]
     exact(ik _ x hq).2.2 j y hy)
  refine kf (uL ho es ex cm) (cU.mq hd au bk hr (by simp) ?_ hK)
  exact⟨⟨hb.e,hb.ty,hb.xs.take m++ys,false⟩,by simp[Qi],by simp;omega,.inr ⟨b,eK,ja _ _ _,by simp,⟨W,hb.ty,setRow_heap w b cur W hb.ty _ c1,by rw[kd,Kbb];exact c2⟩,by omega⟩⟩
 ·have asE:m*hb.e<=cur.size:=by rw[c2];exact Kah _ (by omega)
  have fQ:(cur.toList.take (m*hb.e)).length=m*hb.e:=by simp;omega
  have holds:∀(j:Nat)(v:Value),(cur.toList.take (m*hb.e))[j]? =some v->w.cell? ((⟨b,0,none⟩:Addr).add j)=some v:=fun j v hj=>by
   have dw:j<m*hb.e:=by have:=(Kae.1 hj).1;omega
   rw[KaM dw]at hj
   rw[KbU,Kbb,my c1 (by omega),DJ cur j v hj]
  have cm:=run_append_grow (P:=C.P) w t o.type hb.ty ti zv hu i1 i2 ⟨b,0,none⟩ m eK (cur.toList.take (m*hb.e)) (by rw[fQ,i3]) holds ⟨sb,off,none⟩ ys.length C9 (fK f (ys.length*hb.e)) (by rw[gQ,i3]) z9
   (by omega) (by omega) (growslice_fits (by omega) (by rw[i4];exact KG))
  have il:=grownCap_ge w (m+ys.length) eK hb.ty
  have kD:=grownCap_le_maxLen w (m+ys.length) eK hb.ty (by rw[oF];exact CK)
  generalize grownCap w (m+ys.length) eK hb.ty=G at cm il kD
  have uD:zv.cells.size=hb.e:=by have:=(tk (w:=w) (X:=aK C ρ hp) i5).cells.1;omega
  have n5:((cur.toList.take (m*hb.e)).toArray++(fK f (ys.length*hb.e)).toArray++Builtin.zeroCells zv.cells (G-(m+ys.length))).size=G*hb.e:=by
   simp only[Kcg,Kb1,fQ,gQ,size_zeroCells,uD,<-Nat.add_mul]
   congr 1;omega
  obtain⟨hr,jZ⟩:=h.Aq β hB rm ⟨hb.e,hb.ty,hb.xs.take m++ys,false⟩ _ G _ (.inr rfl) n5 (by simp;omega) kD bB.lg
   (fun i x aV=>by
    rcases z8 i x aV with⟨_,hq⟩|⟨_,hq⟩
    ·exact bB.len i x hq
    ·exact⟨(ik _ x hq).1,(ik _ x hq).2.1⟩)
   (fun i x aV j y hy=>by
    show Qp w _ y (Array.getD _ (i*hb.e+j) undef)
    rcases z8 i x aV with⟨hi,hq⟩|⟨hi,hq⟩
    ·have hj:j<hb.e:=by have:=(Kae.1 hy).1;have:=(bB.len i x hq).1;omega
     have q1:=(wY (n:=0) hi hj).1
     rw[kQ,if_pos (by simp only[Kcg,Kb1,fQ];omega),kQ,if_pos (by simp only[Kb1,fQ];omega),wN,
      Kad,KaM q1]
     have:=c5 i x hq j y hy
     simpa[KaW]using this
    ·have gj:i-m<ys.length:=(Kae.1 hq).1
     have hj:j<hb.e:=by have:=(Kae.1 hy).1;have:=(ik _ x hq).1;omega
     obtain⟨q1,q2⟩:=wY (n:=m) gj hj
     rw[show m+(i-m)=i by omega]at q2
     rw[q2,kQ,if_pos (by simp only[Kcg,Kb1,fQ,gQ];omega),kQ,if_neg (by simp only[Kb1,fQ];omega),wN]
     simp only[Kb1,fQ]
     rw[show m*hb.e+((i-m)*hb.e+j)-m*hb.e=(i-m)*hb.e+j by omega,DK q1]
     exact(ik _ x hq).2.2 j y hy)
  refine kf (uL ho es ex cm) (cU.mq hd au bk hr (by simp) ?_ hK)
  exact⟨⟨hb.e,hb.ty,hb.xs.take m++ys,false⟩,by simp[Qi],by simp;omega,.inr ⟨w.heap.size,G,ja _ _ _,by simp,⟨_,hb.ty,oy w.drew _,by rw[Kbb];exact n5⟩,by omega⟩⟩
theorem aat{o:Oper}{s x:Operand}{t e:TypeId}{n by_:Nat}{z:PV}{ps px:PV}{d:Nat}{Q:Exit->Act->World->Prop}
  (ho:o.op= .call { callee:= .builtin .append,args:= #[s,x],argTypes:= #[t,t] }) (hd:o.dst=some d) (au:d<C.N) (bk:a.defers=[]) (h:Qr C ρ fr hp a.tmps w)
  (hu:C.P.underlying t=some (.slice e)) (hz:kn C.P e=some (n,by_,z)) (kK:z.cells.length=n) (hs:Qm C ρ hp w ps (a.eval s)) (hx:Qm C ρ hp w px (a.eval x))
  (aqw:jd hp px=none->zG n by_ e ps px d fr hp K->o.wp C.P a w (cU C false w K) Q) (hv:iC n by_ e ps px d fr hp K):o.wp C.P a w (cU C false w K) Q:=by
 unfold iC at hv
 split at hv
 ·exact aqw (by assumption) hv
 ·rename_i e' ys qq
  obtain⟨h0,n6,hv⟩:=hv
  cases ps with
  |al=>
   obtain⟨k1,k2,hK⟩:=hv
   exact OD (β:=d) ho hd au bk h hu hz hx qq h0 kK n6 hs.yz k1 k2 (Ef (zJ au)) (zu (zJ au)) hK
  | aB β o' m=>
   cases o' with
   |succ o'=>exact hv.elim
   |zero=>
   simp only at hv
   split at hv
   ·rename_i hb af
    rcases hv with⟨k0,k1,k2,k3,k4,k5,k6,hK⟩|⟨k0,kY,⟨_,k1,k2,k3,k4,k5,k6⟩,hK⟩
    ·exact OE ho hd au bk h hu hz hx qq h0 kK n6 hs (Ef k0) (zu k0) af k1 k2 k3 k4 k5 k6 hK
    ·exact OE ho hd au bk h hu hz hx qq h0 kK n6 hs AS kY af k1 k2 k3 k4 k5 k6 hK
   ·exact hv.elim
  |_=>exact hv.elim
theorem Wq{P:Program}{t ty e:TypeId}{n:Nat}(ht:P.underlying t=some (.slice e))(hn:dW P e=some n){base ad:Option Addr}{dl dc sl sc:Nat}(hz:Nat.min sl dl=0)(w:World):
  (Builtin.copy_ #[t,t] ty #[.slice base dl dc,.slice ad sl sc]).run P w= .ok (goInt 0) w:=by
 have hs:=lJ hn
 cases ad<;>cases base<;>simp[Builtin.copy_,run_underlying ht,hs,Builtin.lenOf,Builtin.firstCells,hz,storeCells,loadCells,loadCellsFrom]
theorem RF{P:Program}{o:Oper}{s x:Operand}{t:TypeId}(ho:o.op= .call { callee:= .builtin .copy,args:= #[s,x],argTypes:= #[t,t] }){vs vx v:Value}{w w':World}(es:a.eval s=vs)(ex:a.eval x=vx)
  (hr:(Builtin.copy_ #[t,t] o.type #[vs,vx]).run P w= .ok v w'):(execOp a.eval o).run P w= .ok (.value v) w':=by
 unfold execOp
 simp only[ho,resolve,Kaq,Ka3,Kal,invoke,builtin]
 simp[es,ex,hr]
theorem Wr{P:Program}(w:World)(t ty elem:TypeId)(g o Kg aoV n:Nat)(a:Addr)(LJ arJ:Nat)(cur:Array Value)(ty':TypeId)(cs:List Value)
  (hu:P.underlying t=some (.slice elem)) (hs:dW P elem=some n)
  (hg:w.heap[g]? =some (.cells cur ty' (0,0))) (hn:cs.length=Nat.min LJ Kg*n)
  (qq:∀j v,cs[j]? =some v->w.cell? (a.add j)=some v) (qi:o+cs.length<=cur.size) (h1:∀v∈cs,v.oneCell'=true):
  (Builtin.copy_ #[t,t] ty #[.slice (some ⟨g,o,none⟩) Kg aoV,.slice (some a) LJ arJ]).run P w=
   .ok (goInt (Nat.min LJ Kg)) (w.setRow g (cur.toList.take o++cs++cur.toList.drop (o+cs.length)).toArray):=by
 have hl:=run_loadCells_list (P:=P) w a cs qq
 have bA:=run_storeCells_at P g o ty' cs 0 cur w hg (by simpa using qi) h1
 have hz:=lJ hs
 simp[Builtin.copy_,run_underlying hu,hz,Builtin.lenOf,Builtin.firstCells,<-hn,hl,bA]
theorem aau{o:Oper}{s x:Operand}{t e:TypeId}{n:Nat}{ps px:PV}{d:Nat}{Q:Exit->Act->World->Prop}
  (ho:o.op= .call { callee:= .builtin .copy,args:= #[s,x],argTypes:= #[t,t] }) (hd:o.dst=some d) (au:d<C.N) (bk:a.defers=[]) (h:Qr C ρ fr hp a.tmps w)
  (hu:C.P.underlying t=some (.slice e)) (hn:dW C.P e=some n) (hs:Qm C ρ hp w ps (a.eval s)) (hx:Qm C ρ hp w px (a.eval x))
  (hv:qL n ps px d fr hp K):o.wp C.P a w (cU C false w K) Q:=by
 unfold qL at hv
 split at hv
 ·rename_i e' ys β m qq
  split at hv
  ·rename_i hb af
   obtain⟨k0,k1,k2,k3,k4,hK⟩:=hv
   obtain⟨hb2,g1,g2,g3⟩:=hs
   rw[af]at g1;cases g1
   obtain⟨ad,C9,ex,Ct⟩:=IS (e:=n) h hx qq k0 k3
   have bB:=h.own β hb af
   have zero:Nat.min ys.length m=0->o.wp C.P a w (cU C false w K) Q:=by
    intro h0
    have cm:∀base cap,a.eval s= .slice base m cap->(execOp a.eval o).run C.P w= .ok (.value (goInt 0)) w:=fun base cap es=>
     RF ho es ex (Wq (P:=C.P) (ty:=o.type) hu hn h0 w)
    have e2:({ hb with xs:=ys.take m++hb.xs.drop ys.length }:HB)=hb:=by
     have:ys.take m++hb.xs.drop ys.length=hb.xs:=by
      rcases Nat.min_eq_zero_iff.1 h0 with hq|hq
      ·have:ys=[]:=KbZ hq
       subst this;simp
      ·have:hb.xs=[]:=KbZ (by omega)
       subst hq;simp[this]
     rw[this]
    have e3:Qi hp β hb=hp:=by
     funext γ;unfold Qi;split
     ·rename_i he;rw[he,af]
     ·rfl
    rw[e2,e3,show(min (ys.length:Int) (m:Int))=0 by have:min ys.length m=0:=h0;omega]at hK
    obtain⟨ad',eK,es⟩:=Qm.Ly (C:=C) (ρ:=ρ) (hp:=hp) (w:=w) ⟨hb,af,g2,g3⟩
    exact kf (cm _ _ es) (cU.mq hd au bk h (by simp) (Qm.mkInt _ _) hK)
   by_cases Gw:Nat.min ys.length m=0
   ·exact zero Gw
   rcases g3 with⟨g3,es,xX,_⟩|⟨b,cap,g3,es,g5,g6⟩
   ·exact(Gw (by rw[xX];simp)).elim
   rw[KcA]at es
   have oh:ys≠[]:=by rintro rfl;exact Gw (by simp)
   obtain⟨sb,off,f,rfl,hf,ik⟩:=Ct oh
   have aY:=bB.cL
   rw[g3]at aY
   obtain⟨b1,b2,cur,eK,c1,c2,c3,c4,c5⟩:=aY
   obtain⟨k,hk⟩:∃k,k=min ys.length m:=⟨_,rfl⟩
   have gQ:=yD f (k*n)
   have xS:k*n<=ys.length*n:=Kah _ (by omega)
   have rD:∀u∈fK f (k*n),u.oneCell'=true:=by
    intro u kI
    obtain⟨q,hq⟩:=KaV kI
    obtain⟨js,rfl⟩:=AG hq
    have hi:q/n<ys.length:=(Kbc k0).2 (by omega)
    have hj:=Kbt q k0
    obtain⟨l1,l2,l3⟩:=ik _ _ (Kag hi)
    have ru:q%n<(ys[q/n]'hi).cells.length:=by omega
    have:=l3 _ _ (Kag ru)
    rw[KaR,Kbl]at this
    exact this.sZ.1
   have hkc:k*n<=eK*n:=Kah _ (by omega)
   have qi:0+(fK f (k*n)).length<=cur.size:=by rw[gQ,c2,k2];omega
   have cm:=Wr (P:=C.P) w t o.type e b 0 m cap n ⟨sb,off,none⟩ ys.length C9 cur hb.ty (fK f (k*n)) hu hn c1 (by rw[gQ,hk])
    (fun j v hj=>by obtain⟨dw,rfl⟩:=AG hj;rw[KbU];exact hf j (by omega)) qi rD
   have kd:=AB (cur:=cur) (p:=0) (cs:=fK f (k*n)) qi
   have eD:=fun q hq=>AA (cur:=cur) (p:=0) (cs:=fK f (k*n)) (k:=q) qi hq
   generalize hW:(cur.toList.take 0++fK f (k*n)++cur.toList.drop (0+(fK f (k*n)).length)).toArray=W at cm kd eD
   have dN:(ys.take m++hb.xs.drop ys.length).length=hb.xs.length:=by simp;omega
   have eL:∀(i:Nat)(x:PV),(ys.take m++hb.xs.drop ys.length)[i]? =some x->(i<k/\ys[i]? =some x)∨(k<=i/\hb.xs[i]? =some x):=by
    intro i x aV
    rw[KaZ]at aV
    have ht:(ys.take m).length=k:=by simp;omega
    rw[ht]at aV
    by_cases hi:i<k
    ·rw[if_pos hi,KaM (by omega)]at aV;exact .inl ⟨hi,aV⟩
    ·rw[if_neg hi,Ka9]at aV
     refine .inr ⟨by omega,?_⟩
     have iV:ys.length+(i-k)<hb.xs.length:=(Kae.1 aV).1
     rwa[show ys.length+(i-k)=i by omega]at aV
   have bA:=h.store β b hb { hb with xs:=ys.take m++hb.xs.drop ys.length } af k1 (by intro e;rw[e]at k4;simp at k4;exact Gw (by simp[k4])) g3 (AF w b W) rfl dN k1
    (fun i x aV=>by
     rcases eL i x aV with⟨_,hq⟩|⟨_,hq⟩
     ·exact⟨by rw[(ik _ x hq).1];exact k2.symm,(ik _ x hq).2.1⟩
     ·exact bB.len i x hq)
    (fun e' B4 dH=>by
     obtain⟨cur',ty',d1,d2⟩:=dH
     rw[c1]at d1;cases d1
     exact⟨_,_,setRow_heap w b cur _ hb.ty _ c1,by rw[kd];exact d2⟩)
    ⟨W,eK,setRow_heap w b cur W hb.ty _ c1,by rw[kd];exact c2,by rw[dN];exact c3,c4,fun i x aV j y hy=>by
     show Qp w _ y (Array.getD W (i*hb.e+j) undef)
     rcases eL i x aV with⟨hi,hq⟩|⟨hi,hq⟩
     ·have hj:j<n:=by have:=(Kae.1 hy).1;have:=(ik _ x hq).1;omega
      have q1:=(wY (n:=0) hi hj).1
      rw[k2,eD _ (by rw[c2,k2];omega),if_pos (by omega),Kcm,DK q1]
      exact(ik _ x hq).2.2 j y hy
     ·have iV:i<hb.xs.length:=(Kae.1 hq).1
      have hj:j<hb.e:=by have:=(Kae.1 hy).1;have:=(bB.len i x hq).1;omega
      have:=c5 i x hq j y hy
      have q2:k*n<=i*n:=Kah _ hi
      have q3:=(wY (n:=0) (show i<eK by omega) (show j<n by omega)).1
      rw[eD _ (by rw[c2,k2];omega),if_neg (by rw[k2];omega)]
      exact this⟩
   rw[show(min (ys.length:Int) (m:Int))=((Nat.min ys.length m:Nat):Int)by have:Nat.min ys.length m=min ys.length m:=rfl;omega]at hK
   exact kf (RF ho es ex cm) (cU.mq hd au bk bA (by simp) (Qm.mkInt _ _) hK)
  ·exact hv.elim
 ·exact hv.elim
theorem Zt{o:Oper}{t:TypeId}{parts:Array (Nat×Operand)}{z:PV}{n by_:Nat}{ps:List (Nat×Nat×aS)}{d:Nat}(ho:o.op= .build t parts)(hd:o.dst=some d)(au:d<C.N)(h:Qr C ρ fr hp a.tmps w)
  (hz:kn C.P t=some (n,by_,z)) (eO:BI C.P t parts.toList=some ps)
  (hv:uZ z.cells.length (ps.map fun p=>(p.1,p.2.1,ev fr p.2.2))/\K (ae fr d (.bm (iP z.cells ((ps.map fun p=>(p.1,p.2.1,ev fr p.2.2)).map fun p=>(p.1,(eU p.2.2).getD []))))) hp):bP C ρ o a w K:=by
 obtain⟨cb,hK⟩:=hv
 obtain⟨ti,zv,i1,i2,i3,i4,i5⟩:=tA hz
 have Lu:qJ (cW C ρ hp w) z.cells zv.cells:=by
  have h0:Rows w (aK C ρ hp) z.cells zv.cells:=(tk i5).rows
  exact⟨h0.1,fun i x hx=>cW.VU (h0.2 i x hx)⟩
 have kE:(parts.map fun(x:Nat×Operand)=>(x.1,a.eval x.2)).toList=parts.toList.map fun x=>(x.1,a.eval x.2):=by simp
 have key:∀(f:Nat×Operand->Option (Nat×Nat×aS))(place:Nat->Option (Nat×Nat)),parts.toList.mapM f=some ps->(∀x q,f x=some q->place x.1=some (q.1,q.2.1)/\b5 x.2=some q.2.2)->
   ∃eF,Instr.fill place zv.cells (parts.map fun(x:Nat×Operand)=>(x.1,a.eval x.2)).toList=some eF/\
    qJ (cW C ρ hp w) (iP z.cells ((ps.map fun p=>(p.1,p.2.1,ev fr p.2.2)).map fun p=>(p.1,(eU p.2.2).getD []))) eF:=by
  intro f place hm hf
  rw[kE]
  refine DV place _ _ _ _ Lu (by simp[(oE hm).1]) (fun i p q sP wm=> ?_)
  simp only[KbE,Kav,Kaa]at wm
  obtain⟨q0,gu,rfl⟩:=wm
  obtain⟨x,hx,pj,rfl⟩:=L3 hm sP gu
  obtain⟨f1,f2⟩:=hf x q0 pj
  obtain⟨cs,o1,o2,o3⟩:=cb (q0.1,q0.2.1,ev fr q0.2.2) (Kau.2 ⟨q0,Kaj gu,rfl⟩)
  simp only[Function.comp]at o1 o2 o3⊢
  simp only[o1,Kbe]
  obtain⟨r1,r2,_⟩:=OC (cO h f2) o1
  exact⟨by rw[o2];exact f1,⟨r1,r2⟩,by rw[o2];exact o3⟩
 have fin:∀eF,(∀w',(Instr.build t (parts.map fun(x:Nat×Operand)=>(x.1,a.eval x.2))).run C.P w'= .ok (.agg eF) w')->
   qJ (cW C ρ hp w) (iP z.cells ((ps.map fun p=>(p.1,p.2.1,ev fr p.2.2)).map fun p=>(p.1,(eU p.2.2).getD []))) eF->bP C ρ o a w K:=by
  intro eF cm hr
  refine⟨.agg eF,fun w'=> ?_,_,_,by rw[hd];exact h.ae (p:= .bm _) ⟨eF,rfl,hr.1,hr.2⟩ au,hK⟩
  unfold execOp
  simp only[ho,Kaq]
  have:=cm w'
  rw[show(parts.map fun(x:Nat×Operand)=>(x.1,a.eval x.2))=(parts.map fun x=>match x with|(i,x)=>(i,a.eval x))from rfl]at this
  rw[this]
  rfl
 unfold BI at eO
 split at eO
 ·rename_i fs hu
  simp only[Kab]at eO
  obtain⟨pl,bx,hm⟩:=eO
  obtain⟨eF,g1,g2⟩:=key _ (fun i=>pl[i]?) hm (fun x q hq=>by
   simp only[Kab,Kaa]at hq
   obtain⟨r,hr,y,hy,rfl⟩:=hq
   exact⟨by simpa using hr,hy⟩)
  refine fin eF (fun w'=> ?_) g2
  unfold Instr.build
  have ka:=run_places (P:=C.P) w' fs.toList pl bx
  simp[Kaq,wJ i1 i2,jz hu,KbW,ka]at g1⊢
  simp[g1]
 ·rename_i len e hu
  simp only[Kab]at eO
  obtain⟨m,xX,hm⟩:=eO
  obtain⟨eF,g1,g2⟩:=key _ (fun i=>some (i*m,m)) hm (fun x q hq=>by
   simp only[Kaa]at hq
   obtain⟨y,hy,rfl⟩:=hq
   exact⟨rfl,hy⟩)
  refine fin eF (fun w'=> ?_) g2
  unfold Instr.build
  simp only[Kaq,wJ i1 i2,jz hu,lJ xX,Kal,g1,Ka3]
 ·simp at eO
end Go.FW
namespace Go.FW
open Go
variable {C : Ctx} {ρ : Nat -> Option Nat} {fr : Fr} {hp : HP} {tmps : Array Value} {w : World} {a : Act} {K : Qh}
theorem Im{x:PV}(h:lK x=true):∃β n,x= .aB β 0 n/\5000000<=β:=by
 unfold lK at h
 split at h
 ·exact⟨_,_,rfl,by simpa using h⟩
 ·cases h
theorem aav{γ:Nat}:gU γ (fJ γ fr)=fJ γ fr:=by
 funext i
 unfold gU fJ
 generalize fr i=p
 cases p with
 |aF bo e ty xs=>
  simp only[cT]
  split
  ·rfl
  ·rename_i aH;simp[gT,aH]
 |aG bo o n=>simp only[cT];split<;>rfl
 |np bo o n=>simp only[cT];split<;>rfl
 |fn f first cap=>
  simp only[cT]
  split
  ·rfl
  ·unfold cd;split<;>rfl
 |bm cs=>rfl
 |_=>simp only[cT,cd];split<;>rfl
theorem yV{γ β o n:Nat}{b':Option Nat}{aw:HB}{w':World}{v:Value}(h:Qr C ρ fr hp tmps w)(hx:Ext (fun b=>ρ γ=some b/\∃hb,hp γ=some hb/\hb.fz=false) w w')(aH:β≠γ)
  (hr:eH ρ hp w β o n v):eH (rb ρ γ b') (Qi hp γ aw) w' β o n v:=
 eH.move hr ⟨se aH,fun hb af=>⟨hb,by simp[Qi,aH,af],rfl,Kaf _,fun b cap h1 h2=>
  mA (hx.block b (mC h2) (fun⟨e1,cI,e2,_⟩=>aH (h.inj β γ b (by simp[af]) (by simp[e2]) h1 e1))) h2⟩⟩
theorem eH.slice{β o n:Nat}{v:Value}(h:eH ρ hp w β o n v):∃ad m c,v= .slice ad m c:=by
 obtain⟨_,_,_,⟨_,e,_⟩|⟨_,_,_,e,_⟩⟩:=h
 ·exact⟨_,_,_,e⟩
 ·exact⟨_,_,_,e⟩
theorem Hl{β:Nat}(h:1000000<=β):bE β=true:=by simp[bE];omega
theorem OF{β:Nat}(h:2000000<=β):aP β=false:=by simp[aP];omega
theorem Qr.G2{γ b ty cap:Nat}{cur:Array Value}{xs:List PV}(h:Qr C ρ (fJ γ fr) hp tmps w)(hB:bE γ=true)(aj:hp γ=some ⟨1,ty,[],false⟩)(bD:ρ γ=some b)
  (h1:w.heap[b]? =some (.cells cur ty (0,0))) (h2:cur.size=cap) (h3:xs.length<=cap) (h4:cap<=maxLen) (hr:xs.all lK=true)
  (h6:∀(i β n:Nat),xs[i]? =some (.aB β 0 n)->eH ρ hp w β 0 n (cur.getD i undef)):Qr C ρ (FW.ae (fJ γ fr) γ (.aF γ 1 ty xs)) hp tmps w:=by
 have fU:∀(i:Nat)(x:PV),xs[i]? =some x->∃β n,x= .aB β 0 n/\5000000<=β:=fun i x hx=>Im (Kas.1 hr _ (Kaj hx))
 have:=h.VQ (w':=w) (γ:=γ) (b:=b) (e:=1) (ty:=ty) (xs':=xs) (cur':=cur) (cap:=cap) hB (by omega) aj rfl rfl rfl rfl bD (Ext.refl _ _) (fun _ _ h=>h) h1 (by omega) h3 h4
  (fun i x hx=>by obtain⟨β,n,rfl,_⟩:=fU i x hx;rfl)
  (fun i x hx j y hy=>by
   obtain⟨β,n,rfl,af⟩:=fU i x hx
   rw[show(PV.aB β 0 n).aU=[.aB β 0 n]from rfl]at hy
   have hj:j<1:=by have:=(Kae.1 hy).1;simpa using this
   obtain rfl:j=0:=by omega
   simp at hy
   subst hy
   rw[KbG,KaX]
   exact⟨Hl (by omega),h6 i β n hx⟩)
 rwa[aav]at this
theorem Fz{γ k cap:Nat}{ρ':Nat->Option Nat}{hp':HP}{b ty:Nat}{cur:Array Value}(hB:bE γ=true)(h1:hp' γ=some ⟨1,ty,[],false⟩)(h2:ρ' γ=some b)(h3:w.heap[b]? =some (.cells cur ty (0,0)))(h4:cur.size=cap)(h5:cap<=maxLen)(h6:k<=cap):
  Qm C ρ' hp' w (.aG γ 0 k) (.slice (some ⟨b,0,none⟩) k cap):=
 ⟨hB,⟨1,ty,[],false⟩,b,cap,h1,h2,by simp,⟨cur,ty,h3,by simp[h4]⟩,by omega,h6⟩
theorem aaW{o:Oper}{t e:TypeId}{len n by_:Nat}{z:PV}{parts:Array (Nat×Operand)}{ps:List aS}{d:Nat}{Q:Exit->Act->World->Prop}(ho:o.op= .buildSlice t len parts)(hd:o.dst=some d)(au:d<C.N)(bk:a.defers=[])(h:Qr C ρ fr hp a.tmps w)
  (hu:C.P.underlying t=some (.slice e)) (hz:kn C.P e=some (n,by_,z)) (uv:parts.toList.map (·.1)=List.range len) (kK:z.cells.length=n) (eO:(parts.toList.mapM fun p=>b5 p.2)=some ps)
  (UC:nO (ps.map (ev fr))=true) (hv:Tu n e (ps.map (ev fr)) d fr hp K):o.wp C.P a w (cU C true w K) Q:=by
 obtain⟨rfl,hK⟩:=hv
 obtain⟨ti,zv,i1,i2,i3,i4,i5⟩:=tA hz
 obtain⟨m1,m2⟩:=oE eO
 obtain⟨u,rfl⟩:∃u,ps=[u]:=by
  match ps,UC with
  | [],hb=>simp[nO]at hb
  | [u],_=>exact⟨u,rfl⟩
  |u::v::ps,hb=>simp[nO]at hb
 have fU:lK (ev fr u)=true:=by simpa[nO]using UC
 obtain⟨β,m,kE,af⟩:=Im fU
 obtain⟨⟨i,x⟩,yc⟩:∃p,parts.toList=[p]:=by
  match hq:parts.toList with
  | []=>rw[hq]at m1;simp at m1
  | [p]=>exact⟨p,rfl⟩
  |p::q::r=>rw[hq]at m1;simp at m1
 rw[yc]at uv m2
 obtain rfl:len=1:=by have:=congrArg List.length uv;simpa using this.symm
 obtain rfl:i=0:=by simpa using uv
 have hxu:b5 x=some u:=by
  obtain⟨x',aV,K7⟩:=m2 0 u rfl
  simp at aV;subst aV;exact K7
 have hx:=cO h hxu
 rw[kE]at hx
 have wo:eH ρ hp w β 0 m (a.eval x):=hx
 obtain⟨ad,m',c',hvx⟩:=wo.slice
 have hN:=C.hN
 have rk:iu d<5000000:=by unfold iu;omega
 have hB:bE (iu d)=true:=Hl (by unfold iu;omega)
 have hY:aP (iu d)=false:=OF (by unfold iu;omega)
 obtain⟨hs,he⟩:=h.Aq (iu d) hY AS ⟨1,e,[],false⟩ #[a.eval x] 1 _ (.inl rfl) (by simp) (by simp) (by rw[oF];omega) (by simp) (by simp) (by simp)
 have cR:=hs.G2 (cur:= #[a.eval x]) (cap:=1) (xs:=[.aB β 0 m]) hB (by simp[Qi]) (ja _ _ _) (oy w _) (by simp) (by simp) (by rw[oF];omega) (by simp[lK,af]) (fun i bn n' hi=>by
  match i,hi with
  |0,hi=>
   simp at hi
   obtain⟨rfl,rfl⟩:=hi
   exact yV h (Ext.alloc w _ _) (by omega) wo
  |i+1,hi=>simp at hi)
 rw[Kbd,Kbw,kE]at hK
 refine kf (v:= .slice (some ⟨w.heap.size,0,none⟩) 1 1) ?_ (cU.mq hd au bk cR (fun _=>he) (Fz hB (by simp[Qi]) (ja _ _ _) (oy w _) (by simp) (by rw[oF];omega) (by omega)) hK)
 unfold execOp
 have CO:(parts.map fun x=>match x with|(i,x)=>(i,a.eval x)).toList=[(0,a.eval x)]:=by simp[yc]
 simp only[ho,Instr.buildSlice,Kaq,jz hu,Kal,lJ (show dW C.P e=some 1 by simp[dW,i1,i3]),CO]
 simp[Ka3,Kaq,wJ i1 i2,Instr.fill,hvx,Value.cells,newRow,show Array.range 1= #[0]from rfl]
theorem Zv {o:Oper} {s x:Operand} {t e:TypeId} {n by_:Nat} {z:PV} {ps px:PV} {d:Nat} {Q:Exit->Act->World->Prop}
  (ho:o.op= .call { callee:= .builtin .append,args:= #[s,x],argTypes:= #[t,t] }) (hd:o.dst=some d) (au:d<C.N) (bk:a.defers=[]) (h:Qr C ρ fr hp a.tmps w)
  (hu:C.P.underlying t=some (.slice e)) (hz:kn C.P e=some (n,by_,z)) (kK:z.cells.length=n) (hs:Qm C ρ hp w ps (a.eval s)) (hx:Qm C ρ hp w px (a.eval x))
  (hv:zG n by_ e ps px d fr hp K):o.wp C.P a w (cU C false w K) Q:=by
 obtain⟨ti,zv,i1,i2,i3,i4,i5⟩:=tA hz
 have hN:=C.hN
 have rk:iu d<5000000:=by unfold iu;omega
 have Ua:bE (iu d)=true:=Hl (by unfold iu;omega)
 have hYd:aP (iu d)=false:=OF (by unfold iu;omega)
 unfold zG at hv
 split at hv
 ·rename_i δ
  split at hv
  ·rename_i LM ty' y ap5
   obtain⟨rfl,hyr,rfl,hv⟩:=hv
   obtain⟨β,m,rfl,af⟩:=Im hyr
   obtain⟨_,asc,b,cap,gδ,rδ,ex,_,_,_⟩:=hx
   have Cw:=h.cS LM
   rw[ap5]at Cw
   obtain⟨_,_,b2,hb2,cur,B4,q1,q2,q3,q4,q5,q6,q7,q8,q9,_,yA⟩:=Cw
   rw[gδ]at q2;cases q2
   rw[rδ]at q1;cases q1
   rw[KcA]at ex
   have dD:=yA 0 _ rfl 0 (.aB β 0 m) rfl
   simp only[KcA,Kbb]at dD
   have wo:eH ρ hp w β 0 m (cur.getD 0 undef):=dD.2
   obtain⟨ad,m',c',Gj⟩:=wo.slice
   have h0s:0<cur.size:=by simp at q8;omega
   have pe:w.cell? ⟨b,0,none⟩=some (cur.getD 0 undef):=my q6 h0s
   obtain⟨u,VA⟩:∃u,cur.getD 0 undef=u:=⟨_,rfl⟩
   rw[VA]at wo Gj pe
   have z9:∀(j:Nat)(v:Value),[u][j]? =some v->w.cell? ((⟨b,0,none⟩:Addr).add j)=some v:=fun j v hj=>by
    have hj0:j<1:=by have:=(Kae.1 hj).1;simpa using this
    obtain rfl:j=0:=by omega
    simp at hj;subst hj
    rw[KbU,KaX];exact pe
   have uD:zv.cells.size=1:=by have:=(tk (w:=w) (X:=aK C ρ hp) i5).cells.1;omega
   split at hv
   ·obtain⟨hb,hK⟩:=hv
    have es:=hs.yz
    have cm:=run_append_nil (P:=C.P) w t o.type e ti zv hu i1 i2 ⟨b,0,none⟩ 1 cap [u] (by simp[i3]) z9 (by omega) (by omega) (by rw[i4];omega)
    have il:=grownCap_ge w 1 0 e
    have kD:=grownCap_le_maxLen w 1 0 e (by rw[oF];omega)
    generalize grownCap w 1 0 e=G at cm il kD
    have n5:([u].toArray++Builtin.zeroCells zv.cells (G-1)).size=G:=by simp[size_zeroCells,uD];omega
    have apH:([u].toArray++Builtin.zeroCells zv.cells (G-1)).size=G*1:=by omega
    have qk:([u].toArray++Builtin.zeroCells zv.cells (G-1)).getD 0 undef=u:=by rw[kQ,if_pos (by simp),wN];rfl
    obtain⟨eT,_⟩:=h.Aq (iu d) hYd AS ⟨1,e,[],false⟩ ([u].toArray++Builtin.zeroCells zv.cells (G-1)) G _ (.inr rfl) apH (by simp) kD (by simp) (by simp) (by simp)
    have cR:=eT.G2 (cap:=G) (xs:=[.aB β 0 m]) Ua (by simp[Qi]) (ja _ _ _) (oy w.drew _) n5 (by simpa using il) kD (by simp[lK,af]) (fun i bn n' hi=>by
     match i,hi with
     |0,hi=>
      simp at hi
      obtain⟨rfl,rfl⟩:=hi
      rw[qk]
      exact yV h ((Ext.drew w _).trans (Ext.alloc w.drew _ _)) (by omega) wo
     |i+1,hi=>simp at hi)
    exact kf (uL ho es ex cm) (cU.mq hd au bk cR (by simp) (Fz Ua (by simp[Qi]) (ja _ _ _) (oy w.drew _) n5 kD il) hK)
   ·rename_i γ k
    split at hv
    ·rename_i bo ty2 xs ap4
     obtain⟨⟨rfl,as2,hY,rfl,rfl,pC,hby,CK⟩,⟨hb,aj,na⟩,hK⟩:=hv
     obtain⟨hB,KF,b1,FO,g1,g2,es,g4,g5,g6⟩:=hs
     rw[aj]at g1;cases g1
     have Cw:=h.cS bo
     rw[ap4]at Cw
     obtain⟨_,_,b1',aw,lW,tX,p1,p2,p3,p4,p5,p6,p7,p8,p9,_,p11⟩:=Cw
     rw[aj]at p2;cases p2
     rw[g2]at p1;cases p1
     rw[KcA]at es
     obtain⟨arV,as5,d1,d2⟩:=g4
     rw[p6]at d1;cases d1
     rw[p4,KbG,Kbb]at d2
     rw[KbG]at p7
     obtain rfl:tX=FO:=by omega
     have Vo:∀(i bn n':Nat),xs[i]? =some (.aB bn 0 n')->eH ρ hp w bn 0 n' (lW.getD i undef):=fun i bn n' hi=>by
      have:=p11 i _ hi 0 (.aB bn 0 n') rfl
      simp only[KbG,KaX]at this
      exact this.2
     have Vp:∀(i bn n':Nat),xs[i]? =some (.aB bn 0 n')->bn≠bo:=fun i bn n' hi=>by
      have:=Kas.1 pC _ (Kaj hi)
      simp[lK]at this;omega
     have cH:(xs++[PV.aB β 0 m]).all lK=true:=by rw[List.all_append,pC];simp[lK,af]
     have bB:=(h.own bo hb aj).cL
     rw[g2]at bB
     obtain⟨o1,o2,_⟩:=bB
     replace o1:=Ctx.vO o1 hY
     have rD:∀u'∈[u],u'.oneCell'=true:=by
      intro u' kI
      simp at kI;subst kI
      rw[Gj];rfl
     by_cases Ae:xs.length+1<=tX
     ·have cm:=run_append_room (P:=C.P) w t o.type ty2 ti hu i1 b1 xs.length tX lW p6 ⟨b,0,none⟩ 1 cap [u] (by simp[i3]) z9 rD Ae (by simp[i3];omega)
      rw[i3,KbG]at cm
      have qi:xs.length+[u].length<=lW.size:=by simp;omega
      have kd:=AB (cur:=lW) (p:=xs.length) (cs:=[u]) qi
      have eD:=fun k hk=>AA (cur:=lW) (p:=xs.length) (cs:=[u]) (k:=k) qi hk
      generalize hW:(lW.toList.take xs.length++[u]++lW.toList.drop (xs.length+[u].length)).toArray=W at cm kd eD
      have hE:Ext (fun c=>ρ bo=some c/\∃hb,hp bo=some hb/\hb.fz=false) w (w.setRow b1 W):=(AF w b1 W).mono (fun i _ hi=>⟨hi▸g2,hb,aj,na⟩)
      have KV:(w.setRow b1 W).heap[b1]? =some (.cells W ty2 (0,0)):=setRow_heap w b1 lW W ty2 _ p6
      have eT:=h.At (w':=w.setRow b1 W) bo (some b1) ⟨1,ty2,[],false⟩ hY AS hE
       (fun c hc=>by cases hc;exact⟨o1,by simpa using o2,.inr ⟨g2,hb,aj,na⟩⟩) (by simp) (by simp) (by simp)
       (fun c hc=>by cases hc;exact⟨W,tX,KV,by simp[kd];omega,by simp,p9,by simp⟩)
      have cR:=eT.G2 (cap:=tX) (xs:=xs++[.aB β 0 m]) hB (by simp[Qi]) (ja _ _ _) KV (by omega) (by simpa using Ae) p9 cH (fun i bn n' hi=>by
       rw[KaZ]at hi
       by_cases iV:i<xs.length
       ·rw[if_pos iV]at hi
        rw[eD i (by omega),if_neg (by omega)]
        exact yV h hE (Vp i bn n' hi) (Vo i bn n' hi)
       ·rw[if_neg iV]at hi
        have sL:i-xs.length<1:=by have:=(Kae.1 hi).1;simpa using this
        obtain rfl:i=xs.length:=by omega
        rw[KbD]at hi
        simp at hi
        obtain⟨rfl,rfl⟩:=hi
        rw[eD _ (by omega),if_pos (by simp),KbD]
        exact yV h hE (by omega) wo)
      exact kf (uL ho es ex cm) (cU.mq hd au bk cR (by simp) (Fz hB (by simp[Qi]) (ja _ _ _) KV (by omega) p9 Ae) hK)
     ·have fQ:(lW.toList.take xs.length).length=xs.length:=by simp;omega
      have holds:∀(j:Nat)(v:Value),(lW.toList.take xs.length)[j]? =some v->w.cell? ((⟨b1,0,none⟩:Addr).add j)=some v:=fun j v hj=>by
       have dw:j<xs.length:=by have:=(Kae.1 hj).1;omega
       rw[KaM dw]at hj
       rw[KbU,Kbb,my p6 (by omega),DJ lW j v hj]
      have cm:=run_append_grow (P:=C.P) w t o.type ty2 ti zv hu i1 i2 ⟨b1,0,none⟩ xs.length tX (lW.toList.take xs.length) (by rw[fQ,i3,KbG]) holds ⟨b,0,none⟩ 1 cap [u] (by simp[i3]) z9
       (by omega) (by omega) (growslice_fits (by omega) (by rw[i4];exact hby))
      have il:=grownCap_ge w (xs.length+1) tX ty2
      have kD:=grownCap_le_maxLen w (xs.length+1) tX ty2 (by rw[oF];exact CK)
      generalize grownCap w (xs.length+1) tX ty2=G at cm il kD
      have n5:((lW.toList.take xs.length).toArray++[u].toArray++Builtin.zeroCells zv.cells (G-(xs.length+1))).size=G:=by
       simp only[Kcg,Kb1,fQ,size_zeroCells,uD,KaP,Kbn];omega
      have ql:∀i,i<xs.length+1->((lW.toList.take xs.length).toArray++[u].toArray++Builtin.zeroCells zv.cells (G-(xs.length+1))).getD i undef=if i<xs.length then lW.getD i undef else u:=fun i hi=>by
       rw[kQ,if_pos (by simp only[Kcg,Kb1,fQ,KaP,Kbn];omega),kQ,Kb1,fQ]
       by_cases iV:i<xs.length
       ·rw[if_pos iV,if_pos iV,wN,Kad,KaM iV]
        simp[KaW]
       ·rw[if_neg iV,if_neg iV,wN,show i-xs.length=0 by omega];rfl
      generalize hW:(lW.toList.take xs.length).toArray++[u].toArray++Builtin.zeroCells zv.cells (G-(xs.length+1))=W at cm n5 ql
      obtain⟨eT,_⟩:=h.Aq bo hY AS ⟨1,ty2,[],false⟩ W G _ (.inr rfl) (by simp[n5]) (by simp) kD (by simp) (by simp) (by simp)
      have hE:Ext (fun c=>ρ bo=some c/\∃hb,hp bo=some hb/\hb.fz=false) w (w.drew.alloc (.cells W ty2)):=(Ext.drew w _).trans (Ext.alloc w.drew _ _)
      have cR:=eT.G2 (cap:=G) (xs:=xs++[.aB β 0 m]) hB (by simp[Qi]) (ja _ _ _) (oy w.drew _) n5 (by simpa using il) kD cH (fun i bn n' hi=>by
       rw[KaZ]at hi
       by_cases iV:i<xs.length
       ·rw[if_pos iV]at hi
        rw[ql i (by omega),if_pos iV]
        exact yV h hE (Vp i bn n' hi) (Vo i bn n' hi)
       ·rw[if_neg iV]at hi
        have sL:i-xs.length<1:=by have:=(Kae.1 hi).1;simpa using this
        obtain rfl:i=xs.length:=by omega
        rw[KbD]at hi
        simp at hi
        obtain⟨rfl,rfl⟩:=hi
        rw[ql _ (by omega),if_neg (by omega)]
        exact yV h hE (by omega) wo)
      exact kf (uL ho es ex cm) (cU.mq hd au bk cR (by simp) (Fz hB (by simp[Qi]) (ja _ _ _) (oy w.drew _) n5 kD il) hK)
    ·exact hv.elim
   ·exact hv.elim
  ·exact hv.elim
 ·exact hv.elim
theorem aaX{o:Oper}{t e:TypeId}{len n by_:Nat}{z:PV}{parts:Array (Nat×Operand)}{ps:List aS}{d:Nat}{Q:Exit->Act->World->Prop}(ho:o.op= .buildSlice t len parts)(hd:o.dst=some d)(au:d<C.N)(bk:a.defers=[])(h:Qr C ρ fr hp a.tmps w)
  (hu:C.P.underlying t=some (.slice e)) (hz:kn C.P e=some (n,by_,z)) (uv:parts.toList.map (·.1)=List.range len) (Vv:len*n<=16777216) (kK:z.cells.length=n) (eO:(parts.toList.mapM fun p=>b5 p.2)=some ps)
  (hv:lV n e (ps.map (ev fr)) d fr hp K):o.wp C.P a w (cU C true w K) Q:=by
 unfold lV at hv
 split at hv
 ·rename_i hb;exact aaW ho hd au bk h hu hz uv kK eO hb hv
 ·exact acd ho hd au bk h hu hz uv Vv kK eO hv
theorem Zw{o:Oper}{s x:Operand}{t e:TypeId}{n by_:Nat}{z:PV}{ps px:PV}{d:Nat}{Q:Exit->Act->World->Prop}
  (ho:o.op= .call { callee:= .builtin .append,args:= #[s,x],argTypes:= #[t,t] }) (hd:o.dst=some d) (au:d<C.N) (bk:a.defers=[]) (h:Qr C ρ fr hp a.tmps w)
  (hu:C.P.underlying t=some (.slice e)) (hz:kn C.P e=some (n,by_,z)) (kK:z.cells.length=n) (hs:Qm C ρ hp w ps (a.eval s)) (hx:Qm C ρ hp w px (a.eval x))
  (hv:iC n by_ e ps px d fr hp K):o.wp C.P a w (cU C false w K) Q:=
 aat ho hd au bk h hu hz kK hs hx (fun _ hn=>Zv ho hd au bk h hu hz kK hs hx hn) hv
end Go.FW
namespace Go.FW
open Go
variable {C : Ctx} {ρ : Nat -> Option Nat} {fr : Fr} {hp : HP} {w : World} {a : Act} {K : Qh}
theorem WG {P : Program} {g : FuncId} (hg : (P.funcs[g]?).any (fun fn => fn.body.isSome && fn.name != "runtime.NumGoroutine") = true) (args : Array Value) (w : World) :
  (callFunc g args).run P w= .ok (.enter g args) w:=by
 cases hf:P.funcs[g]? with
 |none=>simp[hf]at hg
 |some fn=>
  simp only[hf,Option.any_some,Kar,bne_iff_ne,ne_eq]at hg
  obtain⟨h1,h2⟩:=hg
  have h3:fn.body.isNone=false:=by cases hb:fn.body<;>simp[hb]at h1⊢
  have h4 : (fn.name == "runtime.NumGoroutine") = false := by simpa using h2
  have hn:¬(fn.body=none):=fun he=>by simp[he]at h1
  unfold callFunc
  simp[hf,h2,hn]
theorem Zx{o:Oper}{f:Operand}{args:Array Operand}{ts:Array TypeId}{pf:aS}{aZ:List aS}{pr:Bool}{Q:Exit->Act->World->Prop}
  (ho:o.op= .call { callee:= .value f,args:=args,argTypes:=ts }) (au:∀d,o.dst=some d->d<C.N) (bk:a.defers=[]) (h:Qr C ρ fr hp a.tmps w)
  (hf:b5 f=some pf) (cl:args.toList.mapM b5=some aZ) (hv:fY C pr (ev fr pf) (aZ.map (ev fr)) o.dst fr hp K):o.wp C.P a w (cU C pr w K) Q:=by
 have j8:=cO h hf
 unfold fY at hv
 split at hv
 ·rename_i g first cap kE
  rw[kE]at j8
  obtain⟨hg,apD⟩:=hv
  obtain⟨fv,cv,ef,h1,h2,h3,h4⟩:=j8
  obtain⟨m1,m2⟩:=Jf h cl
  have CJ:(args.toList.map a.eval).toArray=args.map a.eval:=Array.ext' (by simp)
  rw[CJ]at m2
  have hc:=apD ρ a.tmps w fv cv (args.map a.eval) au h h1 h2 (by simpa using m1.symm) h3 h4 m2
  have hex:(execOp a.eval o).run C.P w= .ok (.enter g (fv++args.map a.eval++cv)) w:=by
   unfold execOp
   simp only[ho,resolve,Kaq,Ka3,Kal,ef,Deferred.ofValue,invoke]
   rw[WG hg]
  unfold Oper.wp
  rw[hex]
  refine hc.mono fun e w' hp'=> ?_
  obtain⟨v,aC,hp',rfl,hs,hx,hK⟩:=hp'
  refine⟨by rw[wM];exact bk,⟨aC,hp',?_,hK⟩,hx⟩
  cases hd:o.dst with
  |some d=>rw[hd]at hs;exact hs
  |none=>rw[hd]at hs;exact hs
 ·exact hv.elim
theorem uS{α:Type}{xs:Array α}{l:List α}(h:xs.toList=l):xs=l.toArray:=by subst h;simp
theorem Bg{P:Program}{t e:TypeId}(h:tI P t=some e):P.underlying t=some (.slice e):=by
 unfold tI at h;split at h
 ·rename_i hq;cases h;exact hq
 ·cases h
theorem Sk{dr:Bool}{o:Oper}(cC:(fH C.P dr o).cls=0)(au:∀d,o.dst=some d->d<C.N)(h:Qr C ρ fr hp a.tmps w)(hv:bK C (fH C.P dr o) fr hp K):bP C ρ o a w K:=by
 unfold fH at cC hv
 cases aa:nA C.P dr o with
 |none=>rw[aa]at hv;exact hv.elim
 | some so=>
  rw[aa]at cC hv
  simp only[Kbe]at cC hv
  unfold nA at aa
  split at aa
  case h_1 x d hop hd=>simp only[Kaa]at aa;obtain⟨y,hy,rfl⟩:=aa;exact M9 (.inl hop) hd (au d hd) h (cO h hy) hv
  case h_2 x d hop hd=>simp only[Kaa]at aa;obtain⟨y,hy,rfl⟩:=aa;exact M9 (.inr hop) hd (au d hd) h (cO h hy) hv
  case h_3 c x y d hop hd=>
   simp only[Kab,Kaa]at aa
   obtain⟨pc,hc,px,hx,py,hy,rfl⟩:=aa
   exact Zd hop hd (au d hd) h (cO h hc) (cO h hx) (cO h hy) hv
  case h_4 op t x y t2 d hop hd=>
   simp only[Kab,Kaa]at aa
   obtain⟨px,hx,py,hy,rfl⟩:=aa
   unfold Av at hv
   split at hv
   ·rename_i ng sN
    split at sN
    ·rename_i cR
     exact aam hop sN cR hd (au d hd) h (cO h hx) (cO h hy) hv
    ·cases sN
   refine aaM hop hd (au d hd) h (cO h hx) (cO h hy) (fun hb=> ?_) hv
   split at hb
   ·assumption
   ·cases hb
  case h_5 op t x d hop hd=>simp only[Kaa]at aa;obtain⟨y,hy,rfl⟩:=aa;exact ab4 hop hd (au d hd) h (cO h hy) hv
  case h_6 s t x d hop hd=>
   split at aa
   ·rename_i ds k hS hT
    simp only[Kaa]at aa
    obtain⟨y,hy,rfl⟩:=aa
    exact Za hop hd (au d hd) h hS hT (cO h hy) hv
   ·cases aa
  case h_7 t x i d hop hd=>
   simp only[Kab]at aa
   obtain⟨px,hx,pi,hi,aa⟩:=aa
   split at aa
   ·rename_i e hu
    simp only[Kaa]at aa
    obtain⟨n,hn,rfl⟩:=aa
    exact aan hop hd (au d hd) h hu hn (cO h hx) (cO h hi) hv
   ·rename_i len e hu
    simp only[Kaa]at aa
    obtain⟨n,hn,rfl⟩:=aa
    exact Ze hop hd (au d hd) h hu hn (cO h hx) (cO h hi) hv
   ·cases aa
  case h_8 t x i d hop hd=>
   simp only[Kab]at aa
   obtain⟨px,hx,pi,hi,aa⟩:=aa
   split at aa
   ·rename_i len e hu
    simp only[Kab,Kaa]at aa
    obtain⟨n,hn,ag,kC,rfl⟩:=aa
    exact aap hop hd (au d hd) h hu hn kC (cO h hx) (cO h hi) hv
   ·cases aa
  case h_9 t x j d hop hd=>
   simp only[Kab]at aa
   obtain⟨px,hx,aa⟩:=aa
   split at aa
   ·rename_i fs hu
    simp only[Kab]at aa
    obtain⟨f,hf,n,hn,aa⟩:=aa
    split at aa
    ·cases aa
    ·rename_i ll
     simp only[KaC]at aa;subst aa
     exact aao hop hd (au d hd) h hu hf hn ll (cO h hx) hv
   ·cases aa
  case h_10 t x j d hop hd=>
   simp only[Kab]at aa
   obtain⟨px,hx,aa⟩:=aa
   split at aa
   ·rename_i fs hu
    simp only[Kab,Kaa]at aa
    obtain⟨f,hf,n,hn,ag,kC,rfl⟩:=aa
    exact Zj hop hd (au d hd) h hu hf hn kC (cO h hx) hv
   ·cases aa
  case h_17 t parts d hop hd=>
   simp only[Kab,Kaa]at aa
   obtain⟨⟨n,by_,z⟩,hz,ps,eO,rfl⟩:=aa
   simp only[bK,mV]at hv
   split at hv
   ·exact Zt hop hd (au d hd) h hz eO hv
   ·exact aaq hop hd (au d hd) h hz eO hv
  case h_18 t x lo hi m d hop hd=>
   simp only[Kab,Kaa]at aa
   obtain⟨px,hx,G6,sM,C6,v9,pm,hm,e,he,n,hn,rfl⟩:=aa
   have hu:C.P.underlying t=some (.slice e):=by
    unfold tI at he;split at he
    ·rename_i hq;cases he;exact hq
    ·cases he
   exact ab8 hop hd (au d hd) h hu hn (cO h hx) sM v9 hm hv
  case h_19 x i d hop hd=>simp only[Kaa]at aa;obtain⟨y,hy,rfl⟩:=aa;exact aaP hop hd (au d hd) h (cO h hy) hv
  case h_20 f first cap d hop hd=>
   simp only[Kab,Kaa]at aa
   obtain⟨pf,h1,pc,h2,rfl⟩:=aa
   exact ab9 hop hd (au d hd) h h1 h2 hv
  case h_11=>simp only[Kab,Kaa]at aa;obtain⟨_,_,_,_,_,_,rfl⟩:=aa;cases cC
  case h_12=>simp only[Kab,Kaa]at aa;obtain⟨_,_,_,_,_,_,rfl⟩:=aa;cases cC
  case h_13=>simp only[Kab,Kaa]at aa;obtain⟨_,_,_,_,rfl⟩:=aa;cases cC
  case h_14=>simp only[Kaa]at aa;obtain⟨_,_,rfl⟩:=aa;cases cC
  case h_15=>simp only[Kab,Kaa]at aa;obtain⟨_,_,_,_,_,_,_,_,rfl⟩:=aa;cases cC
  case h_16=>
   simp only[Kab]at aa
   obtain⟨_,_,_,_,aa⟩:=aa
   split at aa
   ·simp only[Kaa]at aa;obtain⟨_,_,rfl⟩:=aa;cases cC
   ·cases aa
  case h_21 hop=>simp only[Kaa]at aa;obtain⟨y,hy,rfl⟩:=aa;exact Zp hop au h (cO h hy) hv
  case h_22 c hop=>
   obtain⟨callee,args,ts⟩:=c
   split at aa
   ·simp only[Kab,Kaa]at aa;obtain⟨_,_,_,_,rfl⟩:=aa;cases cC
   ·rename_i x t d rj cl mf hd
    simp only[Kab,Kaa]at aa
    obtain⟨e,he,y,hy,rfl⟩:=aa
    obtain rfl:args= #[x]:=uS cl
    obtain rfl:ts= #[t]:=uS mf
    cases rj
    exact aaO hop hd (au d hd) h (cO h hy) (Bg he) hv
   ·rename_i x y d rj cl hd
    simp only[Kab,Kaa]at aa
    obtain⟨px,hx,py,hy,rfl⟩:=aa
    obtain rfl:args= #[x,y]:=uS cl
    cases rj
    exact acw hop hd (au d hd) h (cO h hx) (cO h hy) hv
   ·rename_i x y d rj cl hd
    simp only[Kab,Kaa]at aa
    obtain⟨px,hx,py,hy,rfl⟩:=aa
    obtain rfl:args= #[x,y]:=uS cl
    cases rj
    exact ab3 hop hd (au d hd) h (cO h hx) (cO h hy) hv
   ·simp only[Kab]at aa
    obtain⟨_,_,_,_,_,_,aa⟩:=aa
    split at aa
    ·simp only[Kab]at aa
     obtain⟨_,_,aa⟩:=aa
     split at aa
     ·cases aa;cases cC
     ·cases aa
    ·cases aa
   ·simp only[Kab]at aa
    obtain⟨_,_,_,_,_,_,aa⟩:=aa
    split at aa
    ·simp only[Kaa]at aa;obtain⟨_,_,rfl⟩:=aa;cases cC
    ·cases aa
   ·cases aa
  case h_23=>cases aa
theorem Sl{dr:Bool}{o:Oper}(cC:(fH C.P dr o).cls=1)(au:∀d,o.dst=some d->d<C.N)(h:Qr C ρ fr hp a.tmps w)(hv:bK C (fH C.P dr o) fr hp K):BJ C ρ o a w K:=by
 unfold fH at cC hv
 cases aa:nA C.P dr o with
 |none=>rw[aa]at hv;exact hv.elim
 | some so=>
  rw[aa]at cC hv
  simp only[Kbe]at cC hv
  unfold nA at aa
  split at aa
  case h_11 t x d hop hd=>
   simp only[Kab,Kaa]at aa
   obtain⟨px,hx,n,hn,ag,kC,rfl⟩:=aa
   exact ab7 hop hd (au d hd) h hn kC (cO h hx) hv
  case h_1=>simp only[Kaa]at aa;obtain⟨_,_,rfl⟩:=aa;cases cC
  case h_2=>simp only[Kaa]at aa;obtain⟨_,_,rfl⟩:=aa;cases cC
  case h_3=>simp only[Kab,Kaa]at aa;obtain⟨_,_,_,_,_,_,rfl⟩:=aa;cases cC
  case h_4=>simp only[Kab,Kaa]at aa;obtain⟨_,_,_,_,rfl⟩:=aa;unfold Av at cC;split at cC<;>cases cC
  case h_5=>simp only[Kaa]at aa;obtain⟨_,_,rfl⟩:=aa;cases cC
  case h_6=>split at aa<;>first|cases aa|(simp only[Kaa]at aa;obtain⟨_,_,rfl⟩:=aa;cases cC)
  case h_7=>
   simp only[Kab]at aa
   obtain⟨_,_,_,_,aa⟩:=aa
   split at aa<;>first|cases aa|(simp only[Kaa]at aa;obtain⟨_,_,rfl⟩:=aa;cases cC)
  case h_8=>
   simp only[Kab]at aa
   obtain⟨_,_,_,_,aa⟩:=aa
   split at aa<;>first|cases aa|(simp only[Kab,Kaa]at aa;obtain⟨_,_,_,_,rfl⟩:=aa;cases cC)
  case h_9=>
   simp only[Kab]at aa
   obtain⟨_,_,aa⟩:=aa
   split at aa
   ·simp only[Kab]at aa
    obtain⟨_,_,_,_,aa⟩:=aa
    split at aa<;>first|(cases aa;done)|(simp only[KaC]at aa;subst aa;cases cC)
   ·cases aa
  case h_10=>
   simp only[Kab]at aa
   obtain⟨_,_,aa⟩:=aa
   split at aa<;>first|(cases aa;done)|(simp only[Kab,Kaa]at aa;obtain⟨_,_,_,_,_,_,rfl⟩:=aa;cases cC)
  case h_12=>simp only[Kab,Kaa]at aa;obtain⟨_,_,_,_,_,_,rfl⟩:=aa;cases cC
  case h_13=>simp only[Kab,Kaa]at aa;obtain⟨_,_,_,_,rfl⟩:=aa;cases cC
  case h_14=>simp only[Kaa]at aa;obtain⟨_,_,rfl⟩:=aa;cases cC
  case h_15=>simp only[Kab,Kaa]at aa;obtain⟨_,_,_,_,_,_,_,_,rfl⟩:=aa;cases cC
  case h_16=>
   simp only[Kab]at aa
   obtain⟨_,_,_,_,aa⟩:=aa
   split at aa
   ·simp only[Kaa]at aa;obtain⟨_,_,rfl⟩:=aa;cases cC
   ·cases aa
  case h_17=>simp only[Kab,Kaa]at aa;obtain⟨_,_,_,_,rfl⟩:=aa;cases cC
  case h_18=>simp only[Kab,Kaa]at aa;obtain⟨_,_,_,_,_,_,_,_,_,_,_,_,rfl⟩:=aa;cases cC
  case h_19=>simp only[Kaa]at aa;obtain⟨_,_,rfl⟩:=aa;cases cC
  case h_20=>simp only[Kab,Kaa]at aa;obtain⟨_,_,_,_,rfl⟩:=aa;cases cC
  case h_21=>simp only[Kaa]at aa;obtain⟨_,_,rfl⟩:=aa;cases cC
  case h_22=>
   split at aa
   ·simp only[Kab,Kaa]at aa;obtain⟨_,_,_,_,rfl⟩:=aa;cases cC
   ·simp only[Kab,Kaa]at aa;obtain⟨_,_,_,_,rfl⟩:=aa;cases cC
   ·simp only[Kab,Kaa]at aa;obtain⟨_,_,_,_,rfl⟩:=aa;cases cC
   ·simp only[Kab,Kaa]at aa;obtain⟨_,_,_,_,rfl⟩:=aa;cases cC
   ·simp only[Kab]at aa
    obtain⟨_,_,_,_,_,_,aa⟩:=aa
    split at aa
    ·simp only[Kab]at aa
     obtain⟨_,_,aa⟩:=aa
     split at aa
     ·cases aa;cases cC
     ·cases aa
    ·cases aa
   ·simp only[Kab]at aa
    obtain⟨_,_,_,_,_,_,aa⟩:=aa
    split at aa
    ·simp only[Kaa]at aa;obtain⟨_,_,rfl⟩:=aa;cases cC
    ·cases aa
   ·cases aa
  case h_23=>cases aa
theorem bP.wp{o:Oper}{two:Bool}{Q:Exit->Act->World->Prop}(bk:a.defers=[])(h:bP C ρ o a w K):o.wp C.P a w (cU C two w K) Q:=by
 obtain⟨v,hr,aC,hp',hs,hK⟩:=h
 exact kf (hr w) ⟨by rw[wM];exact bk,⟨aC,hp',⟨ρ,hs⟩,hK⟩,fun _=>Ext.refl _ _⟩
theorem BJ.wp{o:Oper}{two:Bool}{Q:Exit->Act->World->Prop}(bk:a.defers=[])(h:BJ C ρ o a w K):o.wp C.P a w (cU C two w K) Q:=by
 obtain⟨v,b,_,hr,aC,hp',hs,hK⟩:=h
 exact kf (hr w rfl) ⟨by rw[wM];exact bk,⟨aC,hp',⟨ρ,hs⟩,hK⟩,fun _=>Ext.refl _ _⟩
theorem cU.mono{two Wi:Bool}{a':Act}{w':World}(h2:Wi=true->two=true)(h:cU C two w K a' w'):cU C Wi w K a' w':=⟨h.1,h.2.1,fun hh=>h.2.2 (h2 hh)⟩
theorem acJ{dr:Bool}{o:Oper}{Q:Exit->Act->World->Prop}(au:∀d,o.dst=some d->d<C.N)(bk:a.defers=[])(h:Qr C ρ fr hp a.tmps w)(hv:bK C (fH C.P dr o) fr hp K):
  o.wp C.P a w (cU C (!(fH C.P dr o).jl) w K) Q:=by
 by_cases h0:(fH C.P dr o).cls=0
 ·exact(Sk h0 au h hv).wp bk
 by_cases h1:(fH C.P dr o).cls=1
 ·exact(Sl h1 au h hv).wp bk
 unfold fH at h0 h1 hv⊢
 cases aa:nA C.P dr o with
 |none=>rw[aa]at hv;exact hv.elim
 | some so=>
  rw[aa]at h0 h1 hv
  simp only[Kbe]at h0 h1 hv⊢
  have fin:∀ {two:Bool},(so.jl=false->two=true)->o.wp C.P a w (cU C two w K) Q->o.wp C.P a w (cU C (!so.jl) w K) Q:=fun h2 hw=>
   Oper.wp_mono (fun a' w' hA=>hA.mono (fun hh=>h2 (by simpa using hh))) hw
  unfold nA at aa
  split at aa
  case h_12 t x y hop hd=>
   simp only[Kab,Kaa]at aa
   obtain⟨px,hx,py,hy,n,hn,rfl⟩:=aa
   exact fin (by simp[cu.jl]) (acI hop hd bk h hn (cO h hx) (cO h hy) hv)
  case h_13 t x d hop hd=>
   simp only[Kab,Kaa]at aa
   obtain⟨px,hx,n,hn,rfl⟩:=aa
   exact fin (fun _=>rfl) (aar hop hd (au d hd) bk h (cO h hx) hv)
  case h_14 t d hop hd=>
   simp only[Kaa]at aa
   obtain⟨⟨n,by_,z⟩,hz,rfl⟩:=aa
   obtain⟨ti,zv,i1,i2,_,_,i5⟩:=tA hz
   exact fin (fun _=>rfl) (Xc hop hd (au d hd) bk h i1 i2 i5 hv)
  case h_15 t l c d hop hd=>
   simp only[Kab,Kaa]at aa
   obtain⟨pl,hl,pc,hc,e,he,⟨n,by_,z⟩,hz,rfl⟩:=aa
   exact fin (fun _=>rfl) (acb hop hd (au d hd) bk h (Bg he) hz (cO h hl) (cO h hc) hv)
  case h_16 t len parts d hop hd=>
   simp only[Kab]at aa
   obtain⟨e,he,⟨n,by_,z⟩,hz,aa⟩:=aa
   split at aa
   ·rename_i Cu
    simp only[Kaa]at aa
    obtain⟨ps,eO,rfl⟩:=aa
    exact fin (fun _=>rfl) (aaX hop hd (au d hd) bk h (Bg he) hz Cu.1 Cu.2.1 Cu.2.2 eO hv)
   ·cases aa
  case h_22 c hop=>
   obtain⟨callee,args,ts⟩:=c
   split at aa
   ·rename_i f rj
    simp only[Kab,Kaa]at aa
    obtain⟨pf,hf,aZ,cl,rfl⟩:=aa
    cases rj
    exact fin (two:=dr&& !Pt C.P pf) (fun hh=>by simpa[cu.jl]using hh) (Zx hop au bk h hf cl hv)
   ·simp only[Kab,Kaa]at aa;obtain⟨_,_,_,_,rfl⟩:=aa;exact absurd rfl h0
   ·simp only[Kab,Kaa]at aa;obtain⟨_,_,_,_,rfl⟩:=aa;exact absurd rfl h0
   ·simp only[Kab,Kaa]at aa;obtain⟨_,_,_,_,rfl⟩:=aa;exact absurd rfl h0
   ·rename_i s x t u d rj cl mf hd
    simp only[Kab]at aa
    obtain⟨ps,hs,px,hx,e,he,aa⟩:=aa
    split at aa
    ·rename_i Ll
     subst Ll
     simp only[Kab]at aa
     obtain⟨⟨n,by_,z⟩,hz,aa⟩:=aa
     split at aa
     ·rename_i kK
      simp only[KaC]at aa
      subst aa
      obtain rfl:args= #[s,x]:=uS cl
      obtain rfl:ts= #[t,t]:=uS mf
      cases rj
      exact fin (by simp[cu.jl]) (Zw hop hd (au d hd) bk h (Bg he) hz kK (cO h hs) (cO h hx) hv)
     ·cases aa
    ·cases aa
   ·rename_i s x t u d rj cl mf hd
    simp only[Kab]at aa
    obtain⟨ps,hs,px,hx,e,he,aa⟩:=aa
    split at aa
    ·rename_i Ll
     subst Ll
     simp only[Kaa]at aa
     obtain⟨n,hn,rfl⟩:=aa
     obtain rfl:args= #[s,x]:=uS cl
     obtain rfl:ts= #[t,t]:=uS mf
     cases rj
     exact fin (by simp[cu.jl]) (aau hop hd (au d hd) bk h (Bg he) hn (cO h hs) (cO h hx) hv)
    ·cases aa
   ·cases aa
  all_goals exfalso
  case h_1=>simp only[Kaa]at aa;obtain⟨_,_,rfl⟩:=aa;exact h0 rfl
  case h_2=>simp only[Kaa]at aa;obtain⟨_,_,rfl⟩:=aa;exact h0 rfl
  case h_3=>simp only[Kab,Kaa]at aa;obtain⟨_,_,_,_,_,_,rfl⟩:=aa;exact h0 rfl
  case h_4=>simp only[Kab,Kaa]at aa;obtain⟨_,_,_,_,rfl⟩:=aa;exact h0 (by unfold Av;split<;>rfl)
  case h_5=>simp only[Kaa]at aa;obtain⟨_,_,rfl⟩:=aa;exact h0 rfl
  case h_6=>split at aa<;>first|(cases aa;done)|(simp only[Kaa]at aa;obtain⟨_,_,rfl⟩:=aa;exact h0 rfl)
  case h_7=>
   simp only[Kab]at aa
   obtain⟨_,_,_,_,aa⟩:=aa
   split at aa<;>first|(cases aa;done)|(simp only[Kaa]at aa;obtain⟨_,_,rfl⟩:=aa;exact h0 rfl)
  case h_8=>
   simp only[Kab]at aa
   obtain⟨_,_,_,_,aa⟩:=aa
   split at aa<;>first|(cases aa;done)|(simp only[Kab,Kaa]at aa;obtain⟨_,_,_,_,rfl⟩:=aa;exact h0 rfl)
  case h_9=>
   simp only[Kab]at aa
   obtain⟨_,_,aa⟩:=aa
   split at aa
   ·simp only[Kab]at aa
    obtain⟨_,_,_,_,aa⟩:=aa
    split at aa<;>first|(cases aa;done)|(simp only[KaC]at aa;subst aa;exact h0 rfl)
   ·cases aa
  case h_10=>
   simp only[Kab]at aa
   obtain⟨_,_,aa⟩:=aa
   split at aa<;>first|(cases aa;done)|(simp only[Kab,Kaa]at aa;obtain⟨_,_,_,_,_,_,rfl⟩:=aa;exact h0 rfl)
  case h_11=>simp only[Kab,Kaa]at aa;obtain⟨_,_,_,_,_,_,rfl⟩:=aa;exact h1 rfl
  case h_17=>simp only[Kab,Kaa]at aa;obtain⟨_,_,_,_,rfl⟩:=aa;exact h0 rfl
  case h_18=>simp only[Kab,Kaa]at aa;obtain⟨_,_,_,_,_,_,_,_,_,_,_,_,rfl⟩:=aa;exact h0 rfl
  case h_19=>simp only[Kaa]at aa;obtain⟨_,_,rfl⟩:=aa;exact h0 rfl
  case h_20=>simp only[Kab,Kaa]at aa;obtain⟨_,_,_,_,rfl⟩:=aa;exact h0 rfl
  case h_21=>simp only[Kaa]at aa;obtain⟨_,_,rfl⟩:=aa;exact h0 rfl
  case h_23=>cases aa
end Go.FW
namespace Go.FW
open Go
variable {C : Ctx} {ρ : Nat -> Option Nat} {fr : Fr} {hp : HP} {w : World} {a : Act} {K : Qh}
theorem acK(h:Qr C ρ fr hp a.tmps w){s:Nat}(hs:s<C.N):a.tmps[s]? =some (a.tmps.getD s undef):=by
 have:s<a.tmps.size:=by rw[h.sz];exact hs
 simp[Array.getD,this]
theorem RG{dr:Bool}{ops:Array Oper}{o:Oper}{g:wH}(h:Qr C ρ fr hp a.tmps w)(hc:tt C.P C.N dr ops o=some g)(hv:pX C g.g g.o fr hp K):
  (∀d,o.dst=some d->d<C.N)/\g.o=fH C.P dr o/\
  ((Region.wanted o (yielded ops a.tmps)=true/\bK C g.o fr hp K)∨(Region.wanted o (yielded ops a.tmps)=false/\jS g.o fr hp K)):=by
 unfold tt at hc
 split at hc
 ·rename_i cH
  have au:∀d,o.dst=some d->d<C.N:=fun d hd=>by rw[hd]at cH;simpa using cH
  cases hg:o.guard with
  |none=>
   rw[hg]at hc;cases hc
   exact⟨au,rfl,.inl ⟨by simp[Region.wanted,hg],hv⟩⟩
  | some jw=>
   obtain⟨j,want⟩:=jw
   rw[hg]at hc
   simp only at hc
   split at hc
   ·rename_i s hs
    split at hc
    ·rename_i hsN
     cases hc
     refine⟨au,rfl,?_⟩
     have ht:=acK h hsN
     have hr:=h.cS s
     simp only[pX]at hv
     split at hv
     ·rename_i t jL
      rw[jL]at hr
      have hb:=hr.zQ
      have hy:yielded ops a.tmps j=some t:=by simp only[yielded,hs,Kcl,ht,hb]
      have ye:∀b,t=b->ae fr s (.bool b)=fr:=fun b aw=>by
       funext i;unfold ae;split
       ·rename_i hi;subst hi;subst aw;exact jL.symm
       ·rfl
      by_cases hw:t=want
      ·refine .inl ⟨by simp[Region.wanted,hg,hy,hw],?_⟩
       have:=hv.1 hw
       rwa[ye want hw]at this
      ·have qt:t= !want:=by cases t<;>cases want<;>simp_all
       refine .inr ⟨by simp[Region.wanted,hg,hy,hw],?_⟩
       have:=hv.2 qt
       rwa[ye _ qt]at this
     ·rename_i jL
      rw[jL]at hr
      obtain⟨vs,ev,dV,_⟩:=hr
      have yj:vs= #[]:=KbV (by simpa using dV)
      have hy:yielded ops a.tmps j=none:=by simp only[yielded,hs,Kcl,ht,ev]
      exact .inr ⟨by simp[Region.wanted,hg,hy],hv⟩
     ·exact hv.elim
    ·cases hc
   ·cases hc
 ·cases hc
theorem Pz{dr:Bool}{o:Oper}:(fH C.P dr o).dst=o.dst:=by
 unfold fH
 cases aa:nA C.P dr o with
 |none=>rfl
 | some so=>
  simp only[Kbe]
  unfold nA at aa
  split at aa
  case h_1 hd=>simp only[Kaa]at aa;obtain⟨_,_,rfl⟩:=aa;exact hd.symm
  case h_2 hd=>simp only[Kaa]at aa;obtain⟨_,_,rfl⟩:=aa;exact hd.symm
  case h_3 hd=>simp only[Kab,Kaa]at aa;obtain⟨_,_,_,_,_,_,rfl⟩:=aa;exact hd.symm
  case h_4 hd=>simp only[Kab,Kaa]at aa;obtain⟨_,_,_,_,rfl⟩:=aa;unfold Av;split<;>exact hd.symm
  case h_5 hd=>simp only[Kaa]at aa;obtain⟨_,_,rfl⟩:=aa;exact hd.symm
  case h_6 hd=>split at aa<;>first|(cases aa;done)|(simp only[Kaa]at aa;obtain⟨_,_,rfl⟩:=aa;exact hd.symm)
  case h_7 hd=>
   simp only[Kab]at aa
   obtain⟨_,_,_,_,aa⟩:=aa
   split at aa<;>first|(cases aa;done)|(simp only[Kaa]at aa;obtain⟨_,_,rfl⟩:=aa;exact hd.symm)
  case h_8 hd=>
   simp only[Kab]at aa
   obtain⟨_,_,_,_,aa⟩:=aa
   split at aa<;>first|(cases aa;done)|(simp only[Kab,Kaa]at aa;obtain⟨_,_,_,_,rfl⟩:=aa;exact hd.symm)
  case h_9 hd=>
   simp only[Kab]at aa
   obtain⟨_,_,aa⟩:=aa
   split at aa
   ·simp only[Kab]at aa
    obtain⟨_,_,_,_,aa⟩:=aa
    split at aa<;>first|(cases aa;done)|(simp only[KaC]at aa;subst aa;exact hd.symm)
   ·cases aa
  case h_10 hd=>
   simp only[Kab]at aa
   obtain⟨_,_,aa⟩:=aa
   split at aa<;>first|(cases aa;done)|(simp only[Kab,Kaa]at aa;obtain⟨_,_,_,_,_,_,rfl⟩:=aa;exact hd.symm)
  case h_11 hd=>simp only[Kab,Kaa]at aa;obtain⟨_,_,_,_,_,_,rfl⟩:=aa;exact hd.symm
  case h_12 hd=>simp only[Kab,Kaa]at aa;obtain⟨_,_,_,_,_,_,rfl⟩:=aa;exact hd.symm
  case h_13 hd=>simp only[Kab,Kaa]at aa;obtain⟨_,_,_,_,rfl⟩:=aa;exact hd.symm
  case h_14 hd=>simp only[Kaa]at aa;obtain⟨_,_,rfl⟩:=aa;exact hd.symm
  case h_15 hd=>simp only[Kab,Kaa]at aa;obtain⟨_,_,_,_,_,_,_,_,rfl⟩:=aa;exact hd.symm
  case h_16 hd=>
   simp only[Kab]at aa
   obtain⟨_,_,_,_,aa⟩:=aa
   split at aa
   ·simp only[Kaa]at aa;obtain⟨_,_,rfl⟩:=aa;exact hd.symm
   ·cases aa
  case h_17 hd=>simp only[Kab,Kaa]at aa;obtain⟨_,_,_,_,rfl⟩:=aa;exact hd.symm
  case h_18 hd=>simp only[Kab,Kaa]at aa;obtain⟨_,_,_,_,_,_,_,_,_,_,_,_,rfl⟩:=aa;exact hd.symm
  case h_19 hd=>simp only[Kaa]at aa;obtain⟨_,_,rfl⟩:=aa;exact hd.symm
  case h_20 hd=>simp only[Kab,Kaa]at aa;obtain⟨_,_,_,_,rfl⟩:=aa;exact hd.symm
  case h_21=>simp only[Kaa]at aa;obtain⟨_,_,rfl⟩:=aa;rfl
  case h_22=>
   split at aa
   ·simp only[Kab,Kaa]at aa;obtain⟨_,_,_,_,rfl⟩:=aa;rfl
   ·rename_i hd;simp only[Kab,Kaa]at aa;obtain⟨_,_,_,_,rfl⟩:=aa;exact hd.symm
   ·rename_i hd;simp only[Kab,Kaa]at aa;obtain⟨_,_,_,_,rfl⟩:=aa;exact hd.symm
   ·rename_i hd;simp only[Kab,Kaa]at aa;obtain⟨_,_,_,_,rfl⟩:=aa;exact hd.symm
   ·rename_i hd
    simp only[Kab]at aa
    obtain⟨_,_,_,_,_,_,aa⟩:=aa
    split at aa
    ·simp only[Kab]at aa
     obtain⟨_,_,aa⟩:=aa
     split at aa
     ·cases aa;exact hd.symm
     ·cases aa
    ·cases aa
   ·rename_i hd
    simp only[Kab]at aa
    obtain⟨_,_,_,_,_,_,aa⟩:=aa
    split at aa
    ·simp only[Kaa]at aa;obtain⟨_,_,rfl⟩:=aa;exact hd.symm
    ·cases aa
   ·cases aa
  case h_23=>cases aa
theorem Zy{dr two:Bool}{o:Oper}(au:∀d,o.dst=some d->d<C.N)(bk:a.defers=[])(h:Qr C ρ fr hp a.tmps w)(hv:jS (fH C.P dr o) fr hp K):cU C two w K (a.put o.dst undef) w:=by
 unfold jS at hv
 rw[Pz]at hv
 cases hd:o.dst with
 |some d=>
  rw[hd]at hv
  exact⟨bk,⟨_,hp,⟨ρ,h.ae Qm.Wh (au d hd)⟩,hv⟩,fun _=>Ext.refl _ _⟩
 |none=>
  rw[hd]at hv
  exact⟨bk,⟨fr,hp,⟨ρ,h⟩,hv⟩,fun _=>Ext.refl _ _⟩
theorem Sm{dr:Bool}{ops:Array Oper}{i:Nat}{o:Oper}{g:wH}{Q:Exit->Act->World->Prop}(hi:ops[i]? =some o)(bk:a.defers=[])(h:Qr C ρ fr hp a.tmps w)(hc:tt C.P C.N dr ops o=some g)(hv:pX C g.g g.o fr hp K):
  wpOp C.P ops Q i (cU C (!(fH C.P dr o).jl) w K) a w:=by
 obtain⟨au,nb,Cs⟩:=RG h hc hv
 rw[nb]at Cs
 unfold wpOp
 simp only[hi]
 rcases Cs with⟨hw,hv⟩|⟨hw,hv⟩
 ·rw[if_pos hw];exact .inl (acJ au bk h hv)
 ·rw[hw];simp only[Kbm,if_false];exact Zy au bk h hv
def Next(C:Ctx)(K:Qh)(Q:Exit->Act->World->Prop):Prop:=∀fr hp (a:Act) w,a.defers=[]->eu C fr hp a.tmps w->K fr hp->Q .normal a w
theorem BK{C:Ctx}{R:Qh}{sk:List It}{fr:Fr}{hp:HP}:vc C R (.o .nil::sk) fr hp=vc C R sk fr hp:=by rw[vc]
theorem BR{C:Ctx}{R:Qh}{sk:List It}{g:Option (Nat×Bool)}{o:cu}{r:RT}{fr:Fr}{hp:HP}:vc C R (.o (.o g o r)::sk) fr hp=pX C g o fr hp (vc C R (.o r::sk)):=by rw[vc]
theorem QO{C:Ctx}{R:Qh}{sk:List It}{x y:RT}{fr:Fr}{hp:HP}:vc C R (.o (.br x y)::sk) fr hp=(vc C R (.o x::sk) fr hp/\vc C R (.o y::sk) fr hp):=by rw[vc]
theorem FA{C:Ctx}{R:Qh}{sk:List It}{r:RT}{fr:Fr}{hp:HP}:vc C R (.o (.wk r)::sk) fr hp=∃bJ aA,Wk fr hp bJ aA/\vc C R (.o r::sk) bJ aA:=by rw[vc]
theorem ze{C:Ctx}{R:Qh}{sk:List It}{tmps:Array Value}{w:World}:∀(r:RT)(fr:Fr)(hp:HP),eu C fr hp tmps w->vc C R (.o r::sk) fr hp->
  ∃r' aC hp',r'.strip=r.strip/\(∀x,r'≠ .wk x)/\eu C aC hp' tmps w/\vc C R (.o r'::sk) aC hp':=by
 intro r
 induction r with
 |wk r ih=>
  intro fr hp hs hv
  rw[FA]at hv
  obtain⟨bJ,aA,hw,hv⟩:=hv
  exact ih bJ aA (hw _ _ _ hs) hv
 |nil=>exact fun fr hp hs hv=>⟨_,fr,hp,rfl,(fun x h=>by cases h),hs,hv⟩
 |o=>exact fun fr hp hs hv=>⟨_,fr,hp,rfl,(fun x h=>by cases h),hs,hv⟩
 |br=>exact fun fr hp hs hv=>⟨_,fr,hp,rfl,(fun x h=>by cases h),hs,hv⟩
theorem L4{r:RT}(h:r.strip= .nil)(hn:∀x,r≠ .wk x):r= .nil:=by
 cases r with
 |nil=>rfl
 |wk x=>exact absurd rfl (hn x)
 |_=>simp[RT.strip]at h
theorem JH{r s:RT}{g:Option (Nat×Bool)}{o:cu}(h:r.strip= .o g o s)(hn:∀x,r≠ .wk x):∃r',r= .o g o r'/\r'.strip=s:=by
 cases r with
 |o g' o' r'=>simp only[RT.strip,RT.o.injEq]at h;obtain⟨rfl,rfl,h⟩:=h;exact⟨r',rfl,h⟩
 |wk x=>exact absurd rfl (hn x)
 |_=>simp[RT.strip]at h
theorem acL{r a b:RT}(h:r.strip= .br a b)(hn:∀x,r≠ .wk x):∃a' b',r= .br a' b'/\a'.strip=a/\b'.strip=b:=by
 cases r with
 |br a' b'=>simp only[RT.strip,RT.br.injEq]at h;exact⟨a',b',rfl,h.1,h.2⟩
 |wk x=>exact absurd rfl (hn x)
 |_=>simp[RT.strip]at h
theorem Sn{R:Qh}{sk:List It}{ops:Array Oper}{Q:Exit->Act->World->Prop}(hQ:Next C (vc C R sk) Q):∀(gs:List wH)(is:List Nat)(r:RT)(fr:Fr)(hp:HP)(a:Act)(w:World),
  is.length=gs.length->(∀(k i:Nat)(g:wH),is[k]? =some i->gs[k]? =some g->∃o,ops[i]? =some o/\tt C.P C.N false ops o=some g)->
  a.defers=[]->eu C fr hp a.tmps w->r.strip=zF gs->vc C R (.o r::sk) fr hp->wpOps C.P ops Q is a w
 | [],[],r,fr,hp,a,w,_,_,bk,hs,hr,hv=>by
  obtain⟨r',aC,hp',h1,h2,hs,hv⟩:=ze r fr hp hs hv
  obtain rfl:=L4 (h1.trans hr) h2
  rw[BK]at hv
  exact hQ aC hp' a w bk hs hv
 | [],i::is,_,_,_,_,_,hl,_,_,_,_,_=>by simp at hl
 |g::gs,[],_,_,_,_,_,hl,_,_,_,_,_=>by simp at hl
 |g::gs,i::is,r,fr,hp,a,w,hl,hc,bk,hs,hr,hv=>by
  obtain⟨o,ho,aa⟩:=hc 0 i g rfl rfl
  obtain⟨r',aC,hp',h1,h2,⟨ρ,hs⟩,hv⟩:=ze r fr hp hs hv
  obtain⟨r2,rfl,jt⟩:=JH (h1.trans hr) h2
  rw[BR]at hv
  rw[wpOps_cons]
  refine wpOp_mono (fun a' w' hA=> ?_) (Sm ho bk hs aa hv)
  obtain⟨xM,⟨aC,hp',eC,pB⟩,_⟩:=hA
  exact Sn hQ gs is r2 aC hp' a' w' (by simpa using hl) (fun k j g' h1 h2=>hc (k+1) j g' (by simpa using h1) (by simpa using h2)) xM eC jt pB
end Go.FW
namespace Go.FW
open Go
section
variable {P : Program} {ops : Array Oper} {Q : Exit -> Act -> World -> Prop}
def xc(P:Program)(ops:Array Oper)(Q:Exit->Act->World->Prop)(jl:Nat->Bool):Nat->Array Bool->Act->World->Prop
 |0,bc,a,w=>Region.ready .any ops bc=[]/\Q .normal a w
 |fuel+1,bc,a,w=>
  (Region.ready .any ops bc=[]->Q .normal a w)/\
  ∀i∈Region.ready .any ops bc,wpOp P ops Q i (fun a' w'=>(jl i=false->Ext dL w w')/\xc P ops Q jl fuel (bc.setIfInBounds i true) a' w') a w
theorem Io(jl:Nat->Bool):∀(fuel:Nat)(bc:Array Bool)(a:Act)(w:World),xc P ops Q jl fuel bc a w->wpAny P .any ops Q fuel bc a w
 |0,_,_,_,h=>h
 |fuel+1,_,_,_,h=>⟨h.1,fun i hi=>wpOp_mono (fun a' w' h'=>Io jl fuel _ a' w' h'.2) (h.2 i hi)⟩
def YF(P:Program)(ops:Array Oper)(all:Bool)(o:Oper)(v:Value)(a:Act)(w:World):Prop:=
 (Region.wanted o (yielded ops a.tmps)=true/\∀w',(all=true∨Ext dL w w')->(execOp a.eval o).run P w'= .ok (.value v) w')∨
 (Region.wanted o (yielded ops a.tmps)=false/\v=undef)
theorem YF.step{all:Bool}{o:Oper}{v:Value}{a a':Act}{w w':World}(hy:YF P ops all o v a w)(he:execOp a'.eval o=execOp a.eval o)
  (hw:Region.wanted o (yielded ops a'.tmps)=Region.wanted o (yielded ops a.tmps)) (hx:all=true∨Ext dL w w'):YF P ops all o v a' w':=by
 unfold YF at *
 rw[he,hw]
 rcases hy with⟨h1,h2⟩|h
 ·refine .inl ⟨h1,fun w2 h3=>h2 w2 ?_⟩
  rcases hx with hx|hx
  ·exact .inl hx
  ·rcases h3 with h3|h3
   ·exact .inl h3
   ·exact .inr (hx.trans h3)
 ·exact .inr h
theorem YF.wpOp{all:Bool}{i:Nat}{o:Oper}{v:Value}{a:Act}{w:World}(hi:ops[i]? =some o)(hy:YF P ops all o v a w)
  {K:Act->World->Prop} (h:K (a.put o.dst v) w):Go.wpOp P ops Q i K a w:=by
 unfold Go.wpOp
 simp only[hi]
 rcases hy with⟨hw,hv⟩|⟨hw,rfl⟩
 ·simp only[hw,if_true,Oper.wp,hv w (.inr (Ext.refl _ _)),Oper.upon];exact .inl h
 ·simp only[hw,Kbm,if_false];exact h
theorem aaY{j:Nat}{oi oj:Oper}{v:Value}(hj:ops[j]? =some oj)(hap:oi.apart ops oj=true)
  (Vr:∀cs b,oi.op≠ .select cs b) (Vs:∀cs b,oj.op≠ .select cs b)
  (hQ:∀c a w,Q (.panic c) (a.put oi.dst v) w->Q (.panic c) a w) {K:Act->World->Prop} {a:Act} {w:World}
  (h:Go.wpOp P ops Q j K (a.put oi.dst v) w):
  Go.wpOp P ops Q j (fun a' w'=>(execOp a'.eval oi=execOp a.eval oi/\Region.wanted oi (yielded ops a'.tmps)=Region.wanted oi (yielded ops a.tmps))/\K (a'.put oi.dst v) w') a w:=by
 obtain⟨h1,h2,h3⟩:=Oper.apart_spec hap
 have fp:∀u,execOp (a.put oj.dst u).eval oi=execOp a.eval oi/\Region.wanted oi (yielded ops (a.put oj.dst u).tmps)=Region.wanted oi (yielded ops a.tmps):=fun u=>
  ⟨execOp_put oi Vr a oj.dst u h3,wanted_put oi a oj.dst u h3⟩
 have arn:∀d u,execOp (({ a with defers:=d::a.defers }:Act).put oj.dst u).eval oi=execOp a.eval oi/\Region.wanted oi (yielded ops (({ a with defers:=d::a.defers }:Act).put oj.dst u).tmps)=Region.wanted oi (yielded ops a.tmps):=fun d u=>
  ⟨(execOp_put oi Vr ({ a with defers:=d::a.defers }:Act) oj.dst u h3).trans rfl,(wanted_put oi ({ a with defers:=d::a.defers }:Act) oj.dst u h3).trans rfl⟩
 unfold Go.wpOp at *
 simp only[hj]at *
 rw[wanted_put oj a oi.dst v h1]at h
 split
 ·rename_i hw
  simp only[hw,if_true]at h
  rcases h with h|⟨Ux,aqo⟩
  case inr=>exact .inr ⟨by unfold Oper.asks at *;rw[execOp_put oj Vs a oi.dst v h1]at Ux;exact Ux,aqo⟩
  refine .inl ?_
  unfold Oper.wp at *
  rw[execOp_put oj Vs a oi.dst v h1]at h
  generalize(execOp a.eval oj).run P w=r at *
  cases r with
  | ok n w'=>
   cases n<;>simp only[Oper.upon]at h⊢
   case value u=>exact⟨fp u,by rw[<-Act.put_comm a v u h2];exact h⟩
   case skip=>exact⟨fp _,by rw[<-Act.put_comm a v undef h2];exact h⟩
   case defer d=>
    refine⟨arn d _,?_⟩
    rw[<-Act.put_comm _ v undef h2,<-Act.put_defers]
    exact h
   case enter f args=>
    refine Calls.mono h fun e w'' he=> ?_
    cases e with
    |returned u=>exact⟨fp u,by rw[<-Act.put_comm a v u h2];exact he⟩
    |panicked c=>exact hQ _ _ _ he
    |outgrown=>exact he
   case row row args=>exact Rows.mono h fun u w'' he=>⟨fp u,by rw[<-Act.put_comm a v u h2];exact he⟩
  |halt x w'=>
   cases x<;>simp only[Oper.upon]at h⊢
   case panic u=>exact hQ _ _ _ h
 ·rename_i hw
  simp only[hw]at h
  exact⟨fp _,by rw[<-Act.put_comm a v undef h2];exact h⟩
def qN(ops:Array Oper)(bc:Array Bool):Prop:=∀(j:Nat)(o:Oper),ops[j]? =some o->bc.getD j false=true->∀e∈o.after,Region.binds .any e=true->bc.getD e.on false=true
theorem qN.step{bc:Array Bool}{i:Nat}(h:qN ops bc)(hi:i∈Region.ready .any ops bc):qN ops (bc.setIfInBounds i true):=by
 intro j o hj hl e he hb
 obtain⟨h0,oi,uq,cH⟩:=mem_ready.1 hi
 by_cases qm:i=j
 ·subst qm
  rw[hj]at uq;cases uq
  exact getD_set_true (cH e he hb)
 ·rw[getD_set_ne false qm]at hl
  exact getD_set_true (h j o hj hl e he hb)
theorem QU{bc:Array Bool}{i:Nat}(hd:qN ops bc):∀(n k:Nat),bc.getD k false=true->rT ops n i k=true->bc.getD i false=true
 |0,_,_,h=>by simp[rT]at h
 | n+1,k,hk,h=>by
  unfold rT at h
  cases ho:ops[k]? with
  |none=>simp[ho]at h
  |some o=>
   simp only[ho,Ka4,Kar,Kci,beq_iff_eq]at h
   obtain⟨e,he,hb,h⟩:=h
   have hl:=hd k o ho hk e (by simpa using he) hb
   rcases h with h|h
   ·rw[<-h];exact hl
   ·exact QU hd n e.on hl h
theorem Qzc{bc:Array Bool}{i j n:Nat}(hd:qN ops bc)(hj:j∈Region.ready .any ops bc)(h:rT ops n i j=true):bc.getD i false=true:=by
 obtain⟨_,o,ho,cH⟩:=mem_ready.1 hj
 cases n with
 |zero=>simp[rT]at h
 |succ n=>
  unfold rT at h
  simp only[ho,Ka4,Kar,Kci,beq_iff_eq]at h
  obtain⟨e,he,hb,h⟩:=h
  have hl:=cH e (by simpa using he) hb
  rcases h with h|h
  ·rw[<-h];exact hl
  ·exact QU hd n e.on hl h
theorem aaZ{bc:Array Bool}{i:Nat}(h0:bc.getD i true=false):¬bc.getD i false=true:=by
 intro h1
 rcases KcL i bc.size with h'|h'
 ·simp[h']at h0 h1;rw[h0]at h1;cases h1
 ·simp[Array.getElem?_eq_none h']at h1
theorem WH{jl:Nat->Bool}{all:Bool}{i:Nat}{oi:Oper}{v:Value}(hi:ops[i]? =some oi)(Vq:∀(j:Nat)(o:Oper) cs b,ops[j]? =some o->o.op≠ .select cs b)
  (hQ:∀c a w,Q (.panic c) (a.put oi.dst v) w->Q (.panic c) a w)
  (Ab:all=true∨∀j,jl j=true->j<ops.size->rT ops ops.size i j=true∨j=i):
  ∀(fuel:Nat)(bc:Array Bool)(a:Act)(w:World),qN ops bc->
   (∀j oj,ops[j]? =some oj->j≠i->bc.getD j true=false->(∀e∈oj.after,Region.binds .any e=true->e.on≠i)->oi.apart ops oj=true)->
   i∈Region.ready .any ops bc->YF P ops all oi v a w->
   xc P ops Q jl fuel (bc.setIfInBounds i true) (a.put oi.dst v) w->xc P ops Q jl (fuel+1) bc a w:=by
 intro fuel
 induction fuel with
 | zero=>
  intro bc a w _ _ hr hy H
  refine⟨fun h=>(by rw[h]at hr;cases hr),fun j hj=> ?_⟩
  by_cases im:j=i
  ·subst im;exact hy.wpOp hi ⟨fun _=>Ext.refl _ _,H⟩
  ·have:=ready_mono hj im
   rw[H.1]at this
   cases this
 | succ fuel ih=>
  intro bc a w UE ph hr hy H
  refine⟨fun h=>(by rw[h]at hr;cases hr),fun j hj=> ?_⟩
  by_cases im:j=i
  ·subst im;exact hy.wpOp hi ⟨fun _=>Ext.refl _ _,H⟩
  ·have h1:=H.2 j (ready_mono hj im)
   obtain⟨UT,oj,GB,cH⟩:=mem_ready.1 hj
   have UP:¬bc.getD i false=true:=aaZ (mem_ready.1 hr).1
   have aqx:∀e∈oj.after,Region.binds .any e=true->e.on≠i:=fun e he hb heq=>UP (heq▸cH e he hb)
   have h2:=aaY GB (ph j oj GB im UT aqx) (fun cs b=>Vq i oi cs b hi) (fun cs b=>Vq j oj cs b GB) hQ h1
   have apy:all=true∨jl j=false:=by
    rcases Ab with h|h
    ·exact .inl h
    ·cases hb:jl j with
     |false=>exact .inr rfl
     |true=>
      have aqf:j<ops.size:=(KbR.1 GB).1
      rcases h j hb aqf with h|h
      ·exact absurd (Qzc UE hj h) UP
      ·exact absurd h im
   have ap1:∀k ok,ops[k]? =some ok->k≠i->(bc.setIfInBounds j true).getD k true=false->
     (∀e∈ok.after,Region.binds .any e=true->e.on≠i)->oi.apart ops ok=true:=fun k ok hk xR pA sO=>by
    refine ph k ok hk xR ?_ sO
    by_cases Gm:j=k
    ·subst Gm;exact UT
    ·rw[getD_set_ne true Gm]at pA;exact pA
   refine wpOp_mono (fun a' w' h3=> ?_) h2
   obtain⟨⟨he,hw⟩,hx,yd⟩:=h3
   refine⟨hx,ih (bc.setIfInBounds j true) a' w' (UE.step hj) ap1 (ready_mono hr (Ne.symm im)) (hy.step he hw ?_) ?_⟩
   ·rcases apy with h|h
    ·exact .inl h
    ·exact .inr (hx h)
   ·rw[Array.setIfInBounds_comm _ _ im]
    exact yd
end
section
variable {C : Ctx} {ρ : Nat -> Option Nat} {fr : Fr} {hp : HP} {w : World} {a : Act} {K : Qh}
theorem Rk{dr:Bool}{o:Oper}(au:∀d,o.dst=some d->d<C.N)(h:Qr C ρ fr hp a.tmps w)(hv:jS (fH C.P dr o) fr hp K):∃aC hp',Qr C ρ aC hp' (a.put o.dst undef).tmps w/\K aC hp':=by
 unfold jS at hv
 rw[Pz]at hv
 cases hd:o.dst with
 |some d=>rw[hd]at hv;exact⟨_,hp,h.ae Qm.Wh (au d hd),hv⟩
 |none=>rw[hd]at hv;exact⟨fr,hp,h,hv⟩
theorem aiz{P:Program}{dr:Bool}{o:Oper}:(fH P dr o).cls=(fH P true o).cls:=by
 cases dr with
 |true=>rfl
 | false=>
  have h0:(nA P false o).map cu.cls=(nA P true o).map cu.cls:=by
   unfold nA
   split<;>first|rfl|skip
   split<;>first|rfl|skip
   rename_i f _
   cases h1:b5 f with
   |none=>simp
   |some pf=>
    simp only[Kcl,Option.map_map]
    congr 1
  unfold fH
  cases h1:nA P false o<;>cases h2:nA P true o<;>simp_all[cu.cls]
theorem Rl {dr:Bool} {R:Qh} {sk:List It} {ops:Array Oper} {Q:Exit->Act->World->Prop} (GA:Region.noSelect ops=true) (hQ:Next C (vc C R sk) Q):∀(n:Nat) (bc:Array Bool) (r:RT) (fr:Fr) (hp:HP) (a:Act) (w:World),
  qD C.P C.N dr ops n bc=some r.strip->qN ops bc->a.defers=[]->eu C fr hp a.tmps w->vc C R (.o r::sk) fr hp->
  xc C.P ops (NoPanic Q) (zC C.P dr ops) n bc a w:=by
 intro n
 have done:∀(n:Nat)(bc:Array Bool)(r:RT)(fr:Fr)(hp:HP)(a:Act)(w:World),Region.ready .any ops bc=[]->a.defers=[]->eu C fr hp a.tmps w->r.strip= .nil->vc C R (.o r::sk) fr hp->xc C.P ops (NoPanic Q) (zC C.P dr ops) n bc a w:=by
  intro n bc r fr hp a w hr bk hs dp hv
  obtain⟨r',fr,hp,h1,h2,hs,hv⟩:=ze r fr hp hs hv
  obtain rfl:=L4 (h1.trans dp) h2
  rw[BK]at hv
  have hq:NoPanic Q .normal a w:=hQ fr hp a w bk hs hv
  cases n with
  |zero=>exact⟨hr,hq⟩
  |succ n=>exact⟨fun _=>hq,by rw[hr];simp⟩
 induction n with
 | zero=>
  intro bc r fr hp a w ho hd bk hs hv
  unfold qD at ho
  split at ho
  ·rename_i hr
   exact done 0 bc r fr hp a w (by simpa using hr) bk hs (KbI ho).symm hv
  ·cases ho
 | succ n ih=>
  intro bc r fr hp a w ho hd bk hs hv
  unfold qD at ho
  split at ho
  ·rename_i hr
   exact done (n+1) bc r fr hp a w (by simpa using hr) bk hs (KbI ho).symm hv
  ·rename_i hr
   obtain⟨r',fr,hp,e1,e2,hs,hv⟩:=ze r fr hp hs hv
   rw[<-e1]at ho
   split at ho
   ·rename_i i ap0
    have rF:=List.find?_some ap0
    simp only[Kab,Kaa]at ho
    obtain⟨g,⟨o,uq,KH⟩,r0,cQ,v8⟩:=ho
    obtain⟨r',rfl,rfl⟩:=JH v8.symm e2
    unfold Hm at rF
    simp only[Kar,List.contains_iff_mem]at rF
    obtain⟨⟨GI,ph⟩,cC⟩:=rF
    have zY:vh C.P ops i=(fH C.P dr o).cls:=by rw[aiz];simp[vh,uq]
    rw[BR]at hv
    obtain⟨ρ,oe⟩:=hs
    obtain⟨au,nb,Cs⟩:=RG oe KH hv
    rw[nb]at Cs
    have Ab:∀all:Bool,(all=false->vh C.P ops i=1)->all=true∨∀j,zC C.P dr ops j=true->j<ops.size->rT ops ops.size i j=true∨j=i:=by
     intro all cH
     cases all with
     |true=>exact .inl rfl
     |false=>
      refine .inr fun j hj ru=> ?_
      rw[cH rfl]at cC
      have:=Kas.1 cC j (by simpa using ru)
      simp only[Kci,Kcx]at this
      rcases this with h|h
      ·rw[hj]at h;cases h
      ·exact .inl h
    have fin:∀(all:Bool)(v:Value),(all=false->vh C.P ops i=1)->YF C.P ops all o v a w->(∃aC hp',Qr C ρ aC hp' (a.put o.dst v).tmps w/\vc C R (.o r'::sk) aC hp')->xc C.P ops (NoPanic Q) (zC C.P dr ops) (n+1) bc a w:=by
     intro all v cH hy ⟨aC,hp',eC,pB⟩
     exact WH uq (Region.noSelect_spec GA) (fun _ _ _ h=>h) (Ab all cH) n bc a w hd (Region.free_spec uq ph) GI hy
      (ih _ r' aC hp' _ w cQ (hd.step GI) (by rw[wM];exact bk) ⟨ρ,eC⟩ pB)
    rcases Cs with⟨hw,hv⟩|⟨hw,hv⟩
    ·by_cases h0:vh C.P ops i=0
     ·obtain⟨v,cm,yd⟩:=Sk (by rw[<-zY];exact h0) au oe hv
      exact fin true v (by simp) (.inl ⟨hw,fun w' _=>cm w'⟩) yd
     ·by_cases h1:vh C.P ops i=1
      ·obtain⟨v,b,hb,cm,yd⟩:=Sl (by rw[<-zY];exact h1) au oe hv
       exact fin false v (fun _=>h1) (.inl ⟨hw,fun w' qt=>cm w' (qt.elim (fun h=>by cases h) (fun h=>h.block b hb (fun h=>h)))⟩) yd
      ·split at cC
       ·rename_i h;exact absurd h h0
       ·rename_i h;exact absurd h h1
       ·cases cC
    ·by_cases h1:vh C.P ops i=1
     ·exact fin false undef (fun _=>h1) (.inr ⟨hw,rfl⟩) (Rk au oe hv)
     ·exact fin true undef (by simp) (.inr ⟨hw,rfl⟩) (Rk au oe hv)
   ·
    simp only[Kaa]at ho
    obtain⟨rs,dD,v8⟩:=ho
    obtain⟨m1,m2⟩:=oE dD
    have Gh:∀(rs:List RT) (r':RT) (fr:Fr) (hp:HP),r'.strip=vM rs->eu C fr hp a.tmps w->vc C R (.o r'::sk) fr hp->∀r∈rs,∃r2 fC cc,r2.strip=r/\(∀x,r2≠ .wk x)/\eu C fC cc a.tmps w/\vc C R (.o r2::sk) fC cc:=by
     intro rs
     induction rs with
     |nil=>intro _ _ _ _ _ _ r hr;cases hr
     | cons x xs lA=>
      intro r' fr hp cQ hs hv r hr
      obtain⟨r2,fC,cc,f1,f2,hs,hv⟩:=ze r' fr hp hs hv
      cases xs with
      |nil=>simp at hr;subst hr;exact⟨r2,fC,cc,f1.trans cQ,f2,hs,hv⟩
      | cons y ys=>
       rw[vM]at cQ
       ·obtain⟨a',b',rfl,g1,g2⟩:=acL (f1.trans cQ) f2
        rw[QO]at hv
        rcases KaG.1 hr with rfl|hr
        ·obtain⟨r3,FT,rE,k1,k2,k3,k4⟩:=ze a' fC cc hs hv.1
         exact⟨r3,FT,rE,k1.trans g1,k2,k3,k4⟩
        ·exact lA b' fC cc g2 hs hv.2 r hr
       ·simp
    refine⟨fun h0=>absurd (by rw[h0];rfl) hr,fun i hi=> ?_⟩
    obtain⟨k,hk⟩:=KaV hi
    have z7:k<rs.length:=by rw[m1];exact(Kae.1 hk).1
    obtain⟨i',ao,hf⟩:=m2 k _ (Kag z7)
    rw[hk]at ao;cases ao
    simp only[Kab,Kaa]at hf
    obtain⟨g,⟨o,uq,KH⟩,r0,cQ,he⟩:=hf
    obtain⟨r2,fC,cc,f1,f2,hs,pB⟩:=Gh rs r' fr hp v8.symm hs hv _ (Kai z7)
    obtain⟨r',rfl,rfl⟩:=JH (f1.trans he.symm) f2
    rw[BR]at pB
    obtain⟨ρ,oe⟩:=hs
    refine wpOp_mono (fun a' w' hA=> ?_) (Sm uq bk oe KH pB)
    obtain⟨xM,⟨aC,hp',eC,ym⟩,hx⟩:=hA
    refine⟨fun hb=>hx ?_,ih _ r' aC hp' a' w' cQ (hd.step hi) xM eC ym⟩
    simpa[zC,uq]using hb
theorem eu.drew{tmps:Array Value}(h:eu C fr hp tmps w):eu C fr hp tmps { w with drawn:=w.drawn+1 }:=by
 obtain⟨ρ,hs⟩:=h
 exact⟨ρ,hs.grow (Ext.drew w _)⟩
theorem qN.start(ops:Array Oper):qN ops (Array.replicate ops.size false):=by
 intro j o _ hl
 exfalso
 simp[Array.getD]at hl
theorem Jh{s:SC}{r:RT}(h:s.strip= .rg r):∃r',s= .rg r'/\r'.strip=r:=by
 cases s with
 |rg r'=>simp only[SC.strip,SC.rg.injEq]at h;exact⟨r',rfl,h⟩
 |_=>simp[SC.strip]at h
theorem WI{R:Qh}{sk:List It}{ops:Array Oper}{draw:Bool}{id:Nat}{s:SC}{Q:Exit->Act->World->Prop}(hm:C.P.follows .mixedOrders=true)(hQ:Next C (vc C R sk) Q)
  (hc:Bf C.P C.N ops draw=some s.strip) (bk:a.defers=[]) (hs:eu C fr hp a.tmps w) (hv:vc C R (.c s::sk) fr hp):(Code.region id ops draw).wp C.P Q a w:=by
 unfold Bf at hc
 split at hc
 ·rename_i hd
  subst hd
  split at hc
  ·rename_i GA
   have key:∀(dr:Bool)(yx:Nat)(s:SC),Bd C.P C.N ops dr yx=some s.strip->vc C R (.c s::sk) fr hp->(Code.region id ops true).wp C.P Q a w:=by
    intro dr yx s hc hv
    unfold Bd at hc
    split at hc
    ·cases hc
    split at hc
    ·rename_i r0 hr
     split at hc
     ·obtain⟨r,rfl,rfl⟩:=Jh (KbI hc).symm
      rw[vc]at hv
      exact wp_region_noPanic (wp_region_any hm (Io _ _ _ _ _ (Rl GA hQ _ _ r fr hp a _ hr (qN.start ops) bk hs.drew hv)))
     ·cases hc
    ·cases hc
   split at hc
   ·rename_i s' eC
    cases hc
    split at eC
    ·simp only[Kaa]at eC
     obtain⟨r0,hr,he⟩:=eC
     obtain⟨r,rfl,rfl⟩:=Jh he.symm
     rw[vc]at hv
     exact wp_region_noPanic (wp_region_any hm (Io _ _ _ _ _ (Rl GA hQ _ _ r fr hp a _ (Du _ _ _ hr) (qN.start ops) bk hs.drew hv)))
    ·cases eC
   ·exact key _ _ _ hc hv
  ·cases hc
 ·rename_i hd
  have hdf:draw=false:=by simpa using hd
  subst hdf
  simp only[Kaa]at hc
  obtain⟨gs,hgs,he⟩:=hc
  obtain⟨r,rfl,hr⟩:=Jh he.symm
  rw[vc]at hv
  obtain⟨m1,m2⟩:=oE hgs
  refine wp_region (Sn hQ gs (List.range ops.size) r fr hp a w (by simp[m1]) (fun k i g hk hg=> ?_) bk hs hr hv)
  obtain⟨o,ho,aa⟩:=m2 k g hg
  have z7:k<ops.size:=by have:=(Kae.1 hk).1;simpa using this
  rw[Kb8 z7]at hk
  cases hk
  exact⟨o,by simpa using ho,aa⟩
end
end Go.FW
