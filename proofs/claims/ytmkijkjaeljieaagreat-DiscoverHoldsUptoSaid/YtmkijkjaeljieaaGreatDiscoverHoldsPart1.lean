/- Part 1 of the proof of DiscoverHolds: FwA, FwRA, FwRB, FwRC, FwRD. Own lemmas; no conditions. -/
import Derived.Test.YtmkijkjaeljieaaGreatDiscoverHoldsPart0
import Derived.WalkKit
import Derived.RangeFuncNested
import Derived.Laws.AppendOwn
import Derived.OrdersIn
import Derived.TacticsIn
import Derived.BigFrameIn
import Derived.Maps.AppendAt
import Derived.Deep.AppendSrc
import Derived.OwnWalkIn
set_option maxHeartbeats 1000000
set_option linter.unusedSimpArgs false
set_option linter.unusedVariables false
set_option linter.unnecessarySimpa false
set_option maxRecDepth 100000
namespace Go.FW
open Go
inductive PV where
 |undef
 |int (k:IntKind) (n:Int)
 |bool (b:Bool)
 |ab
 |sl (e:Nat) (xs:List PV)
 |agg (cs:List PV)
 |aK (vs:List PV)
 |fn (f:FuncId) (first cap:List PV)
 |pt (cs:List PV)
 |mp (O i o:Nat)
 |ax (O o n:Nat)
 |rb (O o n:Nat)
 |aL (γ o n:Nat)
 |np (γ i o:Nat)
 |aP (cs:List PV)
 |fb (cs:List PV)
 |aJ (γ e ty:Nat) (xs:List PV)
 |str (s:ByteArray)
 |dx (cs:List PV) (q:PV)
 deriving Inhabited
abbrev PV.ms(O n:Nat):PV:=.ax O 0 n
def PV.cells:PV->List PV
 |.agg cs=>cs
 |x=>[x]
def PV.bg:PV->List PV
 |.aP cs=>cs
 |x=>x.cells
def PV.iz:PV->Bool
 |.undef=>false
 |_=>true
def PV.aG:PV->Bool
 |.int .. | .bool _| .ab| .sl .. | .agg _| .pt _| .str _=>true
 |.fn _ first cap=>first.all PV.iz&&cap.all PV.iz
 |_=>false
inductive Qn(w:World)(X:Nat->Prop):PV->Value->Prop
 |int (k:IntKind) (n:Int):Qn w X (.int k n) (.int k n)
 |bool (b:Bool):Qn w X (.bool b) (.bool b)
 |str (s:ByteArray):Qn w X (.str s) (.string s)
 |ab:Qn w X .ab (.slice none 0 0)
 |gC (e:Nat) (a:Option Addr) (cap:Nat) (hc:cap<=maxLen):Qn w X (.sl e []) (.slice a 0 cap)
 | sl (e:Nat) (xs:List PV) (b off cap:Nat) (vs:Nat->Nat->Value) (hX:¬X b) (hb:b<w.heap.size) (hl:xs.length<=cap) (hc:cap<=maxLen)
   (he:∀(i:Nat)(x:PV),xs[i]? =some x->x.cells.length=e)
   (hv:∀i,i<xs.length->∀j,j<e->w.cell? ⟨b,off+i*e+j,none⟩=some (vs i j))
   (hr:∀(i:Nat)(x:PV),xs[i]? =some x->∀(j:Nat)(y:PV),x.cells[j]? =some y->Qn w X y (vs i j)):
   Qn w X (.sl e xs) (.slice (some ⟨b,off,none⟩) xs.length cap)
 | pt (cs:List PV) (b off:Nat) (vs:Nat->Value) (hX:¬X b) (hb:b<w.heap.size)
   (hv:∀j,j<cs.length->w.cell? ⟨b,off+j,none⟩=some (vs j))
   (hr:∀(j:Nat)(y:PV),cs[j]? =some y->Qn w X y (vs j)):
   Qn w X (.pt cs) (.pointer (some ⟨b,off,none⟩))
 | fn (f:FuncId) (first cap:List PV) (fv cv:Array Value) (h1:fv.size=first.length) (h2:cv.size=cap.length)
   (sD:∀(i:Nat)(x:PV),first[i]? =some x->Qn w X x (fv.getD i undef)) (lH:∀(i:Nat)(x:PV),cap[i]? =some x->Qn w X x (cv.getD i undef)):
   Qn w X (.fn f first cap) (.func (.func f) fv cv)
structure Ext(Y:Nat->Prop)(w w':World):Prop where
 os:w'.os=w.os
 tape:w'.tape=w.tape
 output:w'.output=w.output
 size:w.heap.size<=w'.heap.size
 block:∀b,b<w.heap.size->¬Y b->w'.heap[b]? =w.heap[b]?
theorem Ext.refl(Y:Nat->Prop)(w:World):Ext Y w w:=⟨rfl,rfl,rfl,Nat.le_refl _,fun _ _ _=>rfl⟩
theorem Ext.trans{Y:Nat->Prop}{a b c:World}(h:Ext Y a b)(k:Ext Y b c):Ext Y a c:=
  ⟨k.os.trans h.os,k.tape.trans h.tape,k.output.trans h.output,Nat.le_trans h.size k.size,
   fun i hi hY=>(k.block i (Nat.lt_of_lt_of_le hi h.size) hY).trans (h.block i hi hY)⟩
theorem Ext.mono{Y Y':Nat->Prop}{a b:World}(h:Ext Y a b)(hY:∀i,i<a.heap.size->Y i->Y' i):Ext Y' a b:=
 ⟨h.os,h.tape,h.output,h.size,fun i hi hn=>h.block i hi (fun hy=>hn (hY i hi hy))⟩
theorem Ext.trans'{Y Y':Nat->Prop}{a b c:World}(h:Ext Y a b)(k:Ext Y' b c)(hY:∀i,i<a.heap.size->Y' i->Y i):Ext Y a c:=
  ⟨k.os.trans h.os,k.tape.trans h.tape,k.output.trans h.output,Nat.le_trans h.size k.size,
   fun i hi hn=>(k.block i (Nat.lt_of_lt_of_le hi h.size) (fun hy=>hn (hY i hi hy))).trans (h.block i hi hn)⟩
def Q5:Nat->Prop:=fun _=>False
theorem xU{w w':World}{a:Addr}(h:w'.heap[a.block]? =w.heap[a.block]?):w'.cell? a=w.cell? a:=by simp[World.cell?,h]
theorem Q6n{w:World}{b o:Nat}{v:Value}(h:w.cell? ⟨b,o,none⟩=some v):b<w.heap.size:=by
 rcases Nat.lt_or_ge b w.heap.size with h'|h'
 ·exact h'
 ·simp[World.cell?,Array.getElem?_eq_none h']at h
theorem Qn.mono{w w':World}{X X':Nat->Prop}{p:PV}{v:Value}(h:Qn w X p v)
  (hb:∀b,b<w.heap.size->¬X b->w'.heap[b]? =w.heap[b]?) (hx:∀b,b<w.heap.size->¬X b->¬X' b) (hs:w.heap.size<=w'.heap.size):Qn w' X' p v:=by
 induction h with
 |int k n=>exact .int k n
 |bool b=>exact .bool b
 |str s=>exact .str s
 |ab=>exact .ab
 |gC e a cap hc=>exact .gC e a cap hc
 | sl e xs b off cap vs hX au hl hc he hv hr ih=>
  exact .sl e xs b off cap vs (hx b au hX) (Nat.lt_of_lt_of_le au hs) hl hc he
   (fun i hi j hj=>by rw[xU (hb b au hX)];exact hv i hi j hj) (fun i x aX j y hy=>ih i x aX j y hy)
 |pt cs b off vs hX au hv hr ih=>exact .pt cs b off vs (hx b au hX) (Nat.lt_of_lt_of_le au hs) (fun j hj=>by rw[xU (hb b au hX)];exact hv j hj) (fun j y hy=>ih j y hy)
 |fn f first cap fv cv h1 h2 sD lH ih1 Ol=>exact .fn f first cap fv cv h1 h2 ih1 Ol
theorem Qn.uf{w:World}{X:Nat->Prop}{p:PV}{v:Value}(h:Qn w X p v):v.oneCell'=true/\v.cells= #[v]/\p.cells=[p]:=by cases h<;>exact⟨rfl,rfl,rfl⟩
def Q8(w:World)(X:Nat->Prop):PV->Value->Prop
 |.agg cs,v=>∃vs:Array Value,v= .agg vs/\vs.size=cs.length/\∀i x,cs[i]? =some x->Qn w X x (vs.getD i undef)
 |p,v=>Qn w X p v
def eX(w:World)(X:Nat->Prop):PV->Value->Prop
 |.aK ps,v=>∃vs:Array Value,v= .tuple vs/\vs.size=ps.length/\∀i x,ps[i]? =some x->Q8 w X x (vs.getD i undef)
 |p,v=>Q8 w X p v
theorem Q8.mono{w w':World}{X X':Nat->Prop}{p:PV}{v:Value}(h:Q8 w X p v)
  (hb:∀b,b<w.heap.size->¬X b->w'.heap[b]? =w.heap[b]?) (hx:∀b,b<w.heap.size->¬X b->¬X' b) (hs:w.heap.size<=w'.heap.size):Q8 w' X' p v:=by
 cases p with
 |agg cs=>obtain⟨vs,rfl,h1,h2⟩:=h;exact⟨vs,rfl,h1,fun i x hi=>(h2 i x hi).mono hb hx hs⟩
 |_=>exact Qn.mono h hb hx hs
theorem eX.mono{w w':World}{X X':Nat->Prop}{p:PV}{v:Value}(h:eX w X p v)
  (hb:∀b,b<w.heap.size->¬X b->w'.heap[b]? =w.heap[b]?) (hx:∀b,b<w.heap.size->¬X b->¬X' b) (hs:w.heap.size<=w'.heap.size):eX w' X' p v:=by
 cases p with
 |aK ps=>obtain⟨vs,rfl,h1,h2⟩:=h;exact⟨vs,rfl,h1,fun i x hi=>(h2 i x hi).mono hb hx hs⟩
 |agg cs=>exact Q8.mono (p:=.agg cs) h hb hx hs
 |_=>exact Qn.mono h hb hx hs
theorem eX.of1{w:World}{X:Nat->Prop}{p:PV}{v:Value}(h:Q8 w X p v):eX w X p v:=by
 cases p with
 |aK ps=>cases h
 |_=>exact h
theorem Q8.data{w:World}{X:Nat->Prop}{p:PV}{v:Value}(h:Q8 w X p v):p.aG=true:=by
 have hu:∀(x:PV)(u:Value),Qn w X x u->x.iz=true:=fun x u hx=>by cases hx<;>rfl
 have bC:∀(l:List PV)(vs:Array Value),(∀(i:Nat)(x:PV),l[i]? =some x->Qn w X x (vs.getD i undef))->l.all PV.iz=true:=fun l vs hl=>by rw[List.all_eq_true];intro x hx;obtain⟨i,hi⟩:=List.getElem?_of_mem hx;exact hu x _ (hl i x hi)
 cases p with
 |agg cs=>rfl
 |fn f first cap=>
  have h':Qn w X (.fn f first cap) v:=h;cases h' with
  |fn _ _ _ fv cv h1 h2 h3 h4=>simp[PV.aG,bC _ _ h3,bC _ _ h4]
 |_=>cases h<;>rfl
theorem Q8.cells{w:World}{X:Nat->Prop}{p:PV}{v:Value}(h:Q8 w X p v):
  v.cells.size=p.cells.length/\∀j y,p.cells[j]? =some y->Qn w X y (v.cells.getD j undef):=by
 by_cases ha:∃cs,p= .agg cs
 ·obtain⟨cs,rfl⟩:=ha;obtain⟨vs,rfl,h1,h2⟩:=h;exact⟨h1,h2⟩
 ·have hc:Qn w X p v:=by
   cases p with
   |agg cs=>exact absurd ⟨cs,rfl⟩ ha
   |_=>exact h
  obtain⟨_,h2,h3⟩:=hc.uf;rw[h2,h3];refine⟨rfl,fun j y hy=>?_⟩
  match j,hy with
  |0,hy=>simp at hy;subst hy;exact hc
  |j+1,hy=>simp at hy
theorem Q8.sN{w:World}{X:Nat->Prop}{p:PV}{v:Value}(h:Qn w X p v):Q8 w X p v:=by
 cases p with
 |agg cs=>cases h
 |_=>exact h
theorem Q8.aaV{w:World}{X:Nat->Prop}{p:PV}{v:Value}(h:Q8 w X p v):∀u∈v.cells.toList,u.oneCell'=true:=by
 intro u hu;obtain⟨h1,h2⟩:=h.cells;obtain⟨j,hj,rfl⟩:=List.getElem_of_mem hu;have aT:j<v.cells.size:=by simpa using hj
 have hp:j<p.cells.length:=by omega
 have:=(h2 j p.cells[j] (List.getElem?_eq_getElem hp)).uf.1;simpa[Array.getD,aT]using this
abbrev Ka0:=@Nat.mul_add
abbrev Ka1:=@Nat.zero_add
abbrev Ka2:=@Bool.and_eq_true
abbrev Ka3:=@List.getElem?_append
abbrev Ka4:=@List.getElem?_drop
abbrev Ka5:=@Nat.mul_comm
abbrev Ka6:=@Nat.zero_le
abbrev Ka7:=@List.replicate_zero
abbrev Ka8:=@List.append_assoc
abbrev Ka9:=@Option.getD_some
abbrev KaA:=@List.mem_map
abbrev KaB:=@List.length_take
abbrev KaC:=@List.flatMap_cons
abbrev KaD:=@Option.some.injEq
abbrev KaE:=@Nat.lt_of_lt_of_le
abbrev KaF:=@List.getElem?_of_mem
abbrev KaG:=@List.getElem_of_mem
abbrev KaH:=@List.mem_cons
abbrev KaI:=@List.getElem?_take_of_lt
abbrev KaJ:=@List.length_map
abbrev KaK:=@List.contains_cons
abbrev KaL:=@Array.getD_eq_getD_getElem?
abbrev KaM:=@Nat.add_mul
abbrev KaN:=@List.flatMap_nil
abbrev KaO:=@Nat.mod_eq_of_lt
abbrev KaP:=@Nat.add_zero
abbrev KaQ:=@Nat.le_trans
abbrev KaR:=@List.length_nil
abbrev KaS:=@List.mem_append
abbrev KaT:=@List.contains_nil
abbrev KaU:=@List.any_eq_true
abbrev KaV:=@List.size_toArray
abbrev KaW:=@Sem.run_pure
abbrev KaX:=@List.map_congr_left
abbrev KaY:=@Bool.false_eq_true
abbrev KaZ:=@List.mem_cons_of_mem
abbrev Kaa:=@Option.map_eq_some_iff
abbrev Kab:=@Option.bind_eq_some_iff
abbrev Kac:=@List.getD_eq_getElem?_getD
abbrev Kad:=@List.getElem?_eq_getElem
abbrev Kae:=@Nat.le_refl
abbrev Kaf:=@List.getElem?_eq_some_iff
abbrev Kag:=@List.getElem_mem
abbrev Kah:=@List.take_of_length_le
abbrev Kai:=@List.mem_of_getElem?
abbrev Kaj:=@Result.andThen_ok
abbrev Kak:=@List.append_nil
abbrev Kal:=@Sem.run_bind
abbrev Kam:=@Nat.mul_le_mul_right
abbrev Kan:=@Array.getElem?_eq_some_iff
abbrev Kao:=@List.getElem?_map
abbrev Kap:=@List.length_append
abbrev Kaq:=@List.mem_flatMap
abbrev Kar:=@List.take_succ_eq_append_getElem
abbrev Kas:=@List.length_eq_zero_iff
abbrev Kat:=@List.drop_of_length_le
abbrev Kau:=@List.nil_append
abbrev Kav:=@List.all_eq_true
abbrev Kaw:=@List.cons_append
abbrev Kax:=@List.drop_eq_getElem_cons
abbrev Kay:=@List.mem_singleton
abbrev Kaz:=@List.length_cons
abbrev Kb0:=@World.cell?_of_block
abbrev Kb1:=@Nat.lt_or_ge
abbrev Kb2:=@Nat.add_comm
abbrev Kb3:=@Nat.zero_mul
abbrev Kb4:=@Nat.mul_zero
abbrev Kb5:=@Rat.intCast_le_intCast
abbrev Kb6:=@Array.getElem?_setIfInBounds_ne
abbrev Kb7:=@Nat.min_eq_left
abbrev Kb8:=@List.getElem?_eq_none
abbrev Kb9:=@Rat.mul_le_mul_of_nonneg_right
abbrev KbA:=@List.getElem?_append_left
abbrev KbB:=@Rat.intCast_natCast
abbrev KbC:=@Nat.mod_lt
abbrev KbD:=@Nat.pow_le_pow_right
abbrev KbE:=@Bool.or_eq_true
abbrev KbF:=@List.drop_zero
abbrev KbG:=@List.map_nil
abbrev KbH:=@Nat.pow_succ
abbrev KbI:=@Nat.eq_of_mul_eq_mul_right
abbrev KbJ:=@List.getElem_map
abbrev KbK:=@List.length_drop
abbrev KbL:=@Nat.mul_left_comm
abbrev KbM:=@List.headD_eq_head?_getD
abbrev KbN:=@List.replicate_succ
abbrev KbO:=@List.append_cons
abbrev KbP:=@List.mem_of_mem_drop
abbrev KbQ:=@Addr.add_lit
abbrev KbR:=@Array.eq_empty_of_size_eq_zero
abbrev KbS:=@List.map_append
abbrev KbT:=@Option.map_some
abbrev KbU:=@Nat.mul_le_mul
abbrev KbV:=@List.eq_nil_of_length_eq_zero
abbrev KbW:=@Nat.add_assoc
abbrev KbX:=@Option.bind_eq_bind
abbrev KbY:=@Nat.pow_pos
abbrev KbZ:=@Nat.add_sub_cancel
abbrev Kba:=@List.take_length
abbrev Kbb:=@Nat.pos_of_ne_zero
abbrev Kbc:=@Array.replicate_succ
abbrev Kbd:=@Array.replicate_zero
abbrev Kbe:=@List.append_toArray
abbrev Kbf:=@Nat.mul_le_mul_left
abbrev Kbg:=@World.size_alloc
abbrev Kbh:=@List.not_mem_nil
abbrev Kbi:=@List.mem_of_mem_take
abbrev Kbj:=@Array.getElem?_eq_getElem
abbrev Kbk:=@List.take_append_drop
abbrev Kbl:=@Array.getElem?_eq_none
abbrev Kbm:=@List.getElem?_append_right
abbrev Kbn:=@List.map_cons
abbrev Kbo:=@Nat.mul_assoc
abbrev Kbp:=@Nat.div_lt_iff_lt_mul
abbrev Kbq:=@List.getLast?_eq_getElem?
abbrev Kbr:=@List.push_toArray
abbrev Kbs:=@Int.toNat_natCast
abbrev Kbt:=@List.mem_cons_self
abbrev Kbu:=@Int.natAbs_natCast
abbrev Kbv:=@Nat.div_add_mod
abbrev Kbw:=@Nat.sub_self
abbrev Kbx:=@Option.ne_none_iff_exists'
abbrev Kby:=@List.mem_append_right
abbrev Kbz:=@Array.mapM_eq_mapM_toList
abbrev KcA:=@Rat.mul_nonneg
abbrev KcB:=@List.filterMap_nil
abbrev KcC:=@Nat.lt_of_le_of_lt
abbrev KcD:=@List.getLast?_cons
abbrev KcE:=@Nat.one_mul
abbrev KcF:=@Option.some.inj
abbrev KcG:=@Nat.div_le_self
abbrev KcH:=@Nat.gcd_comm
abbrev KcI:=@List.any_eq_false
abbrev KcJ:=@Bool.eq_false_iff
abbrev KcK:=@Int.fdiv_eq_ediv_of_nonneg
abbrev KcL:=@Rat.mkRat_self
abbrev KcM:=@List.getElem?_range
abbrev KcN:=@ByteArray.toList_eq
abbrev KcO:=@List.getElem_append_left
abbrev KcP:=@List.getElem?_cons_zero
abbrev KcQ:=@Bool.false_ne_true
abbrev KcR:=@List.cons.injEq
abbrev KcS:=@Nat.gcd_zero_right
abbrev KcT:=@Rat.natCast_mul
abbrev KcU:=@Nat.mul_pos
abbrev KcV:=@List.getElem_take
abbrev KcW:=@List.map_map
abbrev KcX:=@Nat.gcd_dvd_left
abbrev KcY:=@Nat.gcd_le_right
abbrev KcZ:=@List.mapM_nil
abbrev Kca:=@List.mem_filterMap
abbrev Kcb:=@Option.bind_some
abbrev Kcc:=@List.drop_length
abbrev Kcd:=@List.mem_append_left
abbrev Kce:=@Nat.le_mul_of_pos_right
abbrev Kcf:=@Rat.intCast_eq_zero_iff
abbrev Kcg:=@List.mem_range
abbrev Kch:=@List.mapM_cons
abbrev Kci:=@Array.size_append
abbrev Kcj:=@List.flatMap_append
abbrev Kck:=@List.filterMap_cons
abbrev Kcl:=@Option.pure_def
abbrev Kcm:=@Array.length_toList
abbrev Kcn:=@Nat.mul_one
abbrev Kco:=@List.drop_eq_nil_of_le
abbrev Kcp:=@Nat.sub_zero
abbrev Kcq:=@List.getElem?_take
abbrev Kcr:=@List.take_zero
abbrev Kcs:=@Nat.add_mul_mod_self_left
abbrev Kct:=@Nat.add_mul_div_left
abbrev Kcu:=@List.mem_filter
abbrev Kcv:=@List.head?_drop
abbrev Kcw:=@List.mem_map_of_mem
abbrev Kcx:=@Nat.lt_succ_self
abbrev Kcy:=@Nat.div_eq_of_lt
abbrev Kcz:=@Rat.mul_le_mul_of_nonneg_left
open Go Go.RowKit
structure bT(Y:Nat->Prop)(w w':World):Prop where
 os:w'.os=w.os
 tape:w'.tape=w.tape
 output:w'.output=w.output
 size:w.heap.size<=w'.heap.size
 block:∀b,b<w.heap.size->Y b->w'.heap[b]? =w.heap[b]?
theorem bT.refl(Y:Nat->Prop)(w:World):bT Y w w:=⟨rfl,rfl,rfl,Kae _,fun _ _ _=>rfl⟩
theorem bT.trans{Y:Nat->Prop}{a b c:World}(h:bT Y a b)(k:bT Y b c):bT Y a c:=
 ⟨k.os.trans h.os,k.tape.trans h.tape,k.output.trans h.output,KaQ h.size k.size,fun i hi hY=>(k.block i (KaE hi h.size) hY).trans (h.block i hi hY)⟩
theorem bT.mono{Y Y':Nat->Prop}{a b:World}(h:bT Y a b)(hY:∀i,i<a.heap.size->Y' i->Y i):bT Y' a b:=
 ⟨h.os,h.tape,h.output,h.size,fun i hi hn=>h.block i hi (hY i hi hn)⟩
theorem Ext.kept{X Y:Nat->Prop}{a b:World}(h:Ext X a b)(hY:∀i,i<a.heap.size->Y i->¬X i):bT Y a b:=
 ⟨h.os,h.tape,h.output,h.size,fun i hi hn=>h.block i hi (hY i hi hn)⟩
theorem bT.putObj{Y:Nat->Prop}(W:World)(l:Nat)(o:Obj)(h:¬Y l):bT Y W (W.putObj l o):=
 ⟨rfl,rfl,rfl,by simp,fun _ _ hb=>World.putObj_heap_other (fun e=>h (e▸hb))⟩
theorem bT.alloc(Y:Nat->Prop)(W:World)(o:Obj):bT Y W (W.alloc o):=
 ⟨rfl,rfl,rfl,by simp,fun b hb _=>Below.heap_alloc W o b hb⟩
theorem Ext.putObj{X:Nat->Prop}(W:World)(l:Nat)(o:Obj)(h:X l):Ext X W (W.putObj l o):=
 ⟨rfl,rfl,rfl,by simp,fun b _ hb=>World.putObj_heap_other (fun e=>hb (e▸h))⟩
theorem Ext.fo(X:Nat->Prop)(W:World)(o:Obj):Ext X W (W.alloc o):=
 ⟨rfl,rfl,rfl,by simp,fun b hb _=>Below.heap_alloc W o b hb⟩
def jE(eI:TypeId)(v:Value)(c:List Int)(W:World):Prop:=W.ownsRow 0 eI 1 v c.length (c.map (Value.int .i64))
theorem jE.lt{eI:TypeId}{v:Value}{c:List Int}{W:World}(h:jE eI v c W){b:Nat}(hb:v.ownBlock=some b):∃cur,W.heap[b]? =some (.cells cur eI (0,0)):=by
 rcases h.2 with⟨rfl,_⟩|⟨g,cap,cur,rfl,_,hg,_⟩
 ·cases hb
 ·cases hb;exact⟨cur,hg⟩
theorem jE.kept{eI:TypeId}{v:Value}{c:List Int}{W W':World}(h:jE eI v c W)(hk:∀b,v.ownBlock=some b->W'.heap[b]? =W.heap[b]?):jE eI v c W':=by
 refine⟨h.1,?_⟩;rcases h.2 with h2|⟨g,cap,cur,rfl,h3,hg,h4⟩
 ·exact .inl h2
 ·exact .inr ⟨g,cap,cur,rfl,h3,(hk g rfl).trans hg,h4⟩
structure O4{γ:Type}(J:List γ->(Nat->Prop)->World->Prop):Prop where
 kept:∀s Y W W',J s Y W->bT Y W W'->J s Y W'
 lt:∀s Y W,J s Y W->∀b,Y b->b<W.heap.size
structure kJ(Y:Nat->Prop)(U:Option Nat)(W:World)(Y':Nat->Prop)(W':World):Prop where
 own:∀b,Y' b->Y b∨W.heap.size<=b∨U=some b
 ext:Ext Y W W'
def u0(F:Fence)(P:Program)(g:Nat)(lb:Array Value)(eI:TypeId)(B:Nat->Prop)(xs:List (List Int))(w:World):Prop:=
 ∀ (n l:Nat) (J:List (List Int)->(Nat->Prop)->World->Prop) (Y0:Nat->Prop) (W:World),bT B w W->O4 J->(∀b,Y0 b->¬B b)->
  (∀m pre c m8 v Y W1,xs=pre++c::m8->J pre Y W1->jE eI v c W1->(∀b,v.ownBlock=some b->¬Y b/\W.heap.size<=b)->
   YieldAt F m P l #[v] W1 fun e W'=>e= .returned (.bool true)/\∃Y',J (pre++[c]) Y' W'/\kJ Y v.ownBlock W1 Y' W')->
  J [] Y0 W->
  CallsIn F n P g (#[.func (.yield l) #[] #[]]++lb) W fun e W'=>(∃v,e= .returned v)/\∃Y',J xs Y' W'/\kJ Y0 none W Y' W'
theorem RoundIn.Xg{F:Fence}(hd:F.depth=none){m m':Nat}{P:Program}{l:Nat}{f:FuncId}{tmps:Array Value}{assign body:Code}{w:World}{R:Ending->World->Prop}
  (h:RoundIn F m P l f tmps assign body w R):RoundIn F m' P l f tmps assign body w R:=⟨h.1,fun c cs _=>h.2 c cs (fun d h=>by rw[hd]at h;cases h)⟩
variable {F : Fence} {n : Nat} {P : Program} {w : World}
def Ia(I:List (List Int)->(Nat->Prop)->World->Prop)(s:List (List Int))(Y:Nat->Prop)(U:Option Nat)(W:World):Exit->Act->World->Prop
 |.normal,_,W'=>∃Y',I s Y' W'/\kJ Y U W Y' W'
 |_,_,_=>False
theorem L7{g:Operand}{ps:Array Tmp}{assign body:Code}{Q:Exit->Act->World->Prop}{a:Act}{eI:TypeId}{B:Nat->Prop}{xs:List (List Int)}{w0:World}
  (ua:F.round=none) (hd:F.depth=none) {gf:Nat} {lb:Array Value} (hg:a.eval g= .func (.func gf) #[] lb) (hFg:F.fn gf) (eg:∀args w,(callFunc gf args).run P w= .ok (.enter gf args) w)
  (avA:u0 F P gf lb eI B xs w0) (hw:bT B w0 w) (IS:∀b,B b->b<w0.heap.size) (fZ:ps.size=1)
  (I:List (List Int)->(Nat->Prop)->World->Prop) (hI:O4 I) (Y0:Nat->Prop) (pV:∀b,Y0 b->¬B b) (h0:I [] Y0 w) (WM:Value->Act)
  (at3:∀(l:Nat) (v:Value) (W:World) (K:Act->World->Prop),K (WM v) W->
   assign.wpIn (F.inRound l) (n-1-1) P (Exit.then K (fun _ _ _=>False)) { tmps:=(ps.zip #[v]).foldl (fun t (p,v)=>t.setIfInBounds p v) a.tmps,defers:=[] } W)
  (aua:∀(l:Nat) (pre:List (List Int)) (c:List Int) (m8:List (List Int)) (v:Value) (Y:Nat->Prop) (W:World),xs=pre++c::m8->w.heap.size<=W.heap.size->I pre Y W->jE eI v c W->(∀b,v.ownBlock=some b->¬Y b/\w.heap.size<=b)->
   body.wpIn (F.inRound l) (n-1-1) P (Ia I (pre++[c]) Y v.ownBlock W) (WM v) W)
  (aus:∀(D:Nat)(Y':Nat->Prop)(W:World),w.heap.size<=D->¬Y' D->I xs Y' W->kJ Y0 none w Y' W->W.heap[D]? =some (.deferred (some []))->Q .normal { a with defers:={ target:=.collected D,args:= #[] }::a.defers } W):
  (Code.rangeFunc g ps assign body).wpIn F n P Q a w:=by
 refine wpIn_rangeFunc ?_;intro fn y6;rw[ua];obtain⟨rec,zq⟩:∃rec:LoopState->Option Code->Loop,rec=fun st pe=>{ state:=st,pending:=pe,fn,tmps:=a.tmps,params:=ps,assign,body,defers:=w.heap.size }:=⟨_,rfl⟩
 obtain⟨W1,qL⟩:∃W1,(w.alloc (.deferred (some []))).alloc (.loop (rec .ready none))=W1:=⟨_,rfl⟩
 have qK:W1.heap[w.heap.size+1]? =some (.loop (rec .ready none)):=by rw[<-qL];have:=World.alloc_heap_new (w.alloc (.deferred (some []))) (.loop (rec .ready none));rwa[Kbg]at this
 have hK1:W1.heap[w.heap.size]? =some (.deferred (some [])):=by rw[<-qL];exact(Below.heap_alloc _ _ _ (by simp)).trans (World.alloc_heap_new w _)
 have fh:W1.heap.size=w.heap.size+2:=by rw[<-qL];simp
 have ZE:∀Y,bT Y w W1:=fun Y=>by rw[<-qL];exact(bT.alloc Y _ _).trans (bT.alloc Y _ _)
 have Jf:∀Y,Ext Y w W1:=fun Y=>by rw[<-qL];exact(Ext.fo Y _ _).trans (Ext.fo Y _ _)
 have hI1:I [] Y0 W1:=hI.kept _ _ _ _ h0 (ZE _);have hYw:=hI.lt _ _ _ h0;refine⟨w.heap.size+1,[{ target:=.collected w.heap.size,args:= #[] }],W1,{ target:=.fn (.func gf) lb,args:= #[.func (.yield (w.heap.size+1)) #[] #[]] },W1,gf,
  #[.func (.yield (w.heap.size+1)) #[] #[]]++lb,W1,?_,?_,?_,?_,?_,?_⟩
 ·rw[<-qL,zq];exact run_enterLoop_outer _ _ _ _ _
 ·simp only[resolve,hg];simp[go_sem]
 ·intro f' BG;simp[Target.leads]at BG;subst BG;exact hFg
 ·simp[invoke,go_sem,eg]
 ·intro h;rw[hd]at h;cases h
 ·
  refine(avA (n-1) (w.heap.size+1)
   (fun pre Y W=>∃Yi,(∀b,Y b↔Yi b∨b=w.heap.size∨b=w.heap.size+1)/\(∀b,Yi b->b≠w.heap.size/\b≠w.heap.size+1)/\I pre Yi W/\W.heap[w.heap.size+1]? =some (.loop (rec .ready none))/\W.heap[w.heap.size]? =some (.deferred (some [])))
   (fun b=>Y0 b∨b=w.heap.size∨b=w.heap.size+1)
   W1 (hw.trans (ZE _)) ⟨?_,?_⟩ ?_ ?_ ⟨Y0,fun _=>Iff.rfl,fun b hb=>by have:=hYw b hb;omega,hI1,qK,hK1⟩).mono ?_
  ·rintro s Y W W' ⟨Yi,h1,h2,h3,h4,h5⟩ hk;exact⟨Yi,h1,h2,hI.kept _ _ _ _ h3 (hk.mono fun b _ hb=>(h1 b).2 (.inl hb)),(hk.block _ (Kan.1 h4).1 ((h1 _).2 (by simp))).trans h4,(hk.block _ (Kan.1 h5).1 ((h1 _).2 (by simp))).trans h5⟩
  ·rintro s Y W ⟨Yi,h1,h2,h3,h4,h5⟩ b hb;rcases(h1 b).1 hb with h|rfl|rfl
   ·exact hI.lt _ _ _ h3 b h
   ·exact(Kan.1 h5).1
   ·exact(Kan.1 h4).1
  ·rintro b (h|rfl|rfl) hB
   ·exact pV b h hB
   ·have:=IS _ hB;have:=hw.size;omega
   ·have:=IS _ hB;have:=hw.size;omega
  ·
   rintro m pre c m8 v Y W mV ⟨Yi,hY,vA,hi,hl,hk⟩ hv zA;have ao:w.heap.size+1<W.heap.size:=(Kan.1 hl).1;have hy:=run_yield (P:=P) (args:= #[v]) hl (by rw[zq];simp[fZ]);rw[zq]at hy;have cT:v.ownBlock≠some (w.heap.size+1):=fun e=>by obtain⟨cur,h⟩:=hv.lt e;rw[hl]at h;cases h
   have Jz:v.ownBlock≠some w.heap.size:=fun e=>by obtain⟨cur,h⟩:=hv.lt e;rw[hk]at h;cases h
   obtain⟨W2,gL⟩:∃W2,W.putObj (w.heap.size+1) (.loop { rec .ready none with state:=.busy })=W2:=⟨_,rfl⟩
   have axM:W2.heap.size=W.heap.size:=by rw[<-gL];simp
   have jM:W2.heap[w.heap.size+1]? =some (.loop { rec .ready none with state:=.busy }):=by rw[<-gL];exact World.putObj_heap_same ao
   have iy:W2.heap[w.heap.size]? =some (.deferred (some [])):=by rw[<-gL];exact(World.putObj_heap_other (by omega)).trans hk
   refine⟨fn,_,assign,body,hy,RoundIn.Xg hd (roundIn_of_wpIn y6 (at3 _ v W _ ⟨_,run_beginRound hl (by rw[zq]),?_⟩))⟩;rw[gL];refine wpIn_mono (aua _ pre c m8 v Yi W2 mV (by omega) (hI.kept _ _ _ _ hi (by rw[<-gL];exact bT.putObj _ _ _ (fun h=>(vA _ h).2 rfl))) (hv.kept fun b hb=>by rw[<-gL];exact World.putObj_heap_other (fun e=>cT (by rw[hb,e]))) (fun b hb=>⟨fun h=>(zA b hb).1 ((hY b).2 (.inl h)),by have:=(zA b hb).2;omega⟩)) ?_;rintro e a3 W3 hp;cases e with
   | normal=>
    obtain⟨Y',Ze,aS,fX⟩:=hp;have y9:=(fX.block _ (Kan.1 jM).1 (fun h=>(vA _ h).2 rfl)).trans jM;have hk3:=(fX.block _ (Kan.1 iy).1 (fun h=>(vA _ h).1 rfl)).trans iy;have hr:=run_endRound (P:=P) none y9;have XE:∀b,Y' b->b≠w.heap.size/\b≠w.heap.size+1:=fun b hb=>by
     rcases aS b hb with h|h|h
     ·exact vA b h
     ·omega
     ·exact⟨fun e=>Jz (by rw[h,e]),fun e=>cT (by rw[h,e])⟩
    refine⟨_,_,hr,rfl,fun b=>Y' b∨b=w.heap.size∨b=w.heap.size+1,⟨Y',fun _=>Iff.rfl,XE,hI.kept _ _ _ _ Ze (bT.putObj _ _ _ (fun h=>(XE _ h).2 rfl)),?_,(World.putObj_heap_other (by omega)).trans hk3⟩,?_,?_⟩
    ·rw[World.putObj_heap_same (Kan.1 y9).1,zq];rfl
    ·rintro b (h|rfl|rfl)
     ·rcases aS b h with h|h|h
      ·exact .inl ((hY b).2 (.inl h))
      ·exact .inr (.inl (by omega))
      ·exact .inr (.inr h)
     ·exact .inl ((hY _).2 (by simp))
     ·exact .inl ((hY _).2 (by simp))
    ·refine Ext.trans (b:=W2) ?_ (Ext.trans (fX.mono fun b _ h=>(hY b).2 (.inl h)) (Ext.putObj _ _ _ ((hY _).2 (by simp))));rw[<-gL];exact Ext.putObj _ _ _ ((hY _).2 (by simp))
   |ret=>exact hp.elim
   |exit id=>exact hp.elim
   |goto t=>exact hp.elim
   |panic ch=>exact hp.elim
   |outgrown=>exact hp.elim
  ·
   rintro e W2 ⟨⟨v,rfl⟩,Y',⟨Yi,hY,vA,hi,hl,hk⟩,aS,fX⟩;refine⟨none,_,by have:=run_endLoop (P:=P) hl (by rw[zq];simp);rw[zq]at this;exact this,aus _ Yi _ (Kae _) (fun h=>(vA _ h).1 rfl) (hI.kept _ _ _ _ hi (bT.putObj _ _ _ (fun h=>(vA _ h).2 rfl))) ⟨fun b hb=>?_,?_⟩ ((World.putObj_heap_other (by omega)).trans hk)⟩
   ·rcases aS b ((hY b).2 (.inl hb))with(h|h|h)|h|h
    ·exact .inl h
    ·exact absurd h (vA b hb).1
    ·exact absurd h (vA b hb).2
    ·exact .inr (.inl (by omega))
    ·cases h
   ·refine⟨fX.os.trans (Jf Y0).os,fX.tape.trans (Jf Y0).tape,fX.output.trans (Jf Y0).output,by have:=fX.size;simp;omega,fun b hb hn=>?_⟩;rw[World.putObj_heap_other (by omega)];exact(fX.block b (by omega) (fun h=>by rcases h with h|h|h;exact hn h;omega;omega)).trans ((Jf Y0).block b hb hn)
end Go.FW
namespace Go.FW
open Go Go.RowKit
section
variable {F : Fence} {n : Nat} {P : Program} {ops : Array Oper} {Q : Exit -> Act -> World -> Prop}
def ra:List Bool->Nat
 | []=>0
 |true::l=>ra l
 |false::l=>ra l+1
theorem QH:∀ {l:List Bool} {i:Nat},l[i]? =some false->ra (l.set i true)+1=ra l
 | [],i,h=>by simp at h
 |b::l,0,h=>by simp at h;subst h;simp[ra]
 |b::l,i+1,h=>by simp at h;have:=QH h;cases b<;>simp[ra]<;>omega
theorem QI:∀(n:Nat),ra (List.replicate n false)=n
 |0=>rfl
 |n+1=>by simp[KbN,ra,QI n]
theorem Pc:∀ {l:List Bool} {i:Nat},ra l=0->l[i]? ≠some false
 | [],i,_=>by simp
 |true::l,0,_=>by simp
 |true::l,i+1,h=>by simpa using Pc (l:=l) (i:=i) (by simpa[ra]using h)
 |false::l,_,h=>by simp[ra]at h
def qY(l:Array Bool):Nat->Bool:=fun i=>l.getD i false
theorem aiD{l:Array Bool}{i:Nat}(h:l.getD i true=false):qY (l.setIfInBounds i true)=fun k=>k==i||qY l k:=by
 funext k;unfold qY;have hi:i<l.size:=by
  rcases Kb1 i l.size with h'|h'
  ·exact h'
  ·simp[Kbl h']at h
 by_cases hk:i=k
 ·subst hk;simp[hi]
 ·rw[getD_set_ne false hk];simp[Ne.symm hk]
def nD(ops:Array Oper)(i:Nat):List Nat:=match ops[i]? with
 |some o=>(o.after.toList.filter (Region.binds .any)).map (·.on)
 |none=>[]
theorem Q9e(I:(Nat->Bool)->Act->World->Prop)
  (ao:∀i,i<ops.size->∀k∈nD ops i,k<i)
  (iM:∀l i,i<ops.size->l i=false->(∀k∈nD ops i,l k=true)->∀a w,I l a w->wpOpIn F n P ops Q i (I (fun k=>k==i||l k)) a w)
  (mO:∀l a w,(∀i,i<ops.size->l i=true)->I l a w->Q .normal a w):
  ∀(m:Nat)(l:Array Bool)(a:Act)(w:World),ra l.toList=m->l.size=ops.size->I (qY l) a w->wpAnyIn F n P .any ops Q m l a w:=by
 have fin:∀(l:Array Bool),Region.ready .any ops l=[]->l.size=ops.size->∀i,i<ops.size->qY l i=true:=by
  intro l hr hz i;induction i using Nat.strongRecOn with
  | ind i ih=>
   intro hi;cases h:qY l i with
   |true=>rfl
   | false=>
    exfalso;have ho:ops[i]? =some ops[i]:=by simp[hi]
    have:i∈Region.ready .any ops l:=by
     refine mem_ready.2 ⟨?_,_,ho,?_⟩
     ·unfold qY at h;have fp:i<l.size:=by omega
      simp[fp]at h⊢;exact h
     ·intro e he hb;have hk:e.on∈nD ops i:=by unfold nD;rw[ho];exact KaA.2 ⟨e,Kcu.2 ⟨by simpa using he,hb⟩,rfl⟩
      have vF:=ao i hi _ hk;exact ih e.on vF (by omega)
    rw[hr]at this;cases this
 intro m;induction m with
 | zero=>
  intro l a w hn hz hI;have hr:Region.ready .any ops l=[]:=by
   cases h:Region.ready .any ops l with
   |nil=>rfl
   |cons i is=>
    have hm:i∈Region.ready .any ops l:=by rw[h];exact Kbt
    obtain⟨h1,_⟩:=mem_ready.1 hm;refine absurd ?_ (Pc (i:=i) hn);rcases Kb1 i l.size with h'|h'
    ·simp[h']at h1 ⊢;exact h1
    ·simp[Kbl h']at h1
  exact⟨hr,mO _ a w (fin l hr hz) hI⟩
 | succ m ih=>
  intro l a w hn hz hI;refine⟨fun hr=>mO _ a w (fin l hr hz) hI,fun i hi=>?_⟩;obtain⟨h1,o,ho,h2⟩:=mem_ready.1 hi;have fp:i<l.size:=by
   rcases Kb1 i l.size with h'|h'
   ·exact h'
   ·simp[Kbl h']at h1
  have hls:qY l i=false:=by unfold qY;simp[fp]at h1⊢;exact h1
  refine wpOpIn_mono (fun a' w' hA=>?_) (iM (qY l) i (by omega) hls ?_ a w hI)
  ·have:=QH (l:=l.toList) (i:=i) (by simp[fp]at h1 ⊢;exact h1);exact ih _ a' w' (by rw[Array.toList_setIfInBounds];omega) (by simpa using hz) (by rw[aiD h1];exact hA)
  ·intro k hk;unfold nD at hk;rw[ho]at hk;obtain⟨e,he,rfl⟩:=KaA.1 hk;obtain⟨he,hb⟩:=Kcu.1 he;exact h2 e (by simpa using he) hb
theorem age{id:Nat}{a:Act}{w:World}(hm:P.follows .mixedOrders=true)(I:(Nat->Bool)->Act->World->Prop)
  (ao:∀i,i<ops.size->∀k∈nD ops i,k<i) (h0:I (fun _=>false) a w.drew)
  (iM:∀l i,i<ops.size->l i=false->(∀k∈nD ops i,l k=true)->∀a w,I l a w->wpOpIn F n P ops Q i (I (fun k=>k==i||l k)) a w)
  (mO:∀l a w,(∀i,i<ops.size->l i=true)->I l a w->Q .normal a w):(Code.region id ops true).wpIn F n P Q a w:=by
 refine wpIn_region_any hm (Q9e I ao iM mO _ _ a _ ?_ (by simp) ?_)
 ·rw[Array.toList_replicate,QI]
 ·have:qY (Array.replicate ops.size false)=fun _=>false:=by funext k;unfold qY;simp[Array.getD]
  rw[this];exact h0
theorem QJ{tmps:Array Value}{d k:Nat}{v:Value}(h:d≠k):(tmps.setIfInBounds d v)[k]?.getD undef=tmps[k]?.getD undef:=by simp[Kb6 h]
structure kK(ops:Array Oper)(N:Nat)(V:Nat->Value)(Z:List (Nat×Value))(Wd:(Nat->Bool)->World->Prop)(l:Nat->Bool)(a:Act)(w:World):Prop where
 d0:a.defers=[]
 sz:a.tmps.size=N
 fixed:∀z∈Z,a.tmps[z.1]?.getD undef=z.2
 slot:∀i o d,l i=true->ops[i]? =some o->o.dst=some d->a.tmps[d]?.getD undef=V i
 cl:∀j,l j=true->∀k∈nD ops j,l k=true
 wd:Wd l w
def Bi(ops:Array Oper)(N:Nat)(Z:List (Nat×Value))(i:Nat):Bool:=
 match(ops[i]?).bind (·.dst)with
 |some d=>decide (d<N)&&Z.all (fun z=>z.1 !=d)&&(List.range ops.size).all fun j=>j==i||(ops[j]?).bind (·.dst) !=some d
 |none=>false
variable {N : Nat} {V : Nat -> Value} {Z : List (Nat × Value)} {Wd : (Nat -> Bool) -> World -> Prop} {l : Nat -> Bool} {a : Act} {w w' : World} {i : Nat}
theorem kK.put(h:kK ops N V Z Wd l a w)(aB:∀k∈nD ops i,l k=true)(ha:Bi ops N Z i=true){o:Oper}(ho:ops[i]? =some o)(hw:Wd (fun k=>k==i||l k) w'):
  kK ops N V Z Wd (fun k=>k==i||l k) (a.put o.dst (V i)) w':=by
 unfold Bi at ha;rw[ho]at ha;cases hd:o.dst with
 |none=>simp[hd]at ha
 | some d=>
  simp only[Kcb,hd,Ka2,decide_eq_true_eq,Kav,Kcg,bne_iff_ne,KbE,beq_iff_eq]at ha;obtain⟨⟨h1,h2⟩,h3⟩:=ha;have hp:a.put (some d) (V i)={ a with tmps:=a.tmps.setIfInBounds d (V i) }:=rfl;rw[hp];refine⟨h.d0,by simp[h.sz],fun z hz=>?_,fun j oj dj hj tX EG=>?_,fun j hj k hk=>?_,hw⟩
  ·rw[<-h.fixed z hz];have:=h2 z hz;simp only;rw[QJ (Ne.symm this)]
  ·simp only;by_cases hZ:j=i
   ·subst hZ;rw[ho]at tX;cases tX;rw[hd]at EG;cases EG;simp[h.sz,h1]
   ·have hjs:j<ops.size:=(Kan.1 tX).1;have h4:=(h3 j hjs).resolve_left hZ;rw[tX]at h4;have h5:dj≠d:=fun e=>h4 (by simp[EG,e]);rw[QJ (Ne.symm h5)];exact h.slot j oj dj (by have:(j==i)=false:=(by simpa using hZ);rw[this]at hj;simpa using hj) tX EG
  ·by_cases hZ:j=i
   ·subst hZ;simp[aB k hk]
   ·have:(j==i)=false:=by simpa using hZ
    rw[this]at hj;simp[h.cl j (by simpa using hj) k hk]
theorem kK.val(h:kK ops N V Z Wd l a w)(aB:∀k∈nD ops i,l k=true)(ha:Bi ops N Z i=true){o:Oper}(ho:ops[i]? =some o)(hg:Region.wanted o (yielded ops a.tmps)=true)
  (Et:o.about P w a.eval=none) (hop:∀c,o.op≠ .defer c) (bQ:(execOp a.eval o).run P w= .ok (.value (V i)) w') (hw:Wd (fun k=>k==i||l k) w'):
  wpOpIn F n P ops Q i (kK ops N V Z Wd (fun k=>k==i||l k)) a w:=by
 unfold wpOpIn;rw[ho];simp only[hg,if_true];refine⟨fun f hf=>(by rw[Et]at hf;cases hf),?_⟩;have:o.semAt F.round a.eval=execOp a.eval o:=by
  cases F.round with
  |none=>simp[Oper.semAt]
  |some l=>exact Oper.semAt_some l _ _ hop
 rw[this,bQ];exact h.put aB ha ho hw
theorem kK.skip(h:kK ops N V Z Wd l a w)(aB:∀k∈nD ops i,l k=true)(ha:Bi ops N Z i=true){o:Oper}(ho:ops[i]? =some o)(hg:Region.wanted o (yielded ops a.tmps)=false)
  (Et:∀f,o.about P w a.eval=some f->F.fn f) (hV:V i=undef) (hw:Wd (fun k=>k==i||l k) w):wpOpIn F n P ops Q i (kK ops N V Z Wd (fun k=>k==i||l k)) a w:=by
 unfold wpOpIn;rw[ho];simp only[hg,KaY,if_false];have:=h.put aB ha ho hw;rw[hV]at this;exact⟨Et,this⟩
theorem kK.yld(h:kK ops N V Z Wd l a w)(aB:∀k∈nD ops i,l k=true)(hd:F.depth=none)(ha:Bi ops N Z i=true){o:Oper}(ho:ops[i]? =some o)(hg:Region.wanted o (yielded ops a.tmps)=true){c:Call}(hop:o.op= .call c){f x:Operand}{ty:Array TypeId}
  (hc:c={ callee:=.value f,args:= #[x],argTypes:=ty }) {y:Nat} (hf:a.eval f= .func (.yield y) #[] #[]) {v:Value} (hx:a.eval x=v) {R:Ending->World->Prop} {m:Nat} (hy:YieldAt F m P y #[v] w R)
  (hR:∀e w',R e w'->e= .returned (V i)/\Wd (fun k=>k==i||l k) w'):wpOpIn F n P ops Q i (kK ops N V Z Wd (fun k=>k==i||l k)) a w:=by
 obtain⟨fn,tmps,assign,body,h1,h2⟩:=hy;unfold wpOpIn;rw[ho];simp only[hg,if_true];have fq:(resolve a.eval c o.type).run P w= .ok { target:=.fn (.yield y) #[],args:= #[v] } w:=by subst hc;simp only[resolve,hf,List.map_toArray,Kbn,KbG,hx];rfl
 refine⟨fun g hgf=>?_,?_⟩
 ·simp[Oper.about,hop,fq,Target.leads]at hgf
 ·have:o.semAt F.round a.eval=execOp a.eval o:=by
   cases F.round with
   |none=>simp[Oper.semAt]
   |some l=>exact Oper.semAt_some l _ _ (by rw[hop];intro c h;cases h)
  have bQ:(execOp a.eval o).run P w= .ok (.round y fn tmps assign body) w:=by simp only[execOp,hop,Kal,fq,Result.andThen];simp[go_sem,invoke,h1]
  rw[this,bQ];refine⟨fun h=>(by rw[hd]at h;cases h),(RoundIn.Xg hd h2).mono fun e w' he=>?_⟩;obtain⟨rfl,hw⟩:=hR e w' he;exact h.put aB ha ho hw
theorem kK.app(h:kK ops N V Z Wd l a w)(aB:∀k∈nD ops i,l k=true)(ha:Bi ops N Z i=true){o:Oper}(ho:ops[i]? =some o)(hg:Region.wanted o (yielded ops a.tmps)=true){s x:Operand}{t:TypeId}
  (hop:o.op=Op.call { callee:=Callee.builtin Builtin.append,args:= #[s,x],argTypes:= #[t,t] }) {v u:Value} (hs:a.eval s=v) (hx:a.eval x=u) (bQ:(Builtin.append_ #[t,t] o.type #[v,u]).run P w= .ok (V i) w') (hw:Wd (fun k=>k==i||l k) w'):
  wpOpIn F n P ops Q i (kK ops N V Z Wd (fun k=>k==i||l k)) a w:=by
 refine h.val aB ha ho hg ?_ (by rw[hop];intro c hc;cases hc) ?_ hw
 ·simp[Oper.about,hop,resolve,Target.leads,KaW]
 ·simp[execOp,hop,resolve,invoke,builtin,hs,hx,bQ,Result.andThen]
theorem Hn{id:Nat}{a:Act}{w:World}(hm:P.follows .mixedOrders=true)(N:Nat)(V:Nat->Value)(Z:List (Nat×Value))(Wd:(Nat->Bool)->World->Prop)
  (ao:∀i,i<ops.size->∀k∈nD ops i,k<i) (h0:kK ops N V Z Wd (fun _=>false) a w.drew)
  (iM:∀l i,i<ops.size->l i=false->(∀k∈nD ops i,l k=true)->∀a w,kK ops N V Z Wd l a w->wpOpIn F n P ops Q i (kK ops N V Z Wd (fun k=>k==i||l k)) a w)
  (mO:∀l a w,(∀i,i<ops.size->l i=true)->kK ops N V Z Wd l a w->Q .normal a w):(Code.region id ops true).wpIn F n P Q a w:=
 age hm _ ao h0 iM mO
end
end Go.FW
namespace Go.FW
open Go Go.RowKit
section
variable {F : Fence} {n : Nat} {P : Program}
def eB(lo:Nat):List Deferred->Nat->World->Prop
 | [],_,_=>True
 |d::ds,hi,W=>∃D,d={ target:=.collected D,args:= #[] }/\lo<=D/\D<hi/\W.heap[D]? =some (.deferred (some []))/\eB lo ds D W
def eB.bV:List Deferred->Nat->Prop
 | [],_=>False
 |d::ds,b=>d.target= .collected b∨eB.bV ds b
theorem eB.lt{lo:Nat}{W:World}:∀ {ds:List Deferred} {hi b:Nat},eB lo ds hi W->eB.bV ds b->lo<=b/\b<hi/\W.heap[b]? =some (.deferred (some []))
 | [],_,_,_,h=>h.elim
 |d::ds,hi,b,⟨D,h1,h2,h3,h4,h5⟩,h=>by
  subst h1;rcases h with h|h
  ·cases h;exact⟨h2,h3,h4⟩
  ·have:=eB.lt h5 h;exact⟨this.1,by omega,this.2.2⟩
theorem eB.kept{lo:Nat}{W W':World}:∀ {ds:List Deferred} {hi:Nat},eB lo ds hi W->(∀b,eB.bV ds b->W'.heap[b]? =W.heap[b]?)->eB lo ds hi W'
 | [],_,_,_=>trivial
 |_::_,_,⟨D,h1,h2,h3,h4,h5⟩,h=>⟨D,h1,h2,h3,(h D (.inl (by rw[h1]))).trans h4,h5.kept fun b hb=>h b (.inr hb)⟩
theorem eB.hi{lo:Nat}{W:World}:∀ {ds:List Deferred} {hi aE:Nat},eB lo ds hi W->hi<=aE->eB lo ds aE W
 | [],_,_,_,_=>trivial
 |_::_,_,_,⟨D,h1,h2,h3,h4,h5⟩,h=>⟨D,h1,h2,by omega,h4,h5⟩
theorem G7{fn:Func}{tmps:Array Value}{R:Ending->World->Prop}{lo:Nat}:∀(ds:List Deferred)(hi:Nat)(w:World),eB lo ds hi w->
  (∀w',Ext (fun b=>eB.bV ds b) w w'->LeavesIn F n P fn tmps R [] .returning w')->LeavesInM F n P fn tmps R ds .returning w
 | [],_,w,_,h=>h w (Ext.refl _ _)
 |d::ds,hi,w,⟨D,h1,h2,h3,h4,h5⟩,h=>by
  have hD:∀b,eB.bV ds b->b≠D:=fun b hb e=>by have:=h5.lt hb;omega
  refine⟨by simp,.inl ⟨D,_,by rw[h1],run_takeDeferred h4,G7 ds D _ (h5.kept fun b hb=>World.putObj_heap_other (hD b hb)) fun w' hw=>h w' ?_⟩⟩;exact(Ext.putObj w D _ (.inl (by rw[h1]))).trans (hw.mono fun b _ hb=>.inr hb)
end
end Go.FW
namespace Go.FW
open Go Go.RowKit
theorem Q0h{P:Program}{t eI:TypeId}{i:TypeInfo}(ht:P.underlying t=some (.slice eI))(hi:P.info? eI=some i)(hz:i.zero=some (.int .i64 0))(hs:i.size=1)(hb:i.bytes=8)
  {w:World} {ty:TypeId} {v u:Value} {b c:List Int} (hv:jE eI v b w) (lF:0<b.length) (hu:jE eI u c w) (hl:b.length+c.length<=1000):
  ∃v' w',(Builtin.append_ #[t,t] ty #[v,u]).run P w= .ok v' w'/\jE eI v' (b++c) w'/\w.grownBy w' v.ownBlock/\(v'.ownBlock=v.ownBlock∨v'.ownBlock=some w.heap.size):=by
 rcases hu.2 with⟨rfl,h0⟩|⟨g,cap,cur,rfl,_,hg,_⟩
 ·have hc:c=[]:=KbV h0;subst hc;rcases hv.2 with⟨rfl,h1⟩|⟨g,cap,cur,rfl,h2,hg,h3,h4,h5,h6⟩
  ·omega
  ·refine⟨_,_,run_append_room_src w t t ty eI i ht hi g 0 b.length cap (.slice none 0 0) 0 [] (Src.ofNil w ht 0) (by omega) (by simp) (by simp),?_,?_,.inl rfl⟩
   ·simp only[Kak,KaP];exact hv
   ·exact⟨rfl,rfl,rfl,Kae _,fun _ _ _=>rfl⟩
 ·have pX:=hu.cells (g:=g) rfl;obtain⟨v',w',h1,h2,h3,_,h5⟩:=run_append_own_at (P:=P) w 0 t ty eI i (.int .i64 0) 1 8 ht hi hz hs hb rfl (by decide) v b.length _ hv ⟨g,0,none⟩ c.length cap (c.map (Value.int .i64)) (by simp) pX (fun x hx=>by obtain⟨y,_,rfl⟩:=KaA.1 hx;rfl) (by simp only[maxLen];omega) (by omega) (Ka6 _);refine⟨v',w',h1,?_,h3,h5⟩;unfold jE;rw[Kap,KbS];exact h2
theorem KE{F:Fence}{n:Nat}{P:Program}(w:World){ops:Array Oper}{rest:List Oper}{o:Oper}{a:Act}{Q:Exit->Act->World->Prop}
  (hg:o.guard=none) (s x:Operand) (t:TypeId) (hop:o.op=Op.call { callee:=Callee.builtin Builtin.append,args:= #[s,x],argTypes:= #[t,t] })
  (base:Nat) (e:TypeId) (i:TypeInfo) (z:Value) (size bytes:Nat) (h1:P.underlying t=some (.slice e)) (h2:P.info? e=some i) (h3:i.zero=some z) (h4:i.size=size) (h5:i.bytes=bytes) (h6:z.cells.size=size) (h7:0<size)
  (v:Value) (k:Nat) (xs:List Value) (hs:a.eval s=v) (aS:w.ownsRow base e size v k xs) (ad:Addr) (m c:Nat) (news:List Value) (hx:a.eval x= .slice (some ad) m c) (hn:news.length=m*size)
  (hc:∀j u,news[j]? =some u->w.cell? (ad.add j)=some u) (h1c:∀u∈news,u.oneCell'=true) (b1:k+m<=maxLen) (b2:(k+m)*bytes<=140737488355328) (b3:base<=w.heap.size)
  (hK:∀v' w',w'.ownsRow base e size v' (k+m) (xs++news)->w.grownBy w' v.ownBlock->(v'.ownBlock=v.ownBlock∨v'.ownBlock=some w.heap.size)->wpListIn F n P ops Q rest (a.put o.dst v') w'):
  wpListIn F n P ops Q (o::rest) a w:=by
 refine wpListIn_plain hg fun K hK'=>?_;obtain⟨v',w',bQ,r1,r2,_,r3⟩:=run_append_own_at (P:=P) w base t o.type e i z size bytes h1 h2 h3 h4 h5 h6 h7 v k xs aS ad m c news hn hc h1c b1 b2 b3;unfold Oper.wpIn;refine⟨?_,?_⟩
 ·simp[Oper.about,hop,resolve,Target.leads,KaW]
 ·rw[Oper.semAt_plain F _ _ (by rw[hop];intro c iv;cases iv)];simp[execOp,hop,resolve,invoke,builtin,hs,hx,bQ,Result.andThen];exact hK' _ _ (hK v' w' r1 r2 r3)
end Go.FW
