/- Part 1 of the proof of CertcheckNames: FwA, FwB, FwC, FwD, FwE, FwF, FwG, FwH, FwI, FwJ, FwK, FwL, FwLN, FwM, FwN, FwO. Own lemmas; no conditions. -/
import Derived.Test.YtccppnepkfbpkaaGreatCertcheckNamesPart0
import Derived.WalkKit
import Derived.Orders
import Derived.Laws.StructEq
import Derived.Deep.RegionHeld3
set_option maxHeartbeats 1000000
set_option linter.unusedSimpArgs false
set_option linter.unusedVariables false
set_option linter.unnecessarySimpa false
set_option maxRecDepth 100000
namespace Go.FW
open Go
inductive PV where
 |undef
 |int (k:IntKind) (n:Int)
 |bool (b:Bool)
 |aa
 |sl (e:Nat) (xs:List PV)
 |agg (cs:List PV)
 |aG (vs:List PV)
 |fn (f:FuncId) (first cap:List PV)
 |pt (cs:List PV)
 |mp (β i o:Nat)
 |au (β o n:Nat)
 |rb (β o n:Nat)
 |aH (γ o n:Nat)
 |np (γ i o:Nat)
 |aK (cs:List PV)
 |dV (cs:List PV)
 |aF (γ e ty:Nat) (xs:List PV)
 |str (s:ByteArray)
 |cO (cs:List PV) (q:PV)
 deriving Inhabited
abbrev PV.ms(β n:Nat):PV:=.au β 0 n
def PV.cells:PV->List PV
 |.agg cs=>cs
 |x=>[x]
def PV.aX:PV->List PV
 |.aK cs=>cs
 |x=>x.cells
def PV.gz:PV->Bool
 |.undef=>false
 |_=>true
def PV.aD:PV->Bool
 |.int .. | .bool _| .aa| .sl .. | .agg _| .pt _| .str _=>true
 |.fn _ first cap=>first.all PV.gz&&cap.all PV.gz
 |_=>false
inductive Qp(w:World)(X:Nat->Prop):PV->Value->Prop
 |int (k:IntKind) (n:Int):Qp w X (.int k n) (.int k n)
 |bool (b:Bool):Qp w X (.bool b) (.bool b)
 |str (s:ByteArray):Qp w X (.str s) (.string s)
 |aa:Qp w X .aa (.slice none 0 0)
 |mE (e:Nat) (a:Option Addr) (cap:Nat) (hc:cap<=maxLen):Qp w X (.sl e []) (.slice a 0 cap)
 | sl (e:Nat) (xs:List PV) (b off cap:Nat) (vs:Nat->Nat->Value) (hX:¬X b) (hb:b<w.heap.size) (hl:xs.length<=cap) (hc:cap<=maxLen)
   (he:∀(i:Nat)(x:PV),xs[i]? =some x->x.cells.length=e)
   (hv:∀i,i<xs.length->∀j,j<e->w.cell? ⟨b,off+i*e+j,none⟩=some (vs i j))
   (hr:∀(i:Nat)(x:PV),xs[i]? =some x->∀(j:Nat)(y:PV),x.cells[j]? =some y->Qp w X y (vs i j)):
   Qp w X (.sl e xs) (.slice (some ⟨b,off,none⟩) xs.length cap)
 | pt (cs:List PV) (b off:Nat) (vs:Nat->Value) (hX:¬X b) (hb:b<w.heap.size)
   (hv:∀j,j<cs.length->w.cell? ⟨b,off+j,none⟩=some (vs j))
   (hr:∀(j:Nat)(y:PV),cs[j]? =some y->Qp w X y (vs j)):
   Qp w X (.pt cs) (.pointer (some ⟨b,off,none⟩))
 | fn (f:FuncId) (first cap:List PV) (fv cv:Array Value) (h1:fv.size=first.length) (h2:cv.size=cap.length)
   (ou:∀(i:Nat)(x:PV),first[i]? =some x->Qp w X x (fv.getD i undef)) (my:∀(i:Nat)(x:PV),cap[i]? =some x->Qp w X x (cv.getD i undef)):
   Qp w X (.fn f first cap) (.func (.func f) fv cv)
structure Ext(Y:Nat->Prop)(w w':World):Prop where
 os:w'.os=w.os
 tape:w'.tape=w.tape
 output:w'.output=w.output
 size:w.heap.size<=w'.heap.size
 block:∀b,b<w.heap.size->¬Y b->w'.heap[b]? =w.heap[b]?
theorem Ext.refl(Y:Nat->Prop)(w:World):Ext Y w w:=⟨rfl,rfl,rfl,Nat.le_refl _,fun _ _ _=>rfl⟩
theorem Ext.trans{Y:Nat->Prop}{a b c:World}(h:Ext Y a b)(k:Ext Y b c):Ext Y a c:=
  ⟨k.os.trans h.os,k.tape.trans h.tape,k.output.trans h.output,Nat.le_trans h.size k.size,
   fun i hi hY=>(k.block i (Nat.lt_of_lt_of_le hi h.size) hY).trans (h.block i hi hY)⟩
theorem Ext.mono{Y Y':Nat->Prop}{a b:World}(h:Ext Y a b)(hY:∀i,i<a.heap.size->Y i->Y' i):Ext Y' a b:=
 ⟨h.os,h.tape,h.output,h.size,fun i hi hn=>h.block i hi (fun hy=>hn (hY i hi hy))⟩
theorem Ext.trans'{Y Y':Nat->Prop}{a b c:World}(h:Ext Y a b)(k:Ext Y' b c)(hY:∀i,i<a.heap.size->Y' i->Y i):Ext Y a c:=
  ⟨k.os.trans h.os,k.tape.trans h.tape,k.output.trans h.output,Nat.le_trans h.size k.size,
   fun i hi hn=>(k.block i (Nat.lt_of_lt_of_le hi h.size) (fun hy=>hn (hY i hi hy))).trans (h.block i hi hn)⟩
def cg:Nat->Prop:=fun _=>False
theorem va{w w':World}{a:Addr}(h:w'.heap[a.block]? =w.heap[a.block]?):w'.cell? a=w.cell? a:=by simp[World.cell?,h]
theorem Wh{w:World}{b o:Nat}{v:Value}(h:w.cell? ⟨b,o,none⟩=some v):b<w.heap.size:=by
 rcases Nat.lt_or_ge b w.heap.size with h'|h'
 ·exact h'
 ·simp[World.cell?,Array.getElem?_eq_none h']at h
theorem Qp.mono{w w':World}{X X':Nat->Prop}{p:PV}{v:Value}(h:Qp w X p v)
  (hb:∀b,b<w.heap.size->¬X b->w'.heap[b]? =w.heap[b]?) (hx:∀b,b<w.heap.size->¬X b->¬X' b) (hs:w.heap.size<=w'.heap.size):Qp w' X' p v:=by
 induction h with
 |int k n=>exact .int k n
 |bool b=>exact .bool b
 |str s=>exact .str s
 |aa=>exact .aa
 |mE e a cap hc=>exact .mE e a cap hc
 | sl e xs b off cap vs hX ax hl hc he hv hr ih=>
  exact .sl e xs b off cap vs (hx b ax hX) (Nat.lt_of_lt_of_le ax hs) hl hc he
   (fun i hi j hj=>by rw[va (hb b ax hX)];exact hv i hi j hj) (fun i x aP j y hy=>ih i x aP j y hy)
 |pt cs b off vs hX ax hv hr ih=>exact .pt cs b off vs (hx b ax hX) (Nat.lt_of_lt_of_le ax hs) (fun j hj=>by rw[va (hb b ax hX)];exact hv j hj) (fun j y hy=>ih j y hy)
 |fn f first cap fv cv h1 h2 ou my ih1 Ko=>exact .fn f first cap fv cv h1 h2 ih1 Ko
theorem Qp.rS{w:World}{X:Nat->Prop}{p:PV}{v:Value}(h:Qp w X p v):v.oneCell'=true/\v.cells= #[v]/\p.cells=[p]:=by cases h<;>exact⟨rfl,rfl,rfl⟩
def Q6(w:World)(X:Nat->Prop):PV->Value->Prop
 |.agg cs,v=>∃vs:Array Value,v= .agg vs/\vs.size=cs.length/\∀i x,cs[i]? =some x->Qp w X x (vs.getD i undef)
 |p,v=>Qp w X p v
def eB(w:World)(X:Nat->Prop):PV->Value->Prop
 |.aG ps,v=>∃vs:Array Value,v= .tuple vs/\vs.size=ps.length/\∀i x,ps[i]? =some x->Q6 w X x (vs.getD i undef)
 |p,v=>Q6 w X p v
theorem Q6.mono{w w':World}{X X':Nat->Prop}{p:PV}{v:Value}(h:Q6 w X p v)
  (hb:∀b,b<w.heap.size->¬X b->w'.heap[b]? =w.heap[b]?) (hx:∀b,b<w.heap.size->¬X b->¬X' b) (hs:w.heap.size<=w'.heap.size):Q6 w' X' p v:=by
 cases p with
 |agg cs=>obtain⟨vs,rfl,h1,h2⟩:=h;exact⟨vs,rfl,h1,fun i x hi=>(h2 i x hi).mono hb hx hs⟩
 |_=>exact Qp.mono h hb hx hs
theorem eB.mono{w w':World}{X X':Nat->Prop}{p:PV}{v:Value}(h:eB w X p v)
  (hb:∀b,b<w.heap.size->¬X b->w'.heap[b]? =w.heap[b]?) (hx:∀b,b<w.heap.size->¬X b->¬X' b) (hs:w.heap.size<=w'.heap.size):eB w' X' p v:=by
 cases p with
 |aG ps=>obtain⟨vs,rfl,h1,h2⟩:=h;exact⟨vs,rfl,h1,fun i x hi=>(h2 i x hi).mono hb hx hs⟩
 |agg cs=>exact Q6.mono (p:=.agg cs) h hb hx hs
 |_=>exact Qp.mono h hb hx hs
theorem eB.TO{w:World}{X:Nat->Prop}{p:PV}{v:Value}(h:Q6 w X p v):eB w X p v:=by
 cases p with
 |aG ps=>cases h
 |_=>exact h
theorem Q6.data{w:World}{X:Nat->Prop}{p:PV}{v:Value}(h:Q6 w X p v):p.aD=true:=by
 have hu:∀(x:PV)(u:Value),Qp w X x u->x.gz=true:=fun x u hx=>by cases hx<;>rfl
 have aW:∀(l:List PV)(vs:Array Value),(∀(i:Nat)(x:PV),l[i]? =some x->Qp w X x (vs.getD i undef))->l.all PV.gz=true:=fun l vs hl=>by rw[List.all_eq_true];intro x hx;obtain⟨i,hi⟩:=List.getElem?_of_mem hx;exact hu x _ (hl i x hi)
 cases p with
 |agg cs=>rfl
 |fn f first cap=>
  have h':Qp w X (.fn f first cap) v:=h;cases h' with
  |fn _ _ _ fv cv h1 h2 h3 h4=>simp[PV.aD,aW _ _ h3,aW _ _ h4]
 |_=>cases h<;>rfl
theorem Q6.cells{w:World}{X:Nat->Prop}{p:PV}{v:Value}(h:Q6 w X p v):
  v.cells.size=p.cells.length/\∀j y,p.cells[j]? =some y->Qp w X y (v.cells.getD j undef):=by
 by_cases ha:∃cs,p= .agg cs
 ·obtain⟨cs,rfl⟩:=ha;obtain⟨vs,rfl,h1,h2⟩:=h;exact⟨h1,h2⟩
 ·have hc:Qp w X p v:=by
   cases p with
   |agg cs=>exact absurd ⟨cs,rfl⟩ ha
   |_=>exact h
  obtain⟨_,h2,h3⟩:=hc.rS;rw[h2,h3];refine⟨rfl,fun j y hy=>?_⟩
  match j,hy with
  |0,hy=>simp at hy;subst hy;exact hc
  |j+1,hy=>simp at hy
theorem Q6.qB{w:World}{X:Nat->Prop}{p:PV}{v:Value}(h:Qp w X p v):Q6 w X p v:=by
 cases p with
 |agg cs=>cases h
 |_=>exact h
theorem Q6.TT{w:World}{X:Nat->Prop}{p:PV}{v:Value}(h:Q6 w X p v):∀u∈v.cells.toList,u.oneCell'=true:=by
 intro u hu;obtain⟨h1,h2⟩:=h.cells;obtain⟨j,hj,rfl⟩:=List.getElem_of_mem hu;have dj:j<v.cells.size:=by simpa using hj
 have hp:j<p.cells.length:=by omega
 have:=(h2 j p.cells[j] (List.getElem?_eq_getElem hp)).rS.1;simpa[Array.getD,dj]using this
abbrev Ka0:=@List.length_map
abbrev Ka1:=@Nat.mul_add
abbrev Ka2:=@List.length_drop
abbrev Ka3:=@List.getElem?_append
abbrev Ka4:=@Rat.intCast_natCast
abbrev Ka5:=@List.getElem?_drop
abbrev Ka6:=@List.map_congr_left
abbrev Ka7:=@List.replicate_zero
abbrev Ka8:=@List.mem_of_mem_take
abbrev Ka9:=@Nat.zero_add
abbrev KaA:=@List.getElem_of_mem
abbrev KaB:=@List.getElem?_of_mem
abbrev KaC:=@List.mem_cons
abbrev KaD:=@Int.natAbs_natCast
abbrev KaE:=@List.take_length
abbrev KaF:=@List.mem_map
abbrev KaG:=@Nat.add_mul
abbrev KaH:=@List.getElem?_take_of_lt
abbrev KaI:=@List.nil_append
abbrev KaJ:=@Nat.mod_eq_of_lt
abbrev KaK:=@List.cons_append
abbrev KaL:=@Nat.le_trans
abbrev KaM:=@List.mem_append
abbrev KaN:=@Array.getD_eq_getD_getElem?
abbrev KaO:=@Nat.add_zero
abbrev KaP:=@List.contains_cons
abbrev KaQ:=@Nat.mul_comm
abbrev KaR:=@List.flatMap_cons
abbrev KaS:=@Rat.intCast_eq_zero_iff
abbrev KaT:=@List.length_cons
abbrev KaU:=@Nat.pos_of_ne_zero
abbrev KaV:=@List.flatMap_nil
abbrev KaW:=@List.any_eq_true
abbrev KaX:=@Sem.run_pure
abbrev KaY:=@List.contains_nil
abbrev KaZ:=@List.mem_cons_of_mem
abbrev Kaa:=@Option.map_eq_some_iff
abbrev Kab:=@Option.bind_eq_some_iff
abbrev Kac:=@Option.some.inj
abbrev Kad:=@Nat.le_refl
abbrev Kae:=@List.getD_eq_getElem?_getD
abbrev Kaf:=@List.getElem?_eq_some_iff
abbrev Kag:=@List.getElem?_eq_getElem
abbrev Kah:=@List.getElem_mem
abbrev Kai:=@List.take_of_length_le
abbrev Kaj:=@List.mem_of_getElem?
abbrev Kak:=@Result.andThen_ok
abbrev Kal:=@Nat.mul_le_mul_right
abbrev Kam:=@List.take_succ_eq_append_getElem
abbrev Kan:=@List.drop_of_length_le
abbrev Kao:=@Sem.run_bind
abbrev Kap:=@List.mem_flatMap
abbrev Kaq:=@List.all_eq_true
abbrev Kar:=@List.length_eq_zero_iff
abbrev Kas:=@List.append_nil
abbrev Kat:=@List.getElem?_map
abbrev Kau:=@List.drop_eq_getElem_cons
abbrev Kav:=@Bool.and_eq_true
abbrev Kaw:=@List.length_append
abbrev Kax:=@List.length_take
abbrev Kay:=@List.mem_singleton
abbrev Kaz:=@Option.some.injEq
abbrev Kb0:=@List.getElem?_append_right
abbrev Kb1:=@Rat.intCast_le_intCast
abbrev Kb2:=@List.foldl_append
abbrev Kb3:=@Nat.add_assoc
abbrev Kb4:=@Int.natAbs_mul
abbrev Kb5:=@Option.map_some
abbrev Kb6:=@Rat.mul_le_mul_of_nonneg_right
abbrev Kb7:=@List.mem_filterMap
abbrev Kb8:=@List.getElem_map
abbrev Kb9:=@List.eq_nil_of_length_eq_zero
abbrev KbA:=@Nat.eq_of_mul_eq_mul_right
abbrev KbB:=@List.length_pos_iff
abbrev KbC:=@Bool.or_eq_true
abbrev KbD:=@Rat.intCast_mul
abbrev KbE:=@List.not_mem_nil
abbrev KbF:=@Int.toNat_natCast
abbrev KbG:=@List.headD_eq_head?_getD
abbrev KbH:=@Nat.sub_self
abbrev KbI:=@Nat.zero_mul
abbrev KbJ:=@List.replicate_succ
abbrev KbK:=@List.append_cons
abbrev KbL:=@Nat.mul_one
abbrev KbM:=@Addr.add_lit
abbrev KbN:=@Array.eq_empty_of_size_eq_zero
abbrev KbO:=@Nat.gcd_dvd_left
abbrev KbP:=@Rat.mkRat_eq_div
abbrev KbQ:=@Option.bind_eq_bind
abbrev KbR:=@Nat.zero_le
abbrev KbS:=@Nat.pow_pos
abbrev KbT:=@List.size_toArray
abbrev KbU:=@Nat.mul_le_mul
abbrev KbV:=@Nat.min_eq_left
abbrev KbW:=@List.map_append
abbrev KbX:=@List.findIdx?_eq_some_iff_getElem
abbrev KbY:=@Nat.add_comm
abbrev KbZ:=@Nat.mul_zero
abbrev Kba:=@Nat.mul_assoc
abbrev Kbb:=@Nat.mul_div_cancel_left
abbrev Kbc:=@Nat.mul_le_mul_left
abbrev Kbd:=@Option.getD_some
abbrev Kbe:=@List.map_cons
abbrev Kbf:=@Nat.div_lt_iff_lt_mul
abbrev Kbg:=@List.take_append_drop
abbrev Kbh:=@List.getLast?_eq_getElem?
abbrev Kbi:=@Nat.lt_of_lt_of_le
abbrev Kbj:=@Bool.false_eq_true
abbrev Kbk:=@List.mem_cons_self
abbrev Kbl:=@Nat.div_add_mod
abbrev Kbm:=@Array.getElem?_eq_some_iff
abbrev Kbn:=@Option.ne_none_iff_exists'
abbrev Kbo:=@List.length_nil
abbrev Kbp:=@List.mem_append_right
abbrev Kbq:=@Array.getElem?_eq_getElem
abbrev Kbr:=@Array.mapM_eq_mapM_toList
abbrev Kbs:=@Nat.mod_lt
abbrev Kbt:=@List.mem_of_mem_drop
abbrev Kbu:=@Nat.pow_le_pow_right
abbrev Kbv:=@List.append_assoc
abbrev Kbw:=@Nat.mul_left_comm
abbrev Kbx:=@List.drop_zero
abbrev Kby:=@List.map_nil
abbrev Kbz:=@Nat.pow_succ
abbrev Kc0:=@Nat.gcd_le_right
abbrev Kc1:=@List.getElem_zip
abbrev Kc2:=@List.mapM_nil
abbrev Kc3:=@List.sum_cons
abbrev KcA:=@List.length_eq_one_iff
abbrev KcB:=@Nat.lt_of_le_of_lt
abbrev KcC:=@List.getLast?_cons
abbrev KcD:=@Nat.div_le_self
abbrev KcE:=@List.getElem?_eq_none
abbrev KcF:=@Rat.natCast_mul
abbrev KcG:=@List.any_eq_false
abbrev KcH:=@Bool.true_and
abbrev KcI:=@Nat.dvd_trans
abbrev KcJ:=@List.all_eq_false
abbrev KcK:=@Int.fdiv_eq_ediv_of_nonneg
abbrev KcL:=@Int.natAbs_neg
abbrev KcM:=@List.findIdx?_eq_none_iff
abbrev KcN:=@List.getElem?_range
abbrev KcO:=@Nat.mul_pos
abbrev KcP:=@Rat.div_def
abbrev KcQ:=@ByteArray.toList_eq
abbrev KcR:=@Nat.lt_or_ge
abbrev KcS:=@List.getElem_append_left
abbrev KcT:=@Int.ofNat_dvd_left
abbrev KcU:=@Nat.gcd_zero_right
abbrev KcV:=@List.mem_filter
abbrev KcW:=@List.getElem_take
abbrev KcX:=@Rat.mkRat_self
abbrev KcY:=@List.mem_range
abbrev KcZ:=@Nat.min_eq_right
abbrev Kca:=@List.mem_append_left
abbrev Kcb:=@List.mapM_cons
abbrev Kcc:=@List.take_zero
abbrev Kcd:=@Array.size_append
abbrev Kce:=@Nat.gcd_dvd_right
abbrev Kcf:=@Option.pure_def
abbrev Kcg:=@Array.length_toList
abbrev Kch:=@Option.bind_some
abbrev Kci:=@Nat.sub_zero
abbrev Kcj:=@List.getElem?_take
abbrev Kck:=@Nat.one_mul
abbrev Kcl:=@List.getElem?_append_left
abbrev Kcm:=@Nat.add_mul_mod_self_left
abbrev Kcn:=@Nat.add_mul_div_left
abbrev Kco:=@Array.getElem?_setIfInBounds_ne
abbrev Kcp:=@List.head?_drop
abbrev Kcq:=@List.cons.injEq
abbrev Kcr:=@Nat.gcd_comm
abbrev Kcs:=@List.mem_map_of_mem
abbrev Kct:=@Nat.le_mul_of_pos_right
abbrev Kcu:=@List.filterMap_cons
abbrev Kcv:=@Nat.lt_succ_self
abbrev Kcw:=@Nat.div_eq_of_lt
abbrev Kcx:=@Rat.mul_le_mul_of_nonneg_left
abbrev Kcy:=@Rat.mul_nonneg
abbrev Kcz:=@Array.getElem?_eq_none
attribute [go_sem_proc ↓] reduceIte
inductive aI where
 |t (n:Nat)
 |c (p:PV)
 deriving Inhabited
inductive ch where
 |mv (d:Nat) (x:aI)
 |pick (d:Nat) (c a b:aI)
 |bin (d:Nat) (op:BinOp) (bt:Bool) (x y:aI)
 |eqs (d:Nat) (ng:Bool) (x y:aI)
 |wQ (d:Nat) (ng:Bool) (x y:aI)
 |BX (d:Nat) (x:aI)
 |BW (d:Nat) (x i:aI)
 |un (d:Nat) (op:UnOp) (x:aI)
 |conv (d:Nat) (k:IntKind) (x:aI)
 |len (d:Nat) (x:aI)
 |mx (d:Nat) (x y:aI)
 |mn (d:Nat) (x y:aI)
 |idx (d e:Nat) (x i:aI)
 |wE (d n e:Nat) (x i:aI)
 |BJ (d n e:Nat) (ag:Bool) (x i:aI)
 |cc (d off:Nat) (x:aI)
 |ym (d off n:Nat) (ag:Bool) (x:aI)
 |ld (d n:Nat) (ag:Bool) (x:aI)
 |st (n:Nat) (x v:aI)
 |box (d n ty:Nat) (v:aI)
 |alloc (d n ty:Nat) (z:PV)
 |mk (d e bytes ty:Nat) (z:PV) (l c:aI)
 |bs (d e ty:Nat) (parts:List aI)
 |app (d e bytes ty:Nat) (s x:aI)
 |uj (d e:Nat) (s x:aI)
 |sl (d e:Nat) (x:aI) (lo hi mx:Option aI)
 |ext (d:Nat) (x:aI) (i:Nat)
 |dv (d:Nat) (zero:List PV) (parts:List (Nat×Nat×aI))
 |fn (d f:Nat) (first cap:List aI)
 |call (d:Option Nat) (pr:Bool) (f:aI) (args:List aI)
 |BP (d:Option Nat) (x:aI)
 |bad (d:Option Nat)
 deriving Inhabited
def ch.dst:ch->Option Nat
 |.mv d _| .pick d _ _ _| .bin d _ _ _ _| .eqs d _ _ _| .wQ d _ _ _| .BX d _| .BW d _ _| .un d _ _| .conv d _ _| .len d _| .mx d _ _| .mn d _ _| .idx d _ _ _| .wE d _ _ _ _| .BJ d _ _ _ _ _| .cc d _ _| .ym d _ _ _ _
 |.ld d _ _ _| .box d _ _ _| .alloc d _ _ _| .mk d _ _ _ _ _ _| .bs d _ _ _| .app d _ _ _ _ _| .uj d _ _ _| .sl d _ _ _ _ _| .ext d _ _| .dv d _ _| .fn d _ _ _=>some d
 |.st _ _ _=>none
 |.call d _ _ _| .BP d _| .bad d=>d
structure mJ where
 g:Option (Nat×Bool)
 o:ch
 deriving Inhabited
inductive RT where
 |nil
 |o (g:Option (Nat×Bool)) (o:ch) (r:RT)
 |br (a b:RT)
 |wk (r:RT)
 deriving Inhabited
inductive SC where
 |skip
 |rg (r:RT)
 |raw (id:Nat) (ops:Array Oper)
 |seq (a b:SC)
 |cond (c:aI) (a b:SC)
 |block (id:Nat) (a:SC)
 |loop (a:SC)
 |exit (id:Nat)
 |ret
 deriving Inhabited
def zM:Value->Option PV
 |.int k n=>some (.int k n)
 |.bool b=>some (.bool b)
 |.string s=>some (.str s)
 |.slice none 0 0=>some .aa
 |_=>none
def sm:Value->Option PV
 |.agg cs=>(cs.toList.mapM zM).map .agg
 |v=>zM v
def bJ:Operand->Option aI
 |.tmp t=>some (.t t)
 |.const v=>(sm v).map .c
 |.func f=>some (.c (.fn f [] []))
 |.global _=>none
def dR(P:Program)(t:TypeId):Option Nat:=(P.info? t).map (·.size)
def lV(P:Program)(t:TypeId):Option Bool:=(P.underlying t).map fun d=>match d with| .struct _| .array _ _=>true|_=>false
def sE(P:Program)(t:TypeId):Option TypeId:=match P.underlying t with|some (.slice e)=>some e|_=>none
def jK(P:Program)(t:TypeId):Option (Nat×Nat×PV):=(P.info? t).bind fun i=>i.zero.bind fun z=>(sm z).map fun p=>(i.size,i.bytes,p)
def nX:Option Operand->Option (Option aI)
 |none=>some none
 |some x=>(bJ x).map some
def Al(P:Program)(t:TypeId)(parts:List (Nat×Operand)):Option (List (Nat×Nat×aI)):=
 match P.underlying t with
 |some (.struct fs)=>(fs.toList.mapM fun f=>(P.info? f.type).map fun i=>(f.offset,i.size)).bind fun pl=>parts.mapM fun p=>(pl[p.1]?).bind fun q=>(bJ p.2).map fun y=>(q.1,q.2,y)
 |some (.array _ e)=>(dR P e).bind fun n=>parts.mapM fun p=>(bJ p.2).map fun y=>(p.1*n,n,y)
 |_=>none
def F9(P:Program)(t:TypeId):Bool:=match P.underlying t with
 |some (.struct fs)=>match fs.toList with
  | [f, g] => f.name != "_" && g.name != "_" && f.offset == 0 && g.offset == 1 && (match P.underlying f.type with | some (.int _) => true | _ => false) && (match P.underlying g.type with | some (.int _) => true | _ => false) && !(P.stoodInHeld t) && !(P.eqGuardType P.depth t)
  |_=>false
 |_=>false
def Cg:BinOp->Option Bool
 |.eql=>some false
 |.neq=>some true
 |_=>none
def xN(P:Program)(t:TypeId):Bool:=match P.underlying t with|some .string=>true|_=>false
def y3(P:Program)(op:BinOp)(t:TypeId)(d:Nat)(x y:aI):ch:=
 match(if F9 P t then Cg op else none)with
 |some ng=>.eqs d ng x y
 |none=>match(if xN P t then Cg op else none)with
  |some ng=>.wQ d ng x y
  |none=>.bin d op (match P.underlying t with|some .bool=>true|_=>false) x y
def ada : List String := ["geoprover/matrix.reduce", "geoprover/matrix.subtract", "geoprover/geoproverref09.echelon"]
def MZ(P:Program)(f:aI):Bool:=match f with
 |.c (.fn g _ _)=>(P.funcs[g]?).any fun fn=>ada.contains fn.name
 |_=>false
def mM(P:Program)(draw:Bool)(o:Oper):Option ch:=
 match o.op,o.dst with
 |.move x,some d| .assign x,some d=>(bJ x).map (.mv d)
 |.pick c a b,some d=>(bJ c).bind fun c=>(bJ a).bind fun a=>(bJ b).map fun b=>.pick d c a b
 |.binOp op t x y _,some d=>(bJ x).bind fun x=>(bJ y).map fun y=>y3 P op t d x y
 |.unOp op _ x,some d=>(bJ x).map (.un d op)
 |.convert s t x,some d=>match P.underlying s,P.underlying t with
  |some _,some (.int k)=>(bJ x).map (.conv d k)
  |_,_=>none
 |.indexAddr t x i,some d=>(bJ x).bind fun x=>(bJ i).bind fun i=>match P.underlying t with
  |some (.slice e)=>(dR P e).map fun n=>.idx d n x i
  |some (.array len e)=>(dR P e).map fun n=>.wE d len n x i
  |_=>none
 |.index t x i,some d=>(bJ x).bind fun x=>(bJ i).bind fun i=>match P.underlying t with
  |some (.array len e)=>(dR P e).bind fun n=>(lV P e).map fun ag=>.BJ d len n ag x i
  |some .string=>some (.BW d x i)
  |_=>none
 |.fieldAddr t x j,some d=>(bJ x).bind fun x=>match P.underlying t with
  |some (.struct fs)=>(fs[j]?).bind fun f=>(dR P f.type).bind fun n=>if n=0 then none else some (.cc d f.offset x)
  |_=>none
 |.field t x j,some d=>(bJ x).bind fun x=>match P.underlying t with
  |some (.struct fs)=>(fs[j]?).bind fun f=>(dR P f.type).bind fun n=>(lV P f.type).map fun ag=>.ym d f.offset n ag x
  |_=>none
 |.load t x,some d=>(bJ x).bind fun x=>(dR P t).bind fun n=>(lV P t).map fun ag=>.ld d n ag x
 |.store t x v,none=>(bJ x).bind fun x=>(bJ v).bind fun v=>(dR P t).map fun n=>.st n x v
 |.box t v,some d=>(bJ v).bind fun v=>(dR P t).map fun n=>.box d n t v
 |.alloc t,some d=>(jK P t).map fun(n,_,z)=>.alloc d n t z
 |.makeSlice t l c,some d=>(bJ l).bind fun l=>(bJ c).bind fun c=>(sE P t).bind fun e=>(jK P e).map fun(n,by_,z)=>.mk d n by_ e z l c
 |.buildSlice t len parts,some d=>(sE P t).bind fun e=>(jK P e).bind fun r=>
   if parts.toList.map (·.1)=List.range len/\len*r.1<=16777216/\r.2.2.cells.length=r.1 then(parts.toList.mapM fun p=>bJ p.2).map fun ps=>.bs d r.1 e ps else none
 |.build t parts,some d=>(jK P t).bind fun(_,_,z)=>(Al P t parts.toList).map fun ps=>.dv d z.cells ps
 |.slice t x lo hi m,some d=>(bJ x).bind fun x=>(nX lo).bind fun lo=>(nX hi).bind fun hi=>(nX m).bind fun m=>(sE P t).bind fun e=>(dR P e).map fun n=>.sl d n x lo hi m
 |.extract x i,some d=>(bJ x).map fun x=>.ext d x i
 |.makeFunc (.func f) first cap,some d=>(first.toList.mapM bJ).bind fun first=>(cap.toList.mapM bJ).map fun cap=>.fn d f first cap
 |.nilCheck x,d=>(bJ x).map fun x=>.BP d x
 |.call c,d=>match c.callee,c.args.toList,c.argTypes.toList,d with
  |.value f,args,_,d=>(bJ f).bind fun f=>(args.mapM bJ).map fun args=>.call d (draw&& !MZ P f) f args
  |.builtin .len,[x],[t],some d=>if xN P t then(bJ x).map fun x=>.BX d x else(sE P t).bind fun _=>(bJ x).map fun x=>.len d x
  |.builtin .max,[x,y],_,some d=>(bJ x).bind fun x=>(bJ y).map fun y=>.mx d x y
  |.builtin .min,[x,y],_,some d=>(bJ x).bind fun x=>(bJ y).map fun y=>.mn d x y
  |.builtin .append,[s,x],[t,u],some d=>(bJ s).bind fun s=>(bJ x).bind fun x=>(sE P t).bind fun e=>if t=u then(jK P e).bind fun r=>if r.2.2.cells.length=r.1 then some (.app d r.1 r.2.1 e s x)else none else none
  |.builtin .copy,[s,x],[t,u],some d=>(bJ s).bind fun s=>(bJ x).bind fun x=>(sE P t).bind fun e=>if t=u then(dR P e).map fun n=>.uj d n s x else none
  |_,_,_,_=>none
 |_,_=>none
def fg(P:Program)(draw:Bool)(o:Oper):ch:=(mM P draw o).getD (.bad o.dst)
def kq(P:Program)(n:Nat)(draw:Bool)(ops:Array Oper)(o:Oper):Option mJ:=
 if o.dst.all (· <n)then
  match o.guard with
  |none=>some ⟨none,fg P draw o⟩
  |some (j,want)=>match(ops[j]?).bind (·.dst)with
   |some s=>if s<n then some ⟨some (s,want),fg P draw o⟩else none
   |none=>none
 else none
def ch.cls:ch->Nat
 |.ld .. =>1
 |.box .. | .alloc .. | .mk .. | .bs .. | .call .. | .bad _=>2
 |.st .. | .app .. | .uj .. =>3
 |_=>0
def ch.iJ:ch->Bool
 |.st .. | .app .. | .uj .. =>true
 |.call _ pr _ _=> !pr
 |_=>false
def ch.apI:ch->Bool
 |.call .. =>true
 |_=>false
def qI(ops:Array Oper):Nat->Nat->Nat->Bool
 |0,_,_=>false
 |n+1,i,j=>match ops[j]? with
  |none=>false
  |some o=>o.after.toList.any fun e=>Region.binds .any e&&(e.on==i||qI ops n i e.on)
def tM(P:Program)(ops:Array Oper)(i:Nat):Nat:=((ops[i]?).map fun o=>(fg P true o).cls).getD 9
def xH(P:Program)(dr:Bool)(ops:Array Oper)(i:Nat):Bool:=((ops[i]?).map fun o=>(fg P dr o).iJ).getD false
def Gg(P:Program)(dr:Bool)(ops:Array Oper)(a9:Array Bool)(i:Nat):Bool:=
  (Region.ready .any ops a9).contains i&&Region.free .any ops a9 i&&
  (match tM P ops i with
   |0=>true
   |1=>(List.range ops.size).all fun j=> !xH P dr ops j||qI ops ops.size i j
   |_=>false)
def ug:List RT->RT
 | []=>.nil
 | [r]=>r
 |r::rs=>.br r (ug rs)
def pM(P:Program)(N:Nat)(dr:Bool)(ops:Array Oper):Nat->Array Bool->Option RT
 |0,a9=>if Region.ready .any ops a9==[]then some .nil else none
 |n+1,a9=>
  if Region.ready .any ops a9==[]then some .nil else
  match(List.range ops.size).find? (Gg P dr ops a9)with
  |some i=>((ops[i]?).bind (kq P N dr ops)).bind fun g=>(pM P N dr ops n (a9.setIfInBounds i true)).map fun r=>.o g.g g.o r
  |none=>((Region.ready .any ops a9).mapM fun i=>((ops[i]?).bind (kq P N dr ops)).bind fun g=>(pM P N dr ops n (a9.setIfInBounds i true)).map fun r=>RT.o g.g g.o r).map ug
def zZ(P:Program)(N:Nat)(dr:Bool)(ops:Array Oper):Nat->Array Bool->Option RT
 |0,a9=>if Region.ready .any ops a9==[]then some .nil else none
 | n+1,a9=>
  if Region.ready .any ops a9==[]then some .nil else
  match(List.range ops.size).find? (Gg P dr ops a9)with
  |some i=>((ops[i]?).bind (kq P N dr ops)).bind fun g=>(zZ P N dr ops n (a9.setIfInBounds i true)).map fun r=>.o g.g g.o r
  |none=>match Region.ready .any ops a9 with
   | [i]=>((ops[i]?).bind (kq P N dr ops)).bind fun g=>(zZ P N dr ops n (a9.setIfInBounds i true)).map fun r=>.o g.g g.o r
   |_=>none
theorem Cr{P:Program}{N:Nat}{dr:Bool}{ops:Array Oper}:∀(n:Nat)(a9:Array Bool)(r:RT),zZ P N dr ops n a9=some r->pM P N dr ops n a9=some r
 |0,a9,r,h=>h
 | n +1,a9,r,h=>by
  unfold zZ at h;unfold pM;split
  ·rename_i hr;rw[if_pos hr]at h;exact h
  ·rename_i hr;rw[if_neg hr]at h;split at h
   ·rename_i i hf;simp only[Kab,Kaa]at h⊢;obtain⟨g,hg,r',dP,rfl⟩:=h;exact⟨g,hg,r',Cr n _ _ dP,rfl⟩
   ·rename_i hf;split at h
    ·rename_i i FE;simp only[Kab,Kaa]at h;obtain⟨g,⟨o,ho,hg⟩,r',dP,rfl⟩:=h;simp[FE,ho,hg,Cr n _ _ dP,ug]
    ·cases h
def RT.count:RT->Nat
 |.nil=>1
 |.o _ _ r=>r.count
 |.br a b=>a.count+b.count
 |.wk r=>r.count
def xO:List mJ->RT
 | []=>.nil
 |g::gs=>.o g.g g.o (xO gs)
def adb(P:Program)(ops:Array Oper):Bool:=decide (ops.size<=100)&&ops.toList.any fun o=>(fg P false o).apI
def ade(P:Program)(ops:Array Oper):Bool:=
 let cs:=ops.toList.map (fg P true)
 decide (100<ops.size)||4<=(cs.filter fun o=>match o with| .app .. =>true|_=>false).length||
  (3<=(cs.filter fun o=>match o with| .box .. | .alloc .. =>true|_=>false).length&&3<=(cs.filter fun o=>match o with| .st .. =>true|_=>false).length)
def zN(P:Program)(N:Nat)(ops:Array Oper)(dr:Bool)(wK:Nat):Option SC:=
 if ade P ops then none else
 match pM P N dr ops ops.size (Array.replicate ops.size false)with
 |some r=>if r.count<=wK then some (.rg r)else none
 |none=>none
def zO(P:Program)(N:Nat)(ops:Array Oper)(draw:Bool):Option SC:=
 if draw then
  if Region.noSelect ops then
   match(if adb P ops then(zZ P N false ops ops.size (Array.replicate ops.size false)).map .rg else none)with
   |some s=>some s
   |none=>zN P N ops true 100
  else none
 else(ops.toList.mapM (kq P N false ops)).map fun l=>.rg (xO l)
def e7(P:Program)(N:Nat):Code->Option SC
 |.skip=>some .skip
 |.region id ops draw=>match zO P N ops draw with
  |some s=>some s
  |none=>if draw then some (.raw id ops)else none
 |.seq a b=>(e7 P N a).bind fun a=>(e7 P N b).map fun b=>.seq a b
 |.cond c a b=>(bJ c).bind fun c=>(e7 P N a).bind fun a=>(e7 P N b).map fun b=>.cond c a b
 |.block id a=>(e7 P N a).map (.block id)
 |.loop a=>(e7 P N a).map .loop
 |.exit id=>some (.exit id)
 |.ret=>some .ret
 |_=>none
inductive RV where
 |t (s:Nat)
 |cell (s n:Nat) (ag:Bool)
 deriving Inhabited
def gf(P:Program)(r:ResultVar):Option RV:=
 match r with
 |.tmp t=>some (.t t)
 |.cell a t=>(dR P t).bind fun n=>(lV P t).map fun ag=>.cell a n ag
def RT.strip:RT->RT
 |.nil=>.nil
 |.o g p r=>.o g p r.strip
 |.br a b=>.br a.strip b.strip
 |.wk r=>r.strip
def SC.strip:SC->SC
 |.rg r=>.rg r.strip
 |.seq a b=>.seq a.strip b.strip
 |.cond c a b=>.cond c a.strip b.strip
 |.block id a=>.block id a.strip
 |.loop a=>.loop a.strip
 |s=>s
theorem OS:∀l:List mJ,(xO l).strip=xO l
 | []=>rfl
 |g::gs=>by simp only[xO,RT.strip,OS gs]
theorem PX:∀l:List RT,(∀r∈l,r.strip=r)->(ug l).strip=ug l
 | [],_=>rfl
 | [r],h=>h r (by simp)
 |r::s::l,h=>by have:=PX (s::l) fun x hx=>h x (KaZ _ hx);simp only[ug,RT.strip,h r (by simp),this]
theorem K2{α β:Type}{f:α->Option β}{Q:β->Prop}(hf:∀a b,f a=some b->Q b):∀(l:List α)(rs:List β),l.mapM f=some rs->∀r∈rs,Q r
 | [],rs,h=>by simp at h;subst h;simp
 |a::l,rs,h=>by
  simp only[Kcb,KbQ,Kcf,Kab,Kaz]at h;obtain⟨b,h1,bs,h2,rfl⟩:=h;intro r hr;rcases KaC.1 hr with rfl|hr
  ·exact hf _ _ h1
  ·exact K2 hf l bs h2 r hr
theorem Cz{P:Program}{N:Nat}{dr:Bool}{ops:Array Oper}:∀(n:Nat)(a9:Array Bool)(r:RT),pM P N dr ops n a9=some r->r.strip=r
 |0,a9,r,h=>by
  unfold pM at h;split at h
  ·cases h;rfl
  ·cases h
 | n+1,a9,r,h=>by
  unfold pM at h;split at h
  ·cases h;rfl
  ·split at h
   ·simp only[Kab,Kaa]at h;obtain⟨g,_,r',dP,rfl⟩:=h;simp only[RT.strip,Cz n _ _ dP]
   ·simp only[Kaa]at h;obtain⟨rs,cG,rfl⟩:=h;refine PX rs (K2 (fun i b hb=>?_) _ rs cG);simp only[Kab,Kaa]at hb;obtain⟨g,_,r',dP,rfl⟩:=hb;simp only[RT.strip,Cz n _ _ dP]
theorem Qw8{P:Program}{N:Nat}{ops:Array Oper}{draw:Bool}{s:SC}(h:zO P N ops draw=some s):s.strip=s:=by
 unfold zO at h;split at h
 ·split at h
  ·have key:∀(dr:Bool) (wK:Nat) (s:SC),zN P N ops dr wK=some s->s.strip=s:=fun dr wK s hc=>by
    unfold zN at hc;split at hc
    ·cases hc
    split at hc
    ·rename_i r hr;split at hc
     ·cases hc;simp only[SC.strip,Cz _ _ _ hr]
     ·cases hc
    ·cases hc
   split at h
   ·rename_i s' dZ;cases h;split at dZ
    ·simp only[Kaa]at dZ;obtain⟨r,hr,rfl⟩:=dZ;simp only[SC.strip,Cz _ _ _ (Cr _ _ _ hr)]
    ·cases dZ
   ·exact key _ _ _ h
  ·cases h
 ·simp only[Kaa]at h;obtain⟨gs,_,rfl⟩:=h;simp only[SC.strip,OS]
theorem NX{P:Program}{N:Nat}:∀(c:Code)(s:SC),e7 P N c=some s->s.strip=s:=by
 intro c;induction c with
 |skip=>intro s h;simp[e7]at h;subst h;rfl
 | region id ops draw=>
  intro s h;simp only[e7]at h;split at h
  ·rename_i s' dZ;cases h;exact Qw8 dZ
  ·split at h
   ·cases h;rfl
   ·cases h
 |seq x y kK wF=>intro s h;simp only[e7,Kab,Kaa]at h;obtain⟨sx,hx,sy,hy,rfl⟩:=h;simp only[SC.strip,kK _ hx,wF _ hy]
 |cond c x y kK wF=>intro s h;simp only[e7,Kab,Kaa]at h;obtain⟨pc,eX,sx,hx,sy,hy,rfl⟩:=h;simp only[SC.strip,kK _ hx,wF _ hy]
 |block id x kK=>intro s h;simp only[e7,Kaa]at h;obtain⟨sx,hx,rfl⟩:=h;simp only[SC.strip,kK _ hx]
 |loop x kK=>intro s h;simp only[e7,Kaa]at h;obtain⟨sx,hx,rfl⟩:=h;simp only[SC.strip,kK _ hx]
 |exit id=>intro s h;simp[e7]at h;subst h;rfl
 |ret=>intro s h;simp[e7]at h;subst h;rfl
 |_=>intro s h;simp[e7]at h
structure ay where
 n:Nat
 rs:List RV
 body:SC
 deriving Inhabited
def Qe(P:Program)(f:Func):Option ay:=
 f.body.bind fun c=>(e7 P f.ntmps c).bind fun b=>(f.results.toList.mapM (gf P)).map fun rs=>⟨f.ntmps,rs,b⟩
def ay.strip(s:ay):ay:=⟨s.n,s.rs,s.body.strip⟩
theorem GM{P:Program}{f:Func}{s:ay}(h:Qe P f=some s):Qe P f=some s.strip:=by have h0:=h;simp only[Qe,Kab,Kaa]at h;obtain⟨c,hb,sb,jb,rs,cG,rfl⟩:=h;rw[h0,ay.strip,NX _ _ jb]
abbrev Zo(o:ch)(r:RT):RT:=.o none o r
abbrev Zg(g:Nat)(b:Bool)(o:ch)(r:RT):RT:=.o (some (g,b)) o r
abbrev Zm(d x:Nat)(r:RT):RT:=.o none (.mv d (.t x)) r
abbrev Zc(d:Nat)(n:Int)(r:RT):RT:=.o none (.mv d (.c (.int .i64 n))) r
abbrev Zf(d o x:Nat)(r:RT):RT:=.o none (.cc d o (.t x)) r
abbrev Zl(d n x:Nat)(r:RT):RT:=.o none (.ld d n false (.t x)) r
abbrev Zh(d n x:Nat)(r:RT):RT:=.o none (.ld d n true (.t x)) r
abbrev Zs(n x v:Nat)(r:RT):RT:=.o none (.st n (.t x) (.t v)) r
abbrev Zi(d e x i:Nat)(r:RT):RT:=.o none (.idx d e (.t x) (.t i)) r
abbrev Zb(d:Nat)(o:BinOp)(x y:Nat)(r:RT):RT:=.o none (.bin d o false (.t x) (.t y)) r
abbrev Zk(d:Nat)(o:BinOp)(x:Nat)(n:Int)(r:RT):RT:=.o none (.bin d o false (.t x) (.c (.int .i64 n))) r
abbrev Zn(d x:Nat)(r:RT):RT:=.o none (.len d (.t x)) r
abbrev Zu(d x:Nat)(r:RT):RT:=.o none (.un d .not (.t x)) r
abbrev Zq(d:Nat)(p:Bool)(f:Nat)(l:List aI)(r:RT):RT:=.o none (.call (some d) p (.c (.fn f [] [])) l) r
abbrev Zr(r:RT)(y:SC):SC:=.seq (.rg r) y
abbrev Zz(n:Int):PV:=.int .i64 n
theorem D0{p:Prop}(h:p:=by first|omega|rfl|(simp+decide only[go_sem]<;>rfl)|fail):p:=h
theorem D1{p A0:Prop}(x0:A0)(h:A0->p:=by intro x0;first|omega|rfl|(simp+decide only[go_sem,x0]<;>rfl)|fail):p:=h x0
theorem D2{p A0 A1:Prop}(x0:A0)(x1:A1)(h:A0->A1->p:=by intro x0 x1;first|omega|rfl|(simp+decide only[go_sem,x0,x1]<;>rfl)|fail):p:=h x0 x1
theorem D3{p A0 A1 A2:Prop}(x0:A0)(x1:A1)(x2:A2)(h:A0->A1->A2->p:=by intro x0 x1 x2;first|omega|rfl|(simp+decide only[go_sem,x0,x1,x2]<;>rfl)|fail):p:=h x0 x1 x2
theorem D4{p A0 A1 A2 A3:Prop}(x0:A0)(x1:A1)(x2:A2)(x3:A3)(h:A0->A1->A2->A3->p:=by intro x0 x1 x2 x3;first|omega|rfl|(simp+decide only[go_sem,x0,x1,x2,x3]<;>rfl)|fail):p:=h x0 x1 x2 x3
theorem D5{p A0 A1 A2 A3 A4:Prop}(x0:A0)(x1:A1)(x2:A2)(x3:A3)(x4:A4)(h:A0->A1->A2->A3->A4->p:=by intro x0 x1 x2 x3 x4;first|omega|rfl|(simp+decide only[go_sem,x0,x1,x2,x3,x4]<;>rfl)|fail):p:=h x0 x1 x2 x3 x4
theorem D6{p A0 A1 A2 A3 A4 A5:Prop}(x0:A0)(x1:A1)(x2:A2)(x3:A3)(x4:A4)(x5:A5)(h:A0->A1->A2->A3->A4->A5->p:=by intro x0 x1 x2 x3 x4 x5;first|omega|rfl|(simp+decide only[go_sem,x0,x1,x2,x3,x4,x5]<;>rfl)|fail):p:=h x0 x1 x2 x3 x4 x5
theorem E0{p:Prop}(h:p:=by first|omega|rfl|(simp+decide only[go_sem,iB,KaP,KaY,KaR,KaV,Kas]<;>rfl)|fail):p:=h
theorem E1{p A0:Prop}(x0:A0)(h:A0->p:=by intro x0;first|omega|rfl|(simp+decide only[go_sem,iB,KaP,KaY,KaR,KaV,Kas,x0]<;>rfl)|fail):p:=h x0
abbrev Ya(t:Nat)(r:RT):RT:=Zl t 1 57<|Zo (.conv (t+1) .u64 (.t t))<|Zb (t+2) .rem 53 (t+1) r
abbrev Yb(t:Nat)(a b:Nat)(r:RT):RT:=Zf t a b<|Zl (t+1) 1 t r
abbrev Yc(t:Nat)(a:Nat)  :RT:=Zm t a .nil
abbrev Yd(t:Nat)(a:Nat)(r:RT):RT:=Zo (.ext t (.t a) 0)<|Zo (.ext (t+1) (.t a) 1) r
abbrev Ye(t:Nat)  :RT:=Zo (.mv t (.c (.bool false))) .nil
abbrev Yf(t:Nat)(a b:Nat)(r:RT):RT:=Zm t a<|Zm (t+1) b r
abbrev Yh(t:Nat)(a b:Nat)(r:RT):RT:=Zo (.pick t (.t a) (.c (.bool true)) (.t b)) r
abbrev Yi(t:Nat)(a:Int)  :RT:=Zc t a .nil
abbrev Yj(t:Nat)(r:RT):RT:=Zo (.mv t (.c .aa)) r
abbrev Yk(t:Nat)(a b:Nat)(r:RT):RT:=Zo (.pick t (.t a) (.t b) (.c (.bool false))) r
abbrev Yl(t:Nat)(a b c:Nat)(r:RT):RT:=Zq t false a [.t b,.t c] r
abbrev Ym(t:Nat)(a b c:Nat)(r:RT):RT:=Zq t true a [.t b,.t c] r
abbrev Yn(t:Nat)(a b:Nat)(r:RT):RT:=Zq t false a [.t b] r
abbrev Yo(t:Nat)(a b:Nat)(r:RT):RT:=Zi t 1 a b<|Zl (t+1) 1 t r
abbrev Yp(t:Nat)(r:RT):RT:=Zo (.alloc t 1 88 (.int .u64 0)) r
abbrev Yq(t:Nat)(a:Nat)(r:RT):RT:=Zm t a<|Zn (t+1) t r
abbrev Yr(t:Nat)(r:RT):RT:=Zo (.alloc t 3 53 (.agg [.bool false,.aa,.aa])) r
abbrev Ys(t:Nat)(a:Nat)(b:Int)(c:Nat)  :RT:=Zk t .eql a b<|Zm c t .nil
abbrev Yu(t:Nat)(a b:Nat)  :RT:=Zb t .lss a b .nil
abbrev Yv(t:Nat)(a:Nat)(b:Int)(r:RT):RT:=Zo (.idx t 1 (.t a) (.c (Zz b)))<|Zl (t+1) 1 t r
abbrev Yw(t:Nat)(a b:Nat)(r:RT):RT:=Zm t a<|Zg t false (.mv (t+1) (.t b)) r
abbrev Yx(t:Nat)(a b c:Nat)(r:RT):RT:=Zm t a<|Zg t false (.cc (t+1) b (.t c))<|Zg t false (.ld (t+2) 1 false (.t (t+1))) r
abbrev Yy(t:Nat)  :RT:=Zs t (t+9) 60 .nil
abbrev Yz(t:Nat)(a b:Nat)  :RT:=Zk t .add a 1<|Yc b t
abbrev YA(t:Nat)(a b:Nat)(r:RT):RT:=Zm t a<|Zk (t+1) .gtr t 0<|Zm (t+2) (t+1)<|Zg (t+2) true (.mv (t+3) (.t 0))<|Zg (t+2) true (.mv (t+4) (.t a))<|Zg (t+2) true (.bin (t+5) .sub false (.t (t+4)) (.c (Zz 1)))<|Zg (t+2) true (.idx (t+6) b (.t (t+3)) (.t (t+5))) r
abbrev YB(t:Nat)(a b c d e:Nat)(r:RT):RT:=Zo (.bs t a b [.t c])<|Zo (.app (t+1) a d b (.t e) (.t t)) r
abbrev YC(t:Nat)(a b c:Nat)(r:RT):RT:=Zh t 3 a<|Yn (t+1) 58 t<|Zm b (t+1)<|Yd (t+2) b<|Zo (.alloc c 2 51 (.agg [.bool false,.aa]))<|Zs 2 c (t+2) r
abbrev YD(t:Nat)(r:RT):RT:=Zl t 1 5<|Zk (t+1) .sub t 1<|Zi (t+2) 1 54 (t+1) r
abbrev YE(t:Nat)(a b:Nat)  :RT:=Zk t .add a 1<|Zm b t .nil
abbrev YG(t:Nat)  :RT:=Yj t .nil
abbrev YH(t:Nat)(a b:Nat)(r:RT):RT:=Zm t a<|Yn (t+1) b t r
abbrev YI(t:Nat)(a b:Nat)(r:RT):RT:=Zo (.box t 2 a (.t b)) r
abbrev YJ(t:Nat)(a b:Nat)(r:RT):RT:=Zm t a<|Zg t true (.mv (t+1) (.t b)) r
abbrev YK(t:Nat)(a b:Nat)  :RT:=Yf t a b<|Zn (t+2) (t+1)<|Yu (t+3) t (t+2)
abbrev YL(t:Nat)  :RT:=Zo (.mv t (.c (.bool true))) .nil
abbrev YM(t:Nat)(a b c:Nat)(r:RT):RT:=Zi t a b c<|Zh (t+1) a t r
abbrev YN(t:Nat)(a b:Nat)(r:RT):RT:=Zh t 2 a<|Zh (t+1) 2 b r
abbrev YO(t:Nat)(a:Nat)(b:Nat)(c:Int)(r:RT):RT:=Zm t a<|Zo (.idx (t+1) b (.t t) (.c (Zz c))) r
abbrev YP(t:Nat)  :RT:=Zs t (t+8) 52<|Yy t
abbrev YQ(t:Nat)(a b:Nat)(r:RT):RT:=Zg t true (.cc (t+1) a (.t b))<|Zg t true (.ld (t+2) 1 false (.t (t+1))) r
abbrev YS(t:Nat)(a:Nat)(r:RT):RT:=Zo (.alloc t 2 a (.agg [.aa,.aa])) r
abbrev YT(t:Nat)(a b:Nat)(r:RT):RT:=Yb t a b<|Zn (t+2) (t+1) r
abbrev YU(t:Nat)  :RT:=Zs t (t+8) 52<|Ya 58<|Yy t
abbrev YV(t:Nat)(a b c d:Nat)(r:RT):RT:=Yl t a b c<|Zm d t<|Yd (t+1) d r
abbrev YW(t:Nat)(a:Nat)  :RT:=Zm t a<|Zk (t+1) .neq t 0 .nil
abbrev YX(t:Nat)(a:Nat)  :RT:=Zm t a<|Yz (t+1) t a
abbrev YY(t:Nat)(a b c:Nat)  :RT:=Zo (.conv t .u16 (.t a))<|Zi (t+1) 1 b c<|Zs 1 (t+1) t .nil
abbrev YZ(t:Nat)(a b:Nat)(r:RT):RT:=Zo (.box t (t+1) a (.t b)) r
abbrev yd(t:Nat)(a b c d:Nat)(r:RT):RT:=Yw t a b<|Zg t false (.cc (t+2) c (.t d))<|Zg t false (.ld (t+3) 1 false (.t (t+2)))<|Zg t false (.len (t+4) (.t (t+3)))<|Zg t false (.bin (t+5) .geq false (.t (t+1)) (.t (t+4)))<|Yh (t+6) t (t+5) r
abbrev dC(t:Nat)(a b c:Nat)(r:RT):RT:=Yb t a b<|Zm (t+2) c r
abbrev rh(t:Nat)(a b:Nat)(r:RT):RT:=Zo (.dv t [.bool false,.aa,.aa,.aa] [(0,3,.t a),(3,1,.t b)]) r
abbrev oa(t:Nat)(a b c:Nat)(r:RT):RT:=Yw t a b<|Zg t false (.mv (t+2) (.t c)) r
abbrev qa(t:Nat)(r:RT):RT:=Zo (.alloc t 4 77 (.agg [.bool false,.aa,.aa,.aa])) r
abbrev er(t:Nat)(a b c:Nat)(r:RT):RT:=Yf t a b<|Yl (t+2) c t (t+1) r
abbrev dY(t:Nat)(a b:Nat)(r:RT):RT:=Zf t 0 a<|Zh (t+1) b t r
abbrev cF(t:Nat)(a b c d:Nat)(r:RT):RT:=Yb t a b<|Yb (t+2) c d r
abbrev oZ(t:Nat)(a:Int)(r:RT):RT:=Zm t 8<|Yb (t+1) 1 3<|Yv (t+3) (t+2) a<|YM (t+5) 2 t (t+4) r
abbrev iI(t:Nat)(r:RT):RT:=Zl t 1 3<|Zi (t+3) 1 t (t+2) r
abbrev AI(t:Nat)(a b:Nat)(r:RT):RT:=Zg t false (.cc (t+5) a (.t (t+4)))<|Zg t false (.cc (t+6) b (.t (t+5)))<|Zg t false (.ld (t+7) 1 false (.t (t+6)))<|Zg t false (.len (t+8) (.t (t+7)))<|Zg t false (.bin (t+9) .gtr false (.t (t+8)) (.c (Zz 2)))<|Yh (t+10) t (t+9) r
abbrev dS(t:Nat)(a b:Nat)  :RT:=Zm t a<|Yc (t+1) b
abbrev de(t:Nat)(a b c:Nat)(r:RT):RT:=Yf t a b<|Zm (t+2) c r
abbrev AJ(t:Nat)(r:RT):RT:=Zm t 0<|YJ (t+1) t 1<|Zg (t+1) true (.len (t+3) (.t (t+2)))<|Zg (t+1) true (.bin (t+4) .gtr false (.t (t+3)) (.c (Zz 0)))<|Yk (t+5) (t+1) (t+4)<|Zm (t+6) 1<|Zo (.dv (t+7) [.bool false,.aa] [(0,1,.t (t+5)),(1,1,.t (t+6))]) r
abbrev dn(t:Nat)(a b:Nat)  :RT:=Zm t a<|Yc b t
abbrev ri(t:Nat)(a:Nat)(b:Nat)(c:Int)(r:RT):RT:=Yw t a b<|Zg t false (.bin (t+2) .gtr false (.t (t+1)) (.c (Zz c))) r
abbrev ye(t:Nat)(a b:Nat)  :RT:=Zm t (t+2)<|Yd (t+3) t<|Zo (.alloc a 7 34 (.agg [.aa,.aa,.aa,.aa,.aa,.aa,.aa]))<|Zs 7 a (t+3)<|Zm b (t+4) .nil
abbrev fE(t:Nat)(a b:Nat)(r:RT):RT:=Yf t a b<|Yo (t+2) t (t+1) r
abbrev rj(t:Nat)  :RT:=Zo (.alloc t 2 51 (.agg [.bool false,.aa])) .nil
abbrev rk(t:Nat)  :RT:=Zo (.alloc t t 51 (.agg [.bool false,.aa])) .nil
abbrev vK(t:Nat)(a:Int)(b:Nat)(c:Nat)  :RT:=Zo (.dv t [Zz 0,.aa,Zz 0] [(0,1,.c (Zz a)),(1,1,.t b),(2,1,.t c)])<|Zs 3 4 t<|YL 5
abbrev fp(t:Nat)(a b:Nat)(r:RT):RT:=Zo (.box t t a (.t b)) r
abbrev eD(t:Nat)(a b c d e:Nat)(r:RT):RT:=Ym t a b c<|Ym (t+1) d e t r
abbrev eT(t:Nat)(a:Nat)  :RT:=Yq t a<|Yi (t+2) 0
abbrev iX(t:Nat)(a:Nat)(r:RT):RT:=Zm t a<|Zk (t+1) .lss t 0 r
abbrev vI(t:Nat)(a b:Nat)(r:RT):RT:=oa t a 0 3<|Zg t false (.idx (t+3) 4 (.t (t+1)) (.t (t+2)))<|Zg t false (.cc (t+4) b (.t (t+3))) r
abbrev xZ(t:Nat)(a:Nat)(r:RT):RT:=Zg t false (.call (some (t+2)) false (.c (.fn a [] [])) [.t (t+1)])<|Zg t false (.un (t+3) .not (.t (t+2)))<|Yh (t+4) t (t+3) r
abbrev ek(t:Nat)(a b:Nat)(r:RT):RT:=Zq t true a [.t b] r
abbrev AG(t:Nat)(a b c:Nat)(r:RT):RT:=Zg t true (.cc (t+1) a (.t b))<|Zg t true (.ld (t+2) 3 true (.t (t+1)))<|Zg t true (.call (some (t+3)) false (.c (.fn c [] [])) [.t (t+2)])<|Zg t true (.un (t+4) .not (.t (t+3))) r
abbrev pZ(t:Nat)(a b:Nat)(r:RT):RT:=Zo (.mk t 1 2 128 (.int .u16 0) (.t a) (.t b)) r
abbrev ud(t:Nat)(a b:Nat)(r:RT):RT:=Zo (.dv t [.bool false,.aa,.aa] [(0,2,.t a),(2,1,.t b)]) r
abbrev ya(t:Nat)(a:Nat)(b:Nat)(c:Nat)(d:Int)(r:RT):RT:=Yx t a b c<|Zg t false (.len (t+3) (.t (t+2)))<|Zg t false (.bin (t+4) .gtr false (.t (t+3)) (.c (Zz d)))<|Yh (t+5) t (t+4) r
abbrev yb(t:Nat)(a b c d:Nat)  :RT:=de t a b c<|Zo (.sl (t+3) 4 (.t (t+1)) (some (.t (t+2))) none none)<|Zo (.app (t+4) 4 80 77 (.t t) (.t (t+3)))<|Yc d (t+4)
abbrev gp(t:Nat)(a:Nat)(b:Int)  :RT:=Zk t .eql a b .nil
abbrev AH(t:Nat)(a b:Nat)(r:RT):RT:=Yf t a 0<|Zn (t+2) (t+1)<|Zb (t+3) .lss t (t+2)<|oa (t+4) (t+3) b 1<|Zg (t+4) false (.len (t+7) (.t (t+6)))<|Zg (t+4) false (.bin (t+8) .lss false (.t (t+5)) (.t (t+7)))<|Yh (t+9) (t+4) (t+8) r
abbrev fm(t:Nat)(a b c:Nat)(r:RT):RT:=Zh t a b<|Yn (t+1) c t r
abbrev jq(t:Nat)(a b:Nat)(r:RT):RT:=Yf t a b<|Zi (t+2) 4 t (t+1) r
abbrev ue(t:Nat)(a:Nat)(r:RT):RT:=Zm t a<|Zo (.bin (t+1) .shr false (.t t) (.c (.int .u64 16))) r
abbrev gK(t:Nat)(a:Nat)(b:Int)  :RT:=Zk t .gtr a b .nil
abbrev nh(t:Nat)(a b c:Nat)  :RT:=Zm t a<|YT (t+1) b c<|Yu (t+4) t (t+3)
abbrev kD(t:Nat)(a:Nat)(r:RT):RT:=Zo (.conv t .u32 (.t a)) r
abbrev ep(t:Nat)(a b:Nat)  :RT:=Yh t a b .nil
abbrev n8(t:Nat)(a:Nat)(b:Nat)(c:Int)(r:RT):RT:=Zo (.wE t a 2 (.t b) (.c (Zz c))) r
abbrev vJ(t:Nat)(r:RT):RT:=Zo (.dv t [.aa,.aa,.aa,.aa,.aa,.aa,.aa] []) r
abbrev lg(t:Nat)(a:Nat)(r:RT):RT:=Zo (.conv t .u64 (.t a)) r
abbrev jS(t:Nat)(a b c:Nat)(r:RT):RT:=dC t a b c<|Yo (t+3) (t+1) (t+2) r
abbrev n9(t:Nat)(r:RT):RT:=Zg t true (.len (t+3) (.t (t+2))) r
abbrev yc(t:Nat)(a b c:Nat)(r:RT):RT:=YM t 6 a b<|Zo (.alloc c 6 133 (.agg [Zz 0,.str ⟨#[]⟩,.aa,.bool false,.aa,.aa])) r
abbrev fo(t:Nat)(a:Int)  :RT:=Yj t<|Yi (t+1) a
abbrev uf(t:Nat)(a b:Nat)(r:RT):RT:=Zg t true (.mv (t+1) (.t a))<|Zg t true (.mv (t+2) (.t b)) r
abbrev cT(t:Nat)(a b:Nat)(r:RT):RT:=Zb t .add a b r
abbrev fF(t:Nat)  :RT:=Ya t<|YP 1
abbrev jr(t:Nat)(r:RT):RT:=Yq t 0<|Yq (t+2) 1 r
abbrev fG(t:Nat)(a b c:Nat)(r:RT):RT:=Zh t a b<|Zm (t+1) c r
abbrev rm(t:Nat)(a:Nat)  :RT:=Zm t a<|Zk (t+1) .sub t 1<|Yc a (t+1)
abbrev yf(t:Nat)(a:Nat)(b:Int)(c:Nat)(d:Int)(r:RT):RT:=YO t 11 2 0<|Yb (t+2) a (t+1)<|YO (t+4) 11 2 b<|Yb (t+6) c (t+5)<|YO (t+8) 11 2 d<|Yb (t+10) c (t+9) r
abbrev rp(t:Nat)(r:RT):RT:=Zg t true (.ld (t+6) 1 false (.t (t+5))) r
abbrev vL(t:Nat)(a:Nat)(r:RT):RT:=Zg t true (.call (some (t+2)) false (.c (.fn a [] [])) [.t (t+1)]) r
abbrev jT(t:Nat)  :RT:=Zc t (-1) .nil
abbrev lh(t:Nat)(a b c d e:Nat)  :RT:=Yl t a b c<|Zs d e t .nil
abbrev rq(t:Nat)(a b c:Nat)  :RT:=Zo (.bs t 1 43 [.t a,.t b])<|Yc c t
abbrev qb(t:Nat)(a b c:Nat)  :RT:=Zm t a<|Yo (t+1) b a<|dS c t (t+2)
abbrev Fr:=Nat->PV
structure HB where
 e:Nat
 ty:TypeId
 xs:List PV
 fz:Bool
abbrev HP:=Nat->Option HB
def ae(f:Fr)(a:Nat)(v:PV):Fr:=fun b=>if b=a then v else f b
def Ql(h:HP)(a:Nat)(v:HB):HP:=fun b=>if b=a then some v else h b
def aJ:Fr:=fun _=>.undef
def aw:HP:=fun _=>none
def bB(β:Nat):Bool:=decide (1000000<=β)
def aM(β:Nat):Bool:=decide (1000000<=β)&&decide (β<2000000)
def eF(β:Nat):Bool:=decide (1500000<=β)&&decide (β<2000000)
theorem xA{β:Nat}(h:aM β=false):eF β=false:=by simp[aM]at h;simp[eF];omega
theorem xB{β:Nat}(h:bB β=false):aM β=false:=by simp[bB]at h;simp[aM];omega
def PV.bw:PV->List Nat
 |.mp β _ _=>[β]
 |.au β _ _| .rb β _ _=>[β]
 |_=>[]
def PV.refs:PV->List Nat
 |.mp β _ _=>[β]
 |.au β _ _| .rb β _ _=>[β]
 |.fn _ first cap=>first.flatMap PV.bw++cap.flatMap PV.bw
 |_=>[]
def PV.kL:PV->Bool
 |.mp .. | .au .. | .rb .. | .int .. | .bool _| .aa| .sl .. | .pt _| .np .. | .aH .. =>true
 |_=>false
def PV.dh:PV->List Nat
 |.au β _ _=>[β]
 |.aH γ _ _| .np γ _ _=>[γ]
 |_=>[]
def PV.dU:PV->List Nat
 |.aH γ _ _| .np γ _ _=>[γ]
 |_=>[]
def PV.aN:PV->List Nat
 |.aH γ _ _| .np γ _ _=>[γ]
 |.aK cs=>cs.flatMap PV.dh
 |.dV cs=>cs.flatMap PV.dh
 |.cO cs _=>cs.flatMap PV.dh
 |.aF γ _ _ xs=>γ::xs.flatMap fun x=>x.aX.flatMap PV.dh
 |.fn _ first cap=>first.flatMap PV.dU++cap.flatMap PV.dU
 |_=>[]
def bx(β:Nat)(p:PV):PV:=if p.refs.contains β then .undef else p
def bE(β:Nat)(fr:Fr):Fr:=fun i=>bx β (fr i)
def cq(hp:HP):PV->PV
 |.mp β i o=>if aM β then .undef else match hp β with
  |some hb=>match hb.xs[i]? with
   |some x=>.pt (x.cells.drop o)
   |none=>.undef
  |none=>.undef
 |.au β o n=>if aM β then .undef else match hp β with
  |some hb=>.sl hb.e ((hb.xs.drop o).take n)
  |none=>.undef
 |.rb _ _ _| .aH _ _ _| .np _ _ _| .aK _| .dV _| .cO _ _| .aF _ _ _ _=>.undef
 |p=>p
def Qu(hp:HP):PV->PV
 |.fn f first cap=>.fn f (first.map (cq hp)) (cap.map (cq hp))
 |p=>cq hp p
def Qx(hp:HP)(l:List Nat):HP:=fun β=>if l.contains β then(hp β).map fun hb=>{ hb with fz:=true }else hp β
def ev(fr:Fr):aI->PV
 |.t n=>fr n
 |.c p=>p
def dQ:Bool->Nat->Nat->PV->PV
 |true,n,o,x=>.agg ((x.cells.drop o).take n)
 |false,_,o,x=>(x.cells.drop o).headD .undef
def rU(x:PV)(o:Nat)(v:PV):PV:=.agg (x.cells.take o++v.cells++x.cells.drop (o+v.cells.length))
def PV.oA:PV->Bool
 |.au .. | .aH .. | .undef=>true
 |_=>false
def nQ(cs:List PV):PV:=if cs.any PV.oA then .aK cs else .agg cs
def fj:List PV->PV
 | [c]=>c
 |cs=>nQ cs
def rQ(ag:Bool)(n o:Nat)(x:PV):PV:=if ag then nQ ((x.aX.drop o).take n)else(x.aX.drop o).headD .undef
def eP:PV->Option (List PV)
 |.aK cs=>if cs.all PV.gz then some cs else none
 |.aH γ o n=>some [.aH γ o n]
 |.au β o n=>if bB β then some [.au β o n]else none
 |.int k n=>some [.int k n]
 |.bool b=>some [.bool b]
 |.aa=>some [.aa]
 |.sl e xs=>some [.sl e xs]
 |.pt cs=>some [.pt cs]
 |.agg cs=>some cs
 |_=>none
def pS(l:List PV)(o:Nat)(cs:List PV):List PV:=l.take o++cs++l.drop (o+cs.length)
def iQ(γ:Nat):PV->PV
 |.aF ba e ty xs=>if ba=γ then .undef else .aF ba e ty xs
 |p=>p
def iE(γ:Nat)(fr:Fr):Fr:=fun i=>iQ γ (fr i)
def gX(β:Nat):PV->PV
 |.au bA o n=>if bA=β then .undef else .au bA o n
 |.aH γ o n=>if γ=β then .undef else .aH γ o n
 |p=>p
def cR(β:Nat):PV->PV
 |.aF γ e ty xs=>if γ=β then .undef else .aF γ e ty (xs.map fun x=>fj (x.aX.map (gX β)))
 |.aK cs=>.aK (cs.map (gX β))
 |.dV cs=>.dV (cs.map (gX β))
 |.cO cs q=>.cO (cs.map (gX β)) q
 |.aH γ o n=>if γ=β then .undef else .aH γ o n
 |.np γ i o=>if γ=β then .undef else .np γ i o
 |.fn f first cap=>if(first.flatMap PV.dU++cap.flatMap PV.dU).contains β then .undef else bx β (.fn f first cap)
 |p=>bx β p
def e9(β:Nat)(fr:Fr):Fr:=fun i=>cR β (fr i)
abbrev Qh:=Fr->HP->Prop
def bO(op:BinOp)(bt:Bool)(a b:PV)(d:Nat)(fr:Fr)(hp:HP)(K:Qh):Prop:=
 match a,b with
 |.int k x,.int k' y=>
  match op with
  |.shl=>0<=y/\K (ae fr d (.int k (k.wrap (x*2^(min y.toNat k.bits))))) hp
  |.shr=>0<=y/\K (ae fr d (.int k (x.fdiv (2^(min y.toNat k.bits))))) hp
  |.add=>k=k'/\K (ae fr d (.int k (k.wrap (x+y)))) hp
  |.sub=>k=k'/\K (ae fr d (.int k (k.wrap (x-y)))) hp
  |.mul=>k=k'/\K (ae fr d (.int k (k.wrap (x*y)))) hp
  |.quo=>k=k'/\y≠0/\K (ae fr d (.int k (k.wrap (x.tdiv y)))) hp
  |.rem=>k=k'/\y≠0/\K (ae fr d (.int k (x.tmod y))) hp
  |.and=>k=k'/\K (ae fr d (.int k (k.wrap (BitVec.ofInt k.bits x&&&BitVec.ofInt k.bits y).toNat))) hp
  |.or=>k=k'/\K (ae fr d (.int k (k.wrap (BitVec.ofInt k.bits x|||BitVec.ofInt k.bits y).toNat))) hp
  |.xor=>k=k'/\K (ae fr d (.int k (k.wrap (BitVec.ofInt k.bits x^^^BitVec.ofInt k.bits y).toNat))) hp
  |.andNot=>False
  |.eql=>k=k'/\K (ae fr d (.bool (decide (x=y)))) hp
  |.neq=>k=k'/\K (ae fr d (.bool (!decide (x=y)))) hp
  |.lss=>k=k'/\K (ae fr d (.bool (decide (x<y)))) hp
  |.leq=>k=k'/\K (ae fr d (.bool (decide (x<=y)))) hp
  |.gtr=>k=k'/\K (ae fr d (.bool (decide (y<x)))) hp
  |.geq=>k=k'/\K (ae fr d (.bool (decide (y<=x)))) hp
 |.bool x,.bool y=>
  match op with
  |.eql=>bt=true/\K (ae fr d (.bool (x==y))) hp
  |.neq=>bt=true/\K (ae fr d (.bool (!(x==y)))) hp
  |_=>False
 |_,_=>False
def ra(ng:Bool)(a b:PV)(d:Nat)(fr:Fr)(hp:HP)(K:Qh):Prop:=
 match a,b with
 |.agg [.int k x,.int l y],.agg [.int k' x',.int l' y']=>k=k'/\l=l'/\K (ae fr d (.bool (ng !=(decide (x=x')&&decide (y=y'))))) hp
 |_,_=>False
def re(ng:Bool)(a b:PV)(d:Nat)(fr:Fr)(hp:HP)(K:Qh):Prop:=
 match a,b with
 |.str x,.str y=>K (ae fr d (.bool (ng !=decide (x=y)))) hp
 |_,_=>False
def vD(a:PV)(d:Nat)(fr:Fr)(hp:HP)(K:Qh):Prop:=
 match a with
 |.str s=>K (ae fr d (.int .i64 s.size)) hp
 |_=>False
def tR(a i:PV)(d:Nat)(fr:Fr)(hp:HP)(K:Qh):Prop:=
 match a,i with
 |.str s,.int _ n=>0<=n/\n<s.size/\K (ae fr d (.int .u8 (s.get! n.toNat).toNat)) hp
 |_,_=>False
def sF(c a b:PV)(d:Nat)(fr:Fr)(hp:HP)(K:Qh):Prop:=
 match c with
 |.bool t=>(t=true->K (ae fr d a) hp)/\(t=false->K (ae fr d b) hp)
 |_=>False
def uZ(op:UnOp)(a:PV)(d:Nat)(fr:Fr)(hp:HP)(K:Qh):Prop:=
 match op,a with
 |.not,.bool b=>K (ae fr d (.bool !b)) hp
 |.neg,.int k n=>K (ae fr d (.int k (k.wrap (0-n)))) hp
 |_,_=>False
def vu(k:IntKind)(a:PV)(d:Nat)(fr:Fr)(hp:HP)(K:Qh):Prop:=
 match a with
 |.int _ n=>K (ae fr d (.int k (k.wrap n))) hp
 |_=>False
def oU(a:PV)(d:Nat)(fr:Fr)(hp:HP)(K:Qh):Prop:=
 match a with
 |.aa=>K (ae fr d (.int .i64 0)) hp
 |.sl _ xs=>K (ae fr d (.int .i64 xs.length)) hp
 |.au _ _ n=>K (ae fr d (.int .i64 n)) hp
 |.aH _ _ n=>K (ae fr d (.int .i64 n)) hp
 |_=>False
def wL(a b:PV)(d:Nat)(fr:Fr)(hp:HP)(K:Qh):Prop:=
 match a,b with
 |.int k x,.int _ y=>K (ae fr d (.int k (max x y))) hp
 |_,_=>False
def wJ(a b:PV)(d:Nat)(fr:Fr)(hp:HP)(K:Qh):Prop:=
 match a,b with
 |.int k x,.int _ y=>K (ae fr d (.int k (min x y))) hp
 |_,_=>False
def Q7(e:Nat)(a i:PV)(d:Nat)(fr:Fr)(hp:HP)(K:Qh):Prop:=
 match a,i with
 |.sl e' xs,.int _ n=>e=e'/\0<=n/\∃h:n.toNat<xs.length,K (ae fr d (.pt (xs[n.toNat]'h).cells)) hp
 |.au β o m,.int _ n=>0<=n/\n.toNat<m/\(hp β).map (·.e)=some e/\K (ae fr d (.mp β (o+n.toNat) 0)) hp
 |.aH γ o m,.int _ n=>0<=n/\n.toNat<m/\(hp γ).map (·.e)=some e/\K (ae fr d (.np γ (o+n.toNat) 0)) hp
 |_,_=>False
def kX(len e:Nat)(a i:PV)(d:Nat)(fr:Fr)(hp:HP)(K:Qh):Prop:=
 match a,i with
 |.mp β j o,.int _ n=>0<=n/\n<len/\K (ae fr d (.mp β j (o+n.toNat*e))) hp
 |.pt cs,.int _ n=>0<=n/\n<len/\n.toNat*e<=cs.length/\K (ae fr d (.pt (cs.drop (n.toNat*e)))) hp
 |_,_=>False
def xP(len e:Nat)(ag:Bool)(a i:PV)(d:Nat)(fr:Fr)(hp:HP)(K:Qh):Prop:=
 match a,i with
 |.agg cs,.int _ n=>0<=n/\n<len/\n.toNat*e+e<=cs.length/\(ag=false->e=1)/\K (ae fr d (dQ ag e (n.toNat*e) (.agg cs))) hp
 |_,_=>False
def rf(off:Nat)(a:PV)(d:Nat)(fr:Fr)(hp:HP)(K:Qh):Prop:=
 match a with
 |.mp β i o=>K (ae fr d (.mp β i (o+off))) hp
 |.np γ i o=>K (ae fr d (.np γ i (o+off))) hp
 |.pt cs=>off<=cs.length/\K (ae fr d (.pt (cs.drop off))) hp
 |_=>False
def qV(off n:Nat)(ag:Bool)(a:PV)(d:Nat)(fr:Fr)(hp:HP)(K:Qh):Prop:=
 match a with
 |.agg cs=>off+n<=cs.length/\(ag=false->n=1)/\K (ae fr d (dQ ag n off (.agg cs))) hp
 |.aK cs=>off+n<=cs.length/\(ag=false->n=1)/\K (ae fr d (rQ ag n off (.aK cs))) hp
 |_=>False
def bn(n:Nat)(ag:Bool)(a:PV)(d:Nat)(fr:Fr)(hp:HP)(K:Qh):Prop:=
 match a with
 |.mp β i o=>match hp β with
  |some hb=>∃h:i<hb.xs.length,o+n<=hb.e/\(ag=false->n=1)/\K (ae fr d (dQ ag n o (hb.xs[i]'h))) hp
  |none=>False
 |.pt cs=>n<=cs.length/\(ag=false->n=1)/\K (ae fr d (dQ ag n 0 (.agg cs))) hp
 |.rb β o m=>n=1/\ag=false/\K (ae fr d (.au β o m)) hp
 |.np γ i o=>match fr γ with
  |.aF ba e _ xs=>ba=γ/\∃h:i<xs.length,o+n<=e/\(ag=false->n=1)/\K (ae fr d (rQ ag n o (xs[i]'h))) hp
  |_=>False
 |_=>False
def nK (n:Nat) (a v:PV) (fr:Fr) (hp:HP) (K:Qh):Prop:=
 match a with
 |.mp β i o=>match Qx hp v.refs β with
  | some hb=>hb.fz=false/\(Qu hp v).aD=true/\(Qu hp v).cells.length=n/\∃h:i<hb.xs.length,o+n<=hb.e/\
    K fr (Ql (Qx hp v.refs) β { hb with xs:=hb.xs.set i (if n=hb.e then Qu hp v else rU (hb.xs[i]'h) o (Qu hp v)) })
  |none=>False
 |.np γ i o=>match fr γ with
  |.aF ba e ty xs=>ba=γ/\(∃hb,hp γ=some hb/\hb.fz=false)/\∃h:i<xs.length,o+n<=e/\match eP v with
   |some cs=>cs.length=n/\K (ae (iE γ fr) γ (.aF γ e ty (xs.set i (fj (pS (xs[i]'h).aX o cs))))) hp
   |none=>False
  |_=>False
 |_=>False
def cQ(d:Nat):Nat:=4000000+d
def tS(n ty:Nat)(cs:List PV)(d:Nat)(fr:Fr)(hp:HP)(K:Qh):Prop:=
 (cs.length=n/\0<n/\cs.all PV.gz=true/\cs.all (fun x=> !(x.dh.contains (cQ d)))=true)/\
  K (ae (ae (e9 (cQ d) fr) (cQ d) (.aF (cQ d) n ty [.aK cs])) d (.np (cQ d) 0 0)) (Ql hp (cQ d) ⟨n,ty,[],false⟩)
def eQ(n ty:Nat)(v:PV)(d:Nat)(fr:Fr)(hp:HP)(K:Qh):Prop:=
 match v with
 |.aK cs=>tS n ty cs d fr hp K
 |v=>match(match v with| .au β o m=>if aM β then some (β,o,m)else none|_=>none)with
 |some (β,o,m)=>K (ae fr d (.rb β o m)) hp
 |none=>
 (Qu hp v).aD=true/\(Qu hp v).cells.length=n/\0<n/\K (ae (bE d fr) d (.mp d 0 0)) (Ql (Qx hp v.refs) d ⟨n,ty,[Qu hp v],false⟩)
def nH(e by_ ty:Nat)(z l c:PV)(d:Nat)(fr:Fr)(hp:HP)(K:Qh):Prop:=
 match l,c with
 |.int _ L,.int _ C=>0<e/\z.cells.length=e/\0<=L/\L<=C/\by_*C<=281474976710656/\C<=9223372036854775807/\
   K (ae (bE d fr) d (.ms d L.toNat)) (Ql hp d ⟨e,ty,List.replicate L.toNat z,false⟩)
 |_,_=>False
def z4(hp:HP)(e:Nat)(ps:List PV):Prop:=∀p∈ps,(Qu hp p).aD=true/\(Qu hp p).cells.length=e
def lN:PV->Bool
 |.au β 0 _=>decide (5000000<=β)
 |_=>false
def mX:List PV->Bool
 | [x]=>lN x
 |_=>false
def Rm(e ty:Nat)(ps:List PV)(d:Nat)(fr:Fr)(hp:HP)(K:Qh):Prop:=
 e=1/\K (ae (ae (e9 (cQ d) fr) (cQ d) (.aF (cQ d) 1 ty ps)) d (.aH (cQ d) 0 1)) (Ql hp (cQ d) ⟨1,ty,[],false⟩)
def xQ (e by_ ty:Nat) (s x:PV) (d:Nat) (fr:Fr) (hp:HP) (K:Qh):Prop:=
 match x with
 |.aH δ 0 1=>match fr δ with
  |.aF KT 1 _ [y]=>KT=δ/\lN y=true/\e=1/\
   match s with
   |.aa=>by_<=140737488355328/\K (ae (ae (e9 (cQ d) fr) (cQ d) (.aF (cQ d) 1 ty [y])) d (.aH (cQ d) 0 1)) (Ql hp (cQ d) ⟨1,ty,[],false⟩)
   |.aH γ 0 k=>match fr γ with
    |.aF ba 1 oE xs=>(ba=γ/\γ<5000000/\aM γ=false/\oE=ty/\k=xs.length/\xs.all lN=true/\(k+1)*by_<=140737488355328/\k+1<=9223372036854775807)/\(∃hb,hp γ=some hb/\hb.fz=false)/\
      K (ae (ae (e9 γ fr) γ (.aF γ 1 ty (xs++[y]))) d (.aH γ 0 (k+1))) (Ql hp γ ⟨1,ty,[],false⟩)
    |_=>False
   |_=>False
  |_=>False
 |_=>False
def AK(e ty:Nat)(ps:List PV)(d:Nat)(fr:Fr)(hp:HP)(K:Qh):Prop:=
 0<e/\z4 hp e ps/\K (ae (bE d fr) d (.ms d ps.length)) (Ql (Qx hp (ps.flatMap PV.refs)) d ⟨e,ty,ps.map (Qu hp),false⟩)
def kE(e ty:Nat)(ps:List PV)(d:Nat)(fr:Fr)(hp:HP)(K:Qh):Prop:=if mX ps=true then Rm e ty ps d fr hp K else AK e ty ps d fr hp K
def jj(hp:HP):PV->Option (Nat×List PV)
 |.aa=>some (0,[])
 |.sl e xs=>some (e,xs)
 |.au β o n=>(hp β).map fun hb=>(hb.e,(hb.xs.drop o).take n)
 |_=>none
def iF (e by_ ty:Nat) (s x:PV) (d:Nat) (fr:Fr) (hp:HP) (K:Qh):Prop:=
 match jj hp x with
 |none=>xQ e by_ ty s x d fr hp K
 | some (e',ys)=>0<e/\(e'=e∨ys=[])/\
  match s with
  |.aa=>ys.length*by_<=140737488355328/\ys.length<=9223372036854775807/\
    K (ae (bE d fr) d (.ms d ys.length)) (Ql hp d ⟨e,ty,ys,false⟩)
  |.au β 0 n=>match hp β with
   | some hb=>(bB β=false/\hb.fz=false/\hb.e=e/\hb.ty=ty/\n<=hb.xs.length/\(n+ys.length)*by_<=140737488355328/\n+ys.length<=9223372036854775807/\
     K (ae (bE β fr) d (.ms β (n+ys.length))) (Ql hp β ⟨e,ty,hb.xs.take n++ys,false⟩))∨
    (bB β=true/\aM β=false/\(ys≠[]/\hb.fz=false/\hb.e=e/\hb.ty=ty/\n<=hb.xs.length/\(n+ys.length)*by_<=140737488355328/\n+ys.length<=9223372036854775807)/\
     K (ae (e9 β fr) d (.ms β (n+ys.length))) (Ql hp β ⟨e,ty,hb.xs.take n++ys,false⟩))
   |none=>False
  |_=>False
def tT (e:Nat) (s x:PV) (d:Nat) (fr:Fr) (hp:HP) (K:Qh):Prop:=
 match jj hp x,s with
 |some (e',ys),.au β 0 n=>match hp β with
  | some hb=>0<e/\hb.fz=false/\hb.e=e/\(e'=e∨ys=[])/\n=hb.xs.length/\
    K (ae fr d (.int .i64 (min (ys.length:Int) n))) (Ql hp β { hb with xs:=ys.take n++hb.xs.drop ys.length })
  |none=>False
 |_,_=>False
def gS(d:Int):Option PV->Option Int
 |none=>some d
 |some (.int _ n)=>some n
 |some _=>none
def iw(e:Nat)(a:PV)(lo hi mx:Option PV)(d:Nat)(fr:Fr)(hp:HP)(K:Qh):Prop:=
 match a with
 |.aa=>match gS 0 lo,gS 0 hi,gS 0 mx with
  |some L,some H,some M=>L=0/\H=0/\M=0/\(mx.isSome->hi.isSome)/\K (ae fr d .aa) hp
  |_,_,_=>False
 |.sl e' xs=>match gS 0 lo,gS xs.length hi,gS xs.length mx with
  |some L,some H,some M=>e'=e/\0<=L/\L<=H/\H<=M/\M<=xs.length/\(mx.isSome->hi.isSome)/\K (ae fr d (.sl e ((xs.take H.toNat).drop L.toNat))) hp
  |_,_,_=>False
 |.au β o n=>match gS 0 lo,gS n hi,mx with
  |some L,some H,none=>(hp β).map (·.e)=some e/\0<=L/\L<=H/\H<=n/\(L=0∨L<n)/\K (ae fr d (.au β (o+L.toNat) (H.toNat-L.toNat))) hp
  |_,_,_=>False
 |_=>False
def lW(a:PV)(i:Nat)(d:Nat)(fr:Fr)(hp:HP)(K:Qh):Prop:=
 match a with
 |.aG ps=>match ps[i]? with
  |some p=>p.aD=true/\K (ae fr d p) hp
  |none=>False
 |.dV ps=>match ps[i]? with
  |some p=>K (ae fr d p) hp
  |none=>False
 |.cO cs q=>match i with
  |0=>K (ae fr d (.aK cs)) hp
  |1=>K (ae fr d q) hp
  |_=>False
 |_=>False
def gE(cells:List PV):List (Nat×List PV)->List PV
 | []=>cells
 |(o,xs)::r=>gE (cells.take o++xs++cells.drop (o+xs.length)) r
def Gh(hp:HP)(len:Nat)(ps:List (Nat×Nat×PV)):Prop:=∀p∈ps,(Qu hp p.2.2).aD=true/\(Qu hp p.2.2).cells.length=p.2.1/\p.1+p.2.1<=len
def Aw(zero:List PV)(ps:List (Nat×Nat×PV))(d:Nat)(fr:Fr)(hp:HP)(K:Qh):Prop:=
 Gh hp zero.length ps/\K (ae fr d (.agg (gE zero (ps.map fun p=>(p.1,(Qu hp p.2.2).cells))))) (Qx hp (ps.flatMap fun p=>p.2.2.refs))
def PV.nF:PV->Bool
 |.aH .. | .aK _=>true
 |.au β _ _=>decide (2000000<=β)
 |_=>false
def tF(len:Nat)(ps:List (Nat×Nat×PV)):Prop:=∀p∈ps,∃cs,eP p.2.2=some cs/\cs.length=p.2.1/\p.1+p.2.1<=len
def kC(zero:List PV)(ps:List (Nat×Nat×PV))(d:Nat)(fr:Fr)(hp:HP)(K:Qh):Prop:=
 if ps.any (fun p=>p.2.2.nF)then tF zero.length ps/\K (ae fr d (.aK (gE zero (ps.map fun p=>(p.1,(eP p.2.2).getD []))))) hp
 else Aw zero ps d fr hp K
def Ax(a:PV)(d:Option Nat)(fr:Fr)(hp:HP)(K:Qh):Prop:=
 match a,d with
 |.mp _ _ _,some d| .pt _,some d| .fn _ _ _,some d=>K (ae fr d a) hp
 |.mp _ _ _,none| .pt _,none| .fn _ _ _,none=>K fr hp
 |_,_=>False
structure Ctx where
 P:Program
 N:Nat
 w0:World
 X0:Nat->Prop
 AZ:∀b,X0 b->b<w0.heap.size
 hN:N<=1000000
 fx:Nat->Option Nat
 om:∀β b,fx β=some b->b<w0.heap.size/\(eF β=false->¬X0 b)
 Z0:Nat->Prop
 Fc:∀b,Z0 b->b<w0.heap.size/\¬X0 b/\∀β,fx β≠some b
@[reducible] def Ctx.plain (P : Program) (N : Nat) (w : World) (X : Nat -> Prop) (hX : ∀ b, X b -> b < w.heap.size) (hN : N <= 1000000) : Ctx :=
 ⟨P, N, w, X, hX, hN, fun _ => none, (fun _ _ h => nomatch h), cg, fun _ h => h.elim⟩
def Ctx.Y0(C:Ctx):Nat->Prop:=fun b=>(∃β,eF β=false/\C.fx β=some b)∨C.Z0 b
theorem Ctx.hY0(C:Ctx):∀b,C.Y0 b->b<C.w0.heap.size/\¬C.X0 b
 |b,.inl ⟨β,hr,h⟩=>⟨(C.om β b h).1,(C.om β b h).2 hr⟩
 |b,.inr h=>⟨(C.Fc b h).1,(C.Fc b h).2.1⟩
theorem Ctx.KF{P:Program}{N:Nat}{w w':World}{X:Nat->Prop}{hX:∀b,X b->b<w.heap.size}{hN:N<=1000000}(h:Ext (Ctx.plain P N w X hX hN).Y0 w w'):Ext cg w w':=
 h.mono fun b _ hb=>by
  rcases hb with⟨β,_,hb⟩|hb
  ·cases hb
  ·exact hb
def Ctx.cls(C:Ctx)(β b:Nat):Prop:=if aM β=true then C.fx β=some b else C.w0.heap.size<=b∨C.Z0 b
theorem Ctx.EK{C:Ctx}{β b:Nat}(h:C.cls β b)(hr:eF β=false):C.w0.heap.size<=b∨C.Y0 b:=by
 unfold Ctx.cls at h;split at h
 ·exact .inr (.inl ⟨β,hr,h⟩)
 ·exact h.imp id .inr
theorem Ctx.uh{C:Ctx}{β b:Nat}(h:C.cls β b)(hB:aM β=false):C.w0.heap.size<=b∨C.Z0 b:=by
 unfold Ctx.cls at h
 rwa[if_neg (by simp[hB])]at h
theorem Ctx.RF{C:Ctx}{β b:Nat}(h:C.w0.heap.size<=b∨C.Z0 b)(hB:aM β=false):C.cls β b:=by
 unfold Ctx.cls
 rwa[if_neg (by simp[hB])]
theorem Ctx.Uq{C:Ctx}{b:Nat}(h:C.w0.heap.size<=b∨C.Z0 b):C.w0.heap.size<=b∨C.Y0 b:=h.imp id .inr
theorem Ctx.KV{C:Ctx}{β b:Nat}(h:C.w0.heap.size<=b∨C.Z0 b):C.fx β≠some b:=fun e=>by
 rcases h with h|h
 ·have:=(C.om β b e).1;omega
 ·exact(C.Fc b h).2.2 β e
theorem Ctx.EJ{C:Ctx}{β b:Nat}(h:C.cls β b)(hr:eF β=false):¬C.X0 b:=fun hx=>by
 rcases Ctx.EK h hr with h|h
 ·have:=C.AZ b hx;omega
 ·exact(C.hY0 b h).2 hx
def aE(C:Ctx)(ρ:Nat->Option Nat)(hp:HP):Nat->Prop:=fun b=>C.X0 b∨∃β hb,hp β=some hb/\hb.fz=false/\ρ β=some b
def cV(w:World)(b e cap:Nat):Prop:=∃cur ty,w.heap[b]? =some (.cells cur ty (0,0))/\cur.size=cap*e
def xR(w:World)(X:Nat->Prop)(b:Nat)(hb:HB):Prop:=
 ∃(cur:Array Value)(cap:Nat),w.heap[b]? =some (.cells cur hb.ty (0,0))/\cur.size=cap*hb.e/\hb.xs.length<=cap/\cap<=maxLen/\
  ∀(i:Nat)(x:PV),hb.xs[i]? =some x->∀(j:Nat)(y:PV),x.cells[j]? =some y->Qp w X y (cur.getD (i*hb.e+j) undef)
structure sJ(C:Ctx)(ρ:Nat->Option Nat)(hp:HP)(w:World)(β:Nat)(hb:HB):Prop where
 jV:0<hb.e
 len:∀(i:Nat)(x:PV),hb.xs[i]? =some x->x.cells.length=hb.e/\x.aD=true
 cD:match ρ β with
  |none=>hb.xs=[]
  |some b=>C.cls β b/\b<w.heap.size/\xR w (aE C ρ hp) b hb
 fix:aM β=true->ρ β=C.fx β
 ro:eF β=true->hb.fz=true
def eh(ρ:Nat->Option Nat)(hp:HP)(w:World)(β o n:Nat)(v:Value):Prop:=
 ∃ hb,hp β=some hb/\o+n<=hb.xs.length/\((ρ β=none/\v= .slice none 0 0/\n=0/\o=0)∨
   ∃b cap,ρ β=some b/\v= .slice (some ⟨b,o*hb.e,none⟩) n cap/\cV w b hb.e (o+cap)/\o+cap<=maxLen)
def nY(ρ:Nat->Option Nat)(hp:HP)(w:World)(γ o n:Nat)(v:Value):Prop:=
 bB γ=true/\∃hb b cap,hp γ=some hb/\ρ γ=some b/\v= .slice (some ⟨b,o*hb.e,none⟩) n cap/\cV w b hb.e (o+cap)/\o+cap<=maxLen/\n<=cap
def cz(C:Ctx)(ρ:Nat->Option Nat)(hp:HP)(w:World):PV->Value->Prop
 |.undef,_=>True
 |.au β o n,v=>bB β=true/\eh ρ hp w β o n v
 |.aH γ o n,v=>nY ρ hp w γ o n v
 |p,v=>Qp w (aE C ρ hp) p v
def cI(C:Ctx)(ρ:Nat->Option Nat)(hp:HP)(w:World):PV->Value->Prop
 |.mp β i o,v=>∃b hb,ρ β=some b/\hp β=some hb/\v= .pointer (some ⟨b,i*hb.e+o,none⟩)
 |.au β o n,v=>eh ρ hp w β o n v
 |.rb β o n,v=>∃b u,v= .pointer (some ⟨b,0,none⟩)/\b<w.heap.size/\¬aE C ρ hp b/\w.cell? ⟨b,0,none⟩=some u/\eh ρ hp w β o n u
 |.np γ i o,v=>bB γ=true/\∃b hb,ρ γ=some b/\hp γ=some hb/\v= .pointer (some ⟨b,i*hb.e+o,none⟩)
 |.aH γ o n,v=>nY ρ hp w γ o n v
 |p,v=>Qp w (aE C ρ hp) p v
def Qm(C:Ctx)(ρ:Nat->Option Nat)(hp:HP)(w:World):PV->Value->Prop
 |.undef,_=>True
 |.mp β i o,v=>cI C ρ hp w (.mp β i o) v
 |.au β o n,v=>cI C ρ hp w (.au β o n) v
 |.rb β o n,v=>cI C ρ hp w (.rb β o n) v
 |.np γ i o,v=>cI C ρ hp w (.np γ i o) v
 |.aH γ o n,v=>cI C ρ hp w (.aH γ o n) v
 |.aK cs,v=>∃vs:Array Value,v= .agg vs/\vs.size=cs.length/\∀(i:Nat)(x:PV),cs[i]? =some x->cz C ρ hp w x (vs.getD i undef)
 |.dV cs,v=>∃vs:Array Value,v= .tuple vs/\vs.size=cs.length/\∀(i:Nat)(x:PV),cs[i]? =some x->cz C ρ hp w x (vs.getD i undef)
 |.cO cs q,v=>∃(vs:Array Value)(u:Value),v= .tuple #[.agg vs,u]/\vs.size=cs.length/\(∀(i:Nat)(x:PV),cs[i]? =some x->cz C ρ hp w x (vs.getD i undef))/\Q6 w (aE C ρ hp) q u
 |.aF γ e ty xs,_=>bB γ=true/\0<e/\∃(b:Nat) (hb:HB) (cur:Array Value) (cap:Nat),ρ γ=some b/\hp γ=some hb/\hb.xs=[]/\hb.e=e/\hb.ty=ty/\w.heap[b]? =some (.cells cur ty (0,0))/\cur.size=cap*e/\xs.length<=cap/\cap<=maxLen/\
   (∀(i:Nat)(x:PV),xs[i]? =some x->x.aX.length=e)/\∀(i:Nat)(x:PV),xs[i]? =some x->∀(j:Nat)(y:PV),x.aX[j]? =some y->cz C ρ hp w y (cur.getD (i*e+j) undef)
 |.fn f first cap,v=>∃fv cv:Array Value,v= .func (.func f) fv cv/\fv.size=first.length/\cv.size=cap.length/\
   (∀(i:Nat)(x:PV),first[i]? =some x->cI C ρ hp w x (fv.getD i undef))/\(∀(i:Nat)(x:PV),cap[i]? =some x->cI C ρ hp w x (cv.getD i undef))
 |p,v=>eB w (aE C ρ hp) p v
structure Qr(C:Ctx)(ρ:Nat->Option Nat)(fr:Fr)(hp:HP)(tmps:Array Value)(w:World):Prop where
 sz:tmps.size=C.N
 ext:Ext C.Y0 C.w0 w
 eG:∀β b,C.fx β=some b->∀e cap,cV C.w0 b e cap->cV w b e cap
 own:∀β hb,hp β=some hb->sJ C ρ hp w β hb
 inj:∀β γ b,hp β≠none->hp γ≠none->ρ β=some b->ρ γ=some b->β=γ
 cH:∀i,Qm C ρ hp w (fr i) (tmps.getD i undef)
def dB(C:Ctx)(fr:Fr)(hp:HP)(tmps:Array Value)(w:World):Prop:=∃ρ,Qr C ρ fr hp tmps w
def tU(tmps:Array Value)(d:Option Nat)(v:Value):Array Value:=match d with|some d=>tmps.setIfInBounds d v|none=>tmps
def Wk(fr:Fr)(hp:HP)(aA:Fr)(hp':HP):Prop:=∀(C:Ctx)(tmps:Array Value)(w:World),dB C fr hp tmps w->dB C aA hp' tmps w
def fC(C:Ctx)(pr:Bool)(f:PV)(args:List PV)(d:Option Nat)(fr:Fr)(hp:HP)(K:Qh):Prop:=
 match f with
 |.fn g first cap => (C.P.funcs[g]?).any (fun fn => fn.body.isSome && fn.name != "runtime.NumGoroutine") = true /\
  ∀ρ tmps w (fv cv av:Array Value),(∀x,d=some x->x<C.N)->Qr C ρ fr hp tmps w->
   fv.size=first.length->cv.size=cap.length->av.size=args.length->
   (∀(i:Nat)(x:PV),first[i]? =some x->cI C ρ hp w x (fv.getD i undef))->(∀(i:Nat)(x:PV),cap[i]? =some x->cI C ρ hp w x (cv.getD i undef))->
   (∀(i:Nat)(x:PV),args[i]? =some x->Qm C ρ hp w x (av.getD i undef))->
   Calls C.P g (fv++av++cv) w fun e w'=>∃v aA hp',e= .returned v/\dB C aA hp' (tU tmps d v) w'/\(pr=true->Ext cg w w')/\K aA hp'
 |_=>False
def bh(C:Ctx)(o:ch)(fr:Fr)(hp:HP)(K:Qh):Prop:=
 match o with
 |.mv d x=>K (ae fr d (ev fr x)) hp
 |.pick d c a b=>sF (ev fr c) (ev fr a) (ev fr b) d fr hp K
 |.bin d op bt x y=>bO op bt (ev fr x) (ev fr y) d fr hp K
 |.eqs d ng x y=>ra ng (ev fr x) (ev fr y) d fr hp K
 |.wQ d ng x y=>re ng (ev fr x) (ev fr y) d fr hp K
 |.BX d x=>vD (ev fr x) d fr hp K
 |.BW d x i=>tR (ev fr x) (ev fr i) d fr hp K
 |.un d op x=>uZ op (ev fr x) d fr hp K
 |.conv d k x=>vu k (ev fr x) d fr hp K
 |.len d x=>oU (ev fr x) d fr hp K
 |.mx d x y=>wL (ev fr x) (ev fr y) d fr hp K
 |.mn d x y=>wJ (ev fr x) (ev fr y) d fr hp K
 |.idx d e x i=>Q7 e (ev fr x) (ev fr i) d fr hp K
 |.wE d n e x i=>kX n e (ev fr x) (ev fr i) d fr hp K
 |.BJ d n e ag x i=>xP n e ag (ev fr x) (ev fr i) d fr hp K
 |.cc d off x=>rf off (ev fr x) d fr hp K
 |.ym d off n ag x=>qV off n ag (ev fr x) d fr hp K
 |.ld d n ag x=>bn n ag (ev fr x) d fr hp K
 |.st n x v=>nK n (ev fr x) (ev fr v) fr hp K
 |.box d n ty v=>eQ n ty (ev fr v) d fr hp K
 |.alloc d n ty z=>eQ n ty z d fr hp K
 |.mk d e by_ ty z l c=>nH e by_ ty z (ev fr l) (ev fr c) d fr hp K
 |.bs d e ty ps=>kE e ty (ps.map (ev fr)) d fr hp K
 |.app d e by_ ty s x=>iF e by_ ty (ev fr s) (ev fr x) d fr hp K
 |.uj d e s x=>tT e (ev fr s) (ev fr x) d fr hp K
 |.sl d e x lo hi mx=>iw e (ev fr x) (lo.map (ev fr)) (hi.map (ev fr)) (mx.map (ev fr)) d fr hp K
 |.ext d x i=>lW (ev fr x) i d fr hp K
 |.dv d zero ps=>kC zero (ps.map fun p=>(p.1,p.2.1,ev fr p.2.2)) d fr hp K
 |.fn d f first cap=>(first.map (ev fr)++cap.map (ev fr)).all PV.kL=true/\K (ae fr d (.fn f (first.map (ev fr)) (cap.map (ev fr)))) hp
 |.call d pr f args=>fC C pr (ev fr f) (args.map (ev fr)) d fr hp K
 |.BP d x=>Ax (ev fr x) d fr hp K
 |.bad _=>False
def jk(o:ch)(fr:Fr)(hp:HP)(K:Qh):Prop:=
 match o.dst with
 |some d=>K (ae fr d (.aG [])) hp
 |none=>K fr hp
def hZ(C:Ctx)(g:Option (Nat×Bool))(o:ch)(fr:Fr)(hp:HP)(K:Qh):Prop:=
 match g with
 |none=>bh C o fr hp K
 |some (s,want)=>match fr s with
  |.bool t=>(t=want->bh C o (ae fr s (.bool want)) hp K)/\(t=(!want)->jk o (ae fr s (.bool !want)) hp K)
  |.aG []=>jk o fr hp K
  |_=>False
inductive It where
 |c (s:SC)
 |o (r:RT)
 |eb (id:Nat)
 |el (J:Qh)
def RT.sz:RT->Nat
 |.nil=>1
 |.o _ _ r=>r.sz+1
 |.br a b=>a.sz+b.sz+1
 |.wk r=>r.sz+1
def SC.sz:SC->Nat
 |.rg r=>r.sz+1
 |.seq a b=>a.sz+b.sz+1
 |.cond _ a b=>a.sz+b.sz+1
 |.block _ a=>a.sz+2
 |.loop a=>a.sz+2
 |_=>1
def It.sz:It->Nat
 |.c s=>s.sz
 |.o r=>r.sz
 |_=>1
def bG:List It->Nat
 | []=>0
 |i::is=>i.sz+bG is
def bW(id:Nat):List It->Option (List It)
 | []=>none
 |.eb i::sk=>if i=id then some sk else bW id sk
 |_::sk=>bW id sk
theorem zy(id:Nat):∀(sk dW:List It),FW.bW id sk=some dW->bG dW<=bG sk
 | [],_,h=>by simp[FW.bW]at h
 |.c s::sk,dW,h=>by have:=zy id sk dW (by simpa[FW.bW]using h);simp[bG];omega
 |.o s::sk,dW,h=>by have:=zy id sk dW (by simpa[FW.bW]using h);simp[bG];omega
 |.el s::sk,dW,h=>by have:=zy id sk dW (by simpa[FW.bW]using h);simp[bG];omega
 |.eb i::sk,dW,h=>by
  simp only[FW.bW]at h;split at h
  ·cases h;simp[bG]
  ·have:=zy id sk dW h;simp[bG];omega
theorem RT.yW(r:RT):0<r.sz:=by cases r<;>simp[RT.sz]
theorem SC.yW(s:SC):0<s.sz:=by cases s<;>simp[SC.sz]
def vc(C:Ctx)(R:Qh)(sk:List It)(fr:Fr)(hp:HP):Prop:=
 match sk with
 | []=>R fr hp
 |.el J::_=>J fr hp
 |.eb _::sk=>vc C R sk fr hp
 |.o .nil::sk=>vc C R sk fr hp
 |.o (.o g o r)::sk=>hZ C g o fr hp (fun fr hp=>vc C R (.o r::sk) fr hp)
 |.o (.br a b)::sk=>vc C R (.o a::sk) fr hp/\vc C R (.o b::sk) fr hp
 |.o (.wk r)::sk=>∃aJ aw,Wk fr hp aJ aw/\vc C R (.o r::sk) aJ aw
 |.c .skip::sk=>vc C R sk fr hp
 |.c (.rg r)::sk=>vc C R (.o r::sk) fr hp
 |.c (.raw id ops)::sk=>∀tmps w Q,dB C fr hp tmps w->(∀aA hp' uY w',dB C aA hp' uY w'->vc C R sk aA hp'->Q .normal { tmps:=uY,defers:=[] } w')->(Code.region id ops true).wp C.P Q { tmps:=tmps,defers:=[] } w
 |.c (.seq a b)::sk=>vc C R (.c a:: .c b::sk) fr hp
 |.c (.cond c a b)::sk=>match ev fr c with
  |.bool t=>(t=true->vc C R (.c a::sk) fr hp)/\(t=false->vc C R (.c b::sk) fr hp)
  |_=>False
 |.c (.block id a)::sk=>vc C R (.c a:: .eb id::sk) fr hp
 |.c (.loop a)::sk=>∃(I:Qh)(μ:Fr->HP->Nat),(∃aJ aw,Wk fr hp aJ aw/\I aJ aw)/\∀fr hp,I fr hp->vc C R (.c a:: .el (fun aA hp'=>∃aJ aw,Wk aA hp' aJ aw/\I aJ aw/\μ aJ aw<μ fr hp)::sk) fr hp
 |.c (.exit id)::sk=>match h:FW.bW id sk with
  |some dW=>vc C R dW fr hp
  |none=>False
 |.c .ret::_=>R fr hp
termination_by bG sk
decreasing_by
 all_goals simp only[bG,It.sz,SC.sz,RT.sz]
 all_goals first|omega|(have:=zy _ _ _ h;omega)|skip
variable {C : Ctx} {ρ : Nat -> Option Nat} {fr : Fr} {hp : HP} {tmps : Array Value} {w : World}
theorem eh.move{ρ':Nat->Option Nat}{hp':HP}{w':World}{β o n:Nat}{v:Value}(h:eh ρ hp w β o n v)
  (hr:ρ' β=ρ β/\∀hb,hp β=some hb->∃ax,hp' β=some ax/\ax.e=hb.e/\hb.xs.length<=ax.xs.length/\∀b cap,ρ β=some b->cV w b hb.e cap->cV w' b hb.e cap):eh ρ' hp' w' β o n v:=by
 obtain⟨hb,h2,h3,h4⟩:=h;obtain⟨e1,e2⟩:=hr;obtain⟨ax,h5,h6,h7,h8⟩:=e2 hb h2;refine⟨ax,h5,KaL h3 h7,?_⟩;rcases h4 with⟨g1,g2,g3⟩|⟨b,cap,g1,g2,g3,g4⟩
 ·exact .inl ⟨by rw[e1];exact g1,g2,g3⟩
 ·exact .inr ⟨b,cap,by rw[e1];exact g1,by rw[h6];exact g2,by rw[h6];exact h8 b (o+cap) g1 g3,g4⟩
structure lX(w w':World)(X X':Nat->Prop):Prop where
 cD:∀b,b<w.heap.size->¬X b->w'.heap[b]? =w.heap[b]?
 out:∀b,b<w.heap.size->¬X b->¬X' b
 size:w.heap.size<=w'.heap.size
theorem lX.rc{w w':World}{X X':Nat->Prop}(h:lX w w' X X'):∀q u,Qp w X q u->Qp w' X' q u:=fun _ _ hq=>hq.mono h.cD h.out h.size
structure oH(ρ ρ':Nat->Option Nat)(hp hp':HP)(w w':World)(β:Nat):Prop where
 r:ρ' β=ρ β
 h:∀hb,hp β=some hb->∃ax,hp' β=some ax/\ax.e=hb.e/\hb.xs.length<=ax.xs.length/\(∀b cap,ρ β=some b->cV w b hb.e cap->cV w' b hb.e cap)/\(hb.xs=[]->ax.xs=[]/\ax.ty=hb.ty/\∀b,ρ β=some b->w'.heap[b]? =w.heap[b]?)
theorem oH.o{ρ':Nat->Option Nat}{hp':HP}{w':World}{β:Nat}(h:oH ρ ρ' hp hp' w w' β):ρ' β=ρ β/\∀hb,hp β=some hb->∃ax,hp' β=some ax/\ax.e=hb.e/\hb.xs.length<=ax.xs.length/\∀b cap,ρ β=some b->cV w b hb.e cap->cV w' b hb.e cap:=
 ⟨h.r,fun hb aj=>let⟨ax,a,b,c,d,_⟩:=h.h hb aj;⟨ax,a,b,c,d⟩⟩
structure vE(ρ ρ':Nat->Option Nat)(hp hp':HP)(w w':World)(β:Nat):Prop where
 r:ρ' β=ρ β
 h:∀hb,hp β=some hb->∃ax,hp' β=some ax/\ax.e=hb.e/\hb.xs.length<=ax.xs.length/\∀b cap,ρ β=some b->cV w b hb.e cap->cV w' b hb.e cap
theorem oH.yY{ρ':Nat->Option Nat}{hp':HP}{w':World}{β:Nat}(h:oH ρ ρ' hp hp' w w' β):vE ρ ρ' hp hp' w w' β:=⟨h.r,h.o.2⟩
theorem nY.move{ρ':Nat->Option Nat}{hp':HP}{w':World}{γ o n:Nat}{v:Value}(h:nY ρ hp w γ o n v)(hr:vE ρ ρ' hp hp' w w' γ):nY ρ' hp' w' γ o n v:=by obtain⟨h0,hb,b,cap,h1,h2,h3,h4,h5,h6⟩:=h;obtain⟨ax,a1,a2,_,a4⟩:=hr.h hb h1;exact⟨h0,ax,b,cap,a1,by rw[hr.r];exact h2,by rw[a2];exact h3,by rw[a2];exact a4 b _ h2 h4,h5,h6⟩
theorem cz.move{ρ':Nat->Option Nat}{hp':HP}{w':World}{p:PV}{v:Value}(h:cz C ρ hp w p v)(hc:lX w w' (aE C ρ hp) (aE C ρ' hp'))(hs:∀β∈p.dh,vE ρ ρ' hp hp' w w' β):cz C ρ' hp' w' p v:=by
 cases p with
 |undef=>trivial
 |au β o n=>exact⟨h.1,eh.move h.2 ⟨(hs β (by simp[PV.dh])).r,(hs β (by simp[PV.dh])).h⟩⟩
 |aH γ o n=>exact nY.move h (hs γ (by simp[PV.dh]))
 |_=>exact hc.rc _ _ h
theorem cI.move{ρ':Nat->Option Nat}{hp':HP}{w':World}{p:PV}{v:Value}(h:cI C ρ hp w p v)
  (hc:lX w w' (aE C ρ hp) (aE C ρ' hp'))
  (hr:∀β∈p.bw,ρ' β=ρ β/\∀hb,hp β=some hb->∃ax,hp' β=some ax/\ax.e=hb.e/\hb.xs.length<=ax.xs.length/\∀b cap,ρ β=some b->cV w b hb.e cap->cV w' b hb.e cap)
  (hs:∀β∈p.dU,vE ρ ρ' hp hp' w w' β):
  cI C ρ' hp' w' p v:=by
 cases p with
 |mp β i o=>obtain⟨b,hb,h1,h2,h3⟩:=h;obtain⟨e1,e2⟩:=hr β (by simp[PV.bw]);obtain⟨ax,h4,h5,_,_⟩:=e2 hb h2;exact⟨b,ax,by rw[e1];exact h1,h4,by rw[h5];exact h3⟩
 |au β o n=>exact eh.move h (hr β (by simp[PV.bw]))
 |rb β o n=>obtain⟨b,u,h1,h2,h3,h4,h5⟩:=h;exact⟨b,u,h1,Kbi h2 hc.size,hc.out b h2 h3,(va (hc.cD b h2 h3)).trans h4,eh.move h5 (hr β (by simp[PV.bw]))⟩
 |np γ i o=>obtain⟨h0,b,hb,h1,h2,h3⟩:=h;have hq:=hs γ (by simp[PV.dU]);obtain⟨ax,a1,a2,_⟩:=hq.h hb h2;exact⟨h0,b,ax,by rw[hq.r];exact h1,a1,by rw[a2];exact h3⟩
 |aH γ o n=>exact nY.move h (hs γ (by simp[PV.dU]))
 |_=>exact hc.rc _ _ h
theorem GN{f:FuncId}{first cap:List PV}{i:Nat}{x:PV}(h:first[i]? =some x):∀β∈x.bw,β∈(PV.fn f first cap).refs:=by intro β aj;simp only[PV.refs,KaM,Kap];exact .inl ⟨x,Kaj h,aj⟩
theorem GR{f:FuncId}{first cap:List PV}{i:Nat}{x:PV}(h:cap[i]? =some x):∀β∈x.bw,β∈(PV.fn f first cap).refs:=by intro β aj;simp only[PV.refs,KaM,Kap];exact .inr ⟨x,Kaj h,aj⟩
theorem eB.move{w':World}{X X':Nat->Prop}{p:PV}{v:Value}(h:eB w X p v)(hc:∀q u,Qp w X q u->Qp w' X' q u):eB w' X' p v:=by
 have h1:∀p v,Q6 w X p v->Q6 w' X' p v:=by
  intro p v h;cases p with
  |agg cs=>obtain⟨vs,rfl,h1,h2⟩:=h;exact⟨vs,rfl,h1,fun i x hi=>hc _ _ (h2 i x hi)⟩
  |_=>exact hc _ _ h
 cases p with
 |aG ps=>obtain⟨vs,rfl,g1,g2⟩:=h;exact⟨vs,rfl,g1,fun i x hi=>h1 _ _ (g2 i x hi)⟩
 |agg cs=>exact h1 (.agg cs) v h
 |_=>exact hc _ _ h
theorem Qm.move{ρ':Nat->Option Nat}{hp':HP}{w':World}{p:PV}{v:Value}(h:Qm C ρ hp w p v)
  (hc:lX w w' (aE C ρ hp) (aE C ρ' hp'))
  (hr:∀β∈p.refs,ρ' β=ρ β/\∀hb,hp β=some hb->∃ax,hp' β=some ax/\ax.e=hb.e/\hb.xs.length<=ax.xs.length/\∀b cap,ρ β=some b->cV w b hb.e cap->cV w' b hb.e cap)
  (hs:∀β∈p.aN,vE ρ ρ' hp hp' w w' β) (hn:∀γ e ty xs,p= .aF γ e ty xs->oH ρ ρ' hp hp' w w' γ):
  Qm C ρ' hp' w' p v:=by
 cases p with
 |undef=>trivial
 |mp β i o=>exact cI.move (p:=.mp β i o) h hc (fun bA mB=>hr bA mB) (fun β aj=>by cases aj)
 |au β o n=>exact cI.move (p:=.au β o n) h hc (fun bA mB=>hr bA mB) (fun β aj=>by cases aj)
 |rb β o n=>exact cI.move (p:=.rb β o n) h hc (fun bA mB=>hr bA mB) (fun β aj=>by cases aj)
 |np γ i o=>exact cI.move (p:=.np γ i o) h hc (fun β aj=>by cases aj) (fun bA mB=>hs bA mB)
 |aH γ o n=>exact cI.move (p:=.aH γ o n) h hc (fun β aj=>by cases aj) (fun bA mB=>hs bA mB)
 |aK cs=>obtain⟨vs,rfl,h1,h2⟩:=h;exact⟨vs,rfl,h1,fun i x hi=>(h2 i x hi).move hc (fun β aj=>hs β (Kap.2 ⟨x,Kaj hi,aj⟩))⟩
 |dV cs=>obtain⟨vs,rfl,h1,h2⟩:=h;exact⟨vs,rfl,h1,fun i x hi=>(h2 i x hi).move hc (fun β aj=>hs β (Kap.2 ⟨x,Kaj hi,aj⟩))⟩
 |cO cs q=>obtain⟨vs,u,rfl,h1,h2,h3⟩:=h;exact⟨vs,u,rfl,h1,fun i x hi=>(h2 i x hi).move hc (fun β aj=>hs β (Kap.2 ⟨x,Kaj hi,aj⟩)),h3.mono hc.cD hc.out hc.size⟩
 |aF γ e ty xs=>obtain⟨h0,he,b,hb,cur,cap,h1,h2,h3,h4,h5,h6,h7,h8,h9,bp,cj⟩:=h;have hq:=hn γ e ty xs rfl;obtain⟨ax,a1,a2,_,_,a5⟩:=hq.h hb h2;obtain⟨a5,a6,a7⟩:=a5 h3;refine⟨h0,he,b,ax,cur,cap,by rw[hq.r];exact h1,a1,a5,by rw[a2];exact h4,by rw[a6];exact h5,by rw[a7 b h1];exact h6,h7,h8,h9,bp,fun i x hi j y hy=>(cj i x hi j y hy).move hc (fun β aj=>hs β ?_)⟩;refine KaZ _ (Kap.2 ⟨x,Kaj hi,Kap.2 ⟨y,Kaj hy,aj⟩⟩)
 | fn f first cap=>
  obtain⟨fv,cv,rfl,h1,h2,h3,h4⟩:=h;exact⟨fv,cv,rfl,h1,h2,fun i x hi=>(h3 i x hi).move hc (fun β aj=>hr β (GN hi β aj)) (fun β aj=>hs β (KaM.2 (.inl (Kap.2 ⟨x,Kaj hi,aj⟩)))),
   fun i x hi=>(h4 i x hi).move hc (fun β aj=>hr β (GR hi β aj)) (fun β aj=>hs β (KaM.2 (.inr (Kap.2 ⟨x,Kaj hi,aj⟩))))⟩
 |agg cs=>exact eB.move (p:=.agg cs) h hc.rc
 |aG cs=>exact eB.move (p:=.aG cs) h hc.rc
 |_=>exact hc.rc _ _ h
theorem Qm.pw{ρ':Nat->Option Nat}{hp':HP}{w':World}{p:PV}{v:Value}(h:Qm C ρ hp w p v)
  (hc:lX w w' (aE C ρ hp) (aE C ρ' hp'))
  (hr:∀β∈p.refs,ρ' β=ρ β/\∀hb,hp β=some hb->∃ax,hp' β=some ax/\ax.e=hb.e/\hb.xs.length<=ax.xs.length/\∀b cap,ρ β=some b->cV w b hb.e cap->cV w' b hb.e cap)
  (hs:∀β∈p.aN,oH ρ ρ' hp hp' w w' β):Qm C ρ' hp' w' p v:=
 h.move hc hr (fun β aj=>(hs β aj).yY) (fun γ e ty xs e1=>hs γ (by rw[e1];simp[PV.aN]))
theorem kT{w w':World}{b e cap:Nat}(h:w'.heap[b]? =w.heap[b]?)(hc:cV w b e cap):cV w' b e cap:=by obtain⟨cur,ty,h1,h2⟩:=hc;exact⟨cur,ty,by rw[h];exact h1,h2⟩
theorem kV{w:World}{b e cap:Nat}(hc:cV w b e cap):b<w.heap.size:=by obtain⟨cur,ty,h1,_⟩:=hc;exact(Kbm.1 h1).1
theorem xR.move{w w':World}{X X':Nat->Prop}{b:Nat}{hb ax:HB}(h:xR w X b hb)(hh:w'.heap[b]? =w.heap[b]?)(e1:ax.e=hb.e)(e2:ax.ty=hb.ty)(e3:ax.xs=hb.xs)
  (hc:∀q u,Qp w X q u->Qp w' X' q u):xR w' X' b ax:=by
 obtain⟨cur,cap,h1,h2,h3,h4,h5⟩:=h;exact⟨cur,cap,by rw[hh,e2];exact h1,by rw[e1];exact h2,by rw[e3];exact h3,h4,fun i x hi j y hy=>by rw[e1];exact hc _ _ (h5 i x (by rw[<-e3];exact hi) j y hy)⟩
theorem Qr.ae(h:Qr C ρ fr hp tmps w){d:Nat}{p:PV}{v:Value}(hv:Qm C ρ hp w p v)(hd:d<C.N):Qr C ρ (ae fr d p) hp (tmps.setIfInBounds d v) w:=by
 refine⟨by simpa using h.sz,h.ext,h.eG,h.own,h.inj,fun i=>?_⟩;unfold FW.ae;split
 ·rename_i he;subst he;simpa[Array.getD,h.sz,hd]using hv
 ·rename_i he;have:(tmps.setIfInBounds d v).getD i undef=tmps.getD i undef:=by simp only[KaN];rw[Kco (fun e=>he e.symm)]
  rw[this];exact h.cH i
theorem Hd{l:List Nat}{b:Nat}(h:aE C ρ (Qx hp l) b):aE C ρ hp b:=by
 rcases h with h|⟨β,hb,h1,h2,h3⟩
 ·exact .inl h
 ·refine .inr ⟨β,hb,?_,h2,h3⟩;unfold Qx at h1;split at h1
  ·cases hq:hp β with
   |none=>simp[hq]at h1
   |some lu=>simp[hq]at h1;subst h1;simp at h2
  ·exact h1
theorem CD{l:List Nat}{β:Nat}{hb:HB}(h:hp β=some hb):∃ax,Qx hp l β=some ax/\ax.e=hb.e/\ax.ty=hb.ty/\ax.xs=hb.xs/\(ax.fz=false->ax=hb)/\(ax.fz=false->β ∉ l):=by
 unfold Qx;by_cases hl:l.contains β=true
 ·rw[if_pos hl,h];exact⟨_,rfl,rfl,rfl,rfl,by simp,by simp⟩
 ·rw[if_neg hl,h];exact⟨hb,rfl,rfl,rfl,rfl,fun _=>rfl,fun _=>by simpa using hl⟩
theorem zf{l:List Nat}{β:Nat}{ax:HB}(h:Qx hp l β=some ax):∃hb,hp β=some hb/\ax.e=hb.e/\ax.ty=hb.ty/\ax.xs=hb.xs/\(ax.fz=false->ax=hb)/\(ax.fz=false->β ∉ l):=by
 cases hq:hp β with
 |none=>unfold Qx at h;split at h<;>simp[hq]at h
 |some hb=>obtain⟨dN,g1,g2⟩:=CD (l:=l) hq;rw[g1]at h;cases h;exact⟨hb,rfl,g2⟩
theorem Qp.freeze{l:List Nat}{q:PV}{u:Value}(h:Qp w (aE C ρ hp) q u):Qp w (aE C ρ (Qx hp l)) q u:=
 h.mono (fun _ _ _=>rfl) (fun _ _ hn hx=>hn (Hd hx)) (Kad _)
theorem Qr.freeze(h:Qr C ρ fr hp tmps w)(l:List Nat):Qr C ρ fr (Qx hp l) tmps w:=by
 refine⟨h.sz,h.ext,h.eG,fun β ax aj=>?_,fun β γ b h1 h2 h3 h4=>?_,fun i=>?_⟩
 ·obtain⟨hb,g1,g2,g3,g4,g5,_⟩:=zf aj;obtain⟨p1,p2,p3,p4,p5⟩:=h.own β hb g1;refine⟨by rw[g2];exact p1,fun i x hi=>by rw[g2];exact p2 i x (by rw[<-g4];exact hi),?_,p4,fun hq=>by
   cases hz:ax.fz with
   |true=>rfl
   |false=>rw[<-g5 hz,hz]at p5;cases p5 hq⟩
  cases bl:ρ β with
  |none=>rw[bl]at p3;simp only at p3 ⊢;rw[g4];exact p3
  |some b=>rw[bl]at p3;simp only at p3 ⊢;exact⟨p3.1,p3.2.1,p3.2.2.move rfl g2 g3 g4 (fun q u hq=>hq.freeze)⟩
 ·have f1:∀γ,FW.Qx hp l γ≠none->hp γ≠none:=fun γ hn=>by
   cases hq:hp γ with
   |none=>unfold FW.Qx at hn;split at hn<;>simp[hq]at hn
   |some _=>simp
  exact h.inj β γ b (f1 β h1) (f1 γ h2) h3 h4
 ·refine(h.cH i).pw ⟨fun _ _ _=>rfl,fun _ _ hn hx=>hn (Hd hx),Kad _⟩ (fun β _=>⟨rfl,fun hb aj=>by
  obtain⟨ax,g1,g2,_,g4,_⟩:=CD (l:=l) aj;exact⟨ax,g1,g2,by rw[g4];exact Kad _,fun b cap _ hc=>hc⟩⟩) (fun β _=>⟨rfl,fun hb aj=>by
  obtain⟨ax,g1,g2,g3,g4,_⟩:=CD (l:=l) aj;exact⟨ax,g1,g2,by rw[g4];exact Kad _,fun b cap _ hc=>hc,fun he=>⟨by rw[g4];exact he,g3,fun _ _=>rfl⟩⟩⟩)
theorem Qr.grow{w':World}(h:Qr C ρ fr hp tmps w)(hx:Ext cg w w'):Qr C ρ fr hp tmps w':=by
 have ik:lX w w' (aE C ρ hp) (aE C ρ hp):=⟨fun b hb _=>hx.block b hb (fun h=>h),fun _ _ hn=>hn,hx.size⟩
 have hc:=ik.rc;refine⟨h.sz,h.ext.trans' hx (fun _ _ h=>h.elim),fun b0 b hb e cap hc=>kT (hx.block b (kV (h.eG b0 b hb e cap hc)) (fun h=>h)) (h.eG b0 b hb e cap hc),fun β hb aj=>?_,h.inj,fun i=>?_⟩
 ·obtain⟨p1,p2,p3,p4,p5⟩:=h.own β hb aj;refine⟨p1,p2,?_,p4,p5⟩;cases bl:ρ β with
  |none=>rw[bl]at p3;exact p3
  |some b=>rw[bl]at p3;exact⟨p3.1,Kbi p3.2.1 hx.size,p3.2.2.move (hx.block b p3.2.1 (fun h=>h)) rfl rfl rfl hc⟩
 ·exact(h.cH i).pw ik (fun β _=>⟨rfl,fun hb aj=>⟨hb,aj,rfl,Kad _,fun b cap _ dw=>kT (hx.block b (kV dw) (fun h=>h)) dw⟩⟩)
   (fun β _=>⟨rfl,fun hb aj=>⟨hb,aj,rfl,Kad _,fun b cap _ dw=>kT (hx.block b (kV dw) (fun h=>h)) dw,fun he=>⟨he,rfl,fun b bl=>hx.block b (by have:=(h.own β hb aj).cD;rw[bl]at this;exact this.2.1) (fun h=>h)⟩⟩⟩)
theorem OT{β:Nat}{p:PV}:∀γ∈(bx β p).refs,γ≠β/\γ∈p.refs:=by
 intro γ ah;unfold bx at ah;split at ah
 ·simp[PV.refs]at ah
 ·rename_i hn;refine⟨fun he=>hn (by subst he;simpa using ah),ah⟩
theorem Qm.kill{β:Nat}{p:PV}{v:Value}(h:Qm C ρ hp w p v):Qm C ρ hp w (bx β p) v:=by
 unfold bx;split
 ·trivial
 ·exact h
theorem cz.yU{p:PV}{v:Value}(h:cz C ρ hp w p v):∀γ∈p.dh,bB γ=true:=by
 intro γ ah;cases p with
 |au β o n=>simp[PV.dh]at ah;subst ah;exact h.1
 |aH β o n=>simp[PV.dh]at ah;subst ah;exact h.1
 |np β o n=>cases h
 |_=>cases ah
theorem cI.TN{p:PV}{v:Value}(h:cI C ρ hp w p v):∀γ∈p.dU,bB γ=true:=by
 intro γ ah;cases p with
 |aH β o n=>simp[PV.dU]at ah;subst ah;exact h.1
 |np β o n=>simp[PV.dU]at ah;subst ah;exact h.1
 |_=>cases ah
theorem Qm.yU{p:PV}{v:Value}(h:Qm C ρ hp w p v):∀γ∈p.aN,bB γ=true:=by
 intro γ ah;cases p with
 |aH β o n=>simp[PV.aN]at ah;subst ah;exact h.1
 |np β o n=>simp[PV.aN]at ah;subst ah;exact h.1
 |aK cs=>obtain⟨vs,_,_,h2⟩:=h;obtain⟨x,hx,ah⟩:=Kap.1 ah;obtain⟨i,hi⟩:=KaB hx;exact(h2 i x hi).yU γ ah
 |dV cs=>obtain⟨vs,_,_,h2⟩:=h;obtain⟨x,hx,ah⟩:=Kap.1 ah;obtain⟨i,hi⟩:=KaB hx;exact(h2 i x hi).yU γ ah
 |cO cs q=>obtain⟨vs,u,_,_,h2,_⟩:=h;obtain⟨x,hx,ah⟩:=Kap.1 ah;obtain⟨i,hi⟩:=KaB hx;exact(h2 i x hi).yU γ ah
 | aF β e ty xs=>
  obtain⟨h0,_,b,hb,cur,cap,_,_,_,_,_,_,_,_,_,_,cj⟩:=h;rcases KaC.1 ah with rfl|ah
  ·exact h0
  ·obtain⟨x,hx,ah⟩:=Kap.1 ah;obtain⟨y,hy,ah⟩:=Kap.1 ah;obtain⟨i,hi⟩:=KaB hx;obtain⟨j,hj⟩:=KaB hy;exact(cj i x hi j y hj).yU γ ah
 | fn f first cap=>
  obtain⟨fv,cv,_,_,_,h3,h4⟩:=h;rcases KaM.1 ah with ah|ah
  ·obtain⟨x,hx,ah⟩:=Kap.1 ah;obtain⟨i,hi⟩:=KaB hx;exact(h3 i x hi).TN γ ah
  ·obtain⟨x,hx,ah⟩:=Kap.1 ah;obtain⟨i,hi⟩:=KaB hx;exact(h4 i x hi).TN γ ah
 |_=>cases ah
def rb(ρ:Nat->Option Nat)(β:Nat)(b':Option Nat):Nat->Option Nat:=fun γ=>if γ=β then b' else ρ γ
theorem gh(ρ:Nat->Option Nat)(β:Nat)(b':Option Nat):rb ρ β b' β=b':=by simp[rb]
theorem oR{ρ:Nat->Option Nat}{β γ:Nat}{b':Option Nat}(h:γ≠β):rb ρ β b' γ=ρ γ:=by simp[rb,h]
def xS(C:Ctx)(ρ:Nat->Option Nat)(hp:HP)(w:World)(β:Nat)(fr aA:Fr):Prop:=∀(i:Nat)(v:Value),Qm C ρ hp w (fr i) v->Qm C ρ hp w (aA i) v/\(∀γ∈(aA i).refs,γ≠β)/\∀γ∈(aA i).aN,γ≠β
theorem C6{β:Nat}(hB:bB β=false):xS C ρ hp w β fr (bE β fr):=fun i v h=>by have hk:=Qm.kill (β:=β) h;exact⟨hk,fun γ ah=>(OT γ ah).1,fun γ ah e=>by have:=hk.yU γ ah;rw[e,hB]at this;cases this⟩
theorem Qr.yS{w':World}{aA:Fr}(h:Qr C ρ fr hp tmps w)(β:Nat)(b':Option Nat)(ax:HB)(hB:aM β=false)(qk:xS C ρ hp w β fr aA)
  (hx:Ext (fun b=>ρ β=some b/\∃hb,hp β=some hb/\hb.fz=false) w w')
  (ny:∀c,b'=some c->(C.w0.heap.size<=c∨C.Z0 c)/\c<w'.heap.size/\(w.heap.size<=c∨(ρ β=some c/\∃hb,hp β=some hb/\hb.fz=false)))
  (he:0<ax.e) (hl:∀(i:Nat)(x:PV),ax.xs[i]? =some x->x.cells.length=ax.e/\x.aD=true)
  (sW:b'=none->ax.xs=[]) (aU:∀c,b'=some c->∃(cur:Array Value) (cap:Nat),w'.heap[c]? =some (.cells cur ax.ty (0,0))/\cur.size=cap*ax.e/\ax.xs.length<=cap/\cap<=maxLen/\
   ∀(i:Nat)(x:PV),ax.xs[i]? =some x->∀(j:Nat)(y:PV),x.cells[j]? =some y->Qp w (aE C ρ hp) y (cur.getD (i*ax.e+j) undef)):
  Qr C (rb ρ β b') aA (Ql hp β ax) tmps w':=by
 have hX:∀b,b<w.heap.size->¬aE C ρ hp b->¬aE C (rb ρ β b') (Ql hp β ax) b:=by
  intro b hb hn aP;rcases aP with aP|⟨γ,hg,h1,h2,h3⟩
  ·exact hn (.inl aP)
  ·unfold Ql at h1;by_cases ah:γ=β
   ·subst ah;rw[gh]at h3;obtain⟨_,_,h4|⟨h5,lu,h6,h7⟩⟩:=ny b h3
    ·omega
    ·exact hn (.inr ⟨γ,lu,h6,h7,h5⟩)
   ·rw[if_neg ah]at h1;rw[oR ah]at h3;exact hn (.inr ⟨γ,hg,h1,h2,h3⟩)
 have ik:lX w w' (aE C ρ hp) (aE C (rb ρ β b') (Ql hp β ax)):=
  ⟨fun b hb hn=>hx.block b hb (fun⟨e1,lu,e2,e3⟩=>hn (.inr ⟨β,lu,e2,e3,e1⟩)),hX,hx.size⟩
 have hc:=ik.rc;have hold:∀b,ρ β=some b->(∃hb,hp β=some hb/\hb.fz=false)->C.w0.heap.size<=b∨C.Z0 b:=by intro b e1 ⟨lu,e2,e3⟩;have:=(h.own β lu e2).cD;rw[e1]at this;exact Ctx.uh this.1 hB
 have jv:Ext C.Y0 C.w0 w':=by refine h.ext.trans' (Y':=fun b=>ρ β=some b/\∃hb,hp β=some hb/\hb.fz=false) hx ?_;intro b hb ⟨e1,e2⟩;exact(Ctx.Uq (hold b e1 e2)).resolve_left (by omega)
 have Bm:∀β b,C.fx β=some b->∀e cap,cV C.w0 b e cap->cV w' b e cap:=fun b0 b hb e cap ik=>by have h1:=h.eG b0 b hb e cap ik;refine kT (hx.block b (kV h1) ?_) h1;intro⟨e1,e2⟩;exact Ctx.KV (hold b e1 e2) hb
 refine⟨h.sz,jv,Bm,fun γ hg ah=>?_,fun γ δ b h1 h2 h3 h4=>?_,fun i=>?_⟩
 ·unfold Ql at ah;by_cases rP:γ=β
  ·rw[if_pos rP]at ah;cases ah;subst rP;refine⟨he,hl,?_,(fun hq=>by rw[hB]at hq;cases hq),fun hq=>by rw[xA hB]at hq;cases hq⟩;rw[gh];cases b' with
   |none=>exact sW rfl
   |some c=>obtain⟨cur,cap,c1,c2,c3,c4,c5⟩:=aU c rfl;exact⟨Ctx.RF (ny c rfl).1 hB,(ny c rfl).2.1,cur,cap,c1,c2,c3,c4,fun i x hi j y hy=>hc _ _ (c5 i x hi j y hy)⟩
  ·rw[if_neg rP]at ah;obtain⟨p1,p2,p3,p4,p5⟩:=h.own γ hg ah;refine⟨p1,p2,?_,(fun hq=>by rw[oR rP];exact p4 hq),p5⟩;rw[oR rP];cases bl:ρ γ with
   |none=>rw[bl]at p3;exact p3
   |some b=>rw[bl]at p3;refine⟨p3.1,Kbi p3.2.1 hx.size,p3.2.2.move (hx.block b p3.2.1 ?_) rfl rfl rfl hc⟩;intro⟨e1,lu,e2,_⟩;exact rP (h.inj γ β b (by simp[ah]) (by simp[e2]) bl e1)
 ·
  have key:∀γ b,γ≠β->hp γ≠none->ρ γ=some b->b'=some b->False:=by
   intro γ b aT hs hr hb;obtain⟨_,_,h4|⟨h5,lu,h6,h7⟩⟩:=ny b hb
   ·cases hq:hp γ with
    |none=>exact hs hq
    |some hg=>have:=(h.own γ hg hq).cD;rw[hr]at this;omega
   ·exact aT (h.inj γ β b hs (by simp[h6]) hr h5)
  unfold Ql at h1 h2;by_cases ah:γ=β<;>by_cases nD:δ=β
  ·rw[ah,nD]
  ·subst ah;rw[gh]at h3;rw[oR nD]at h4;rw[if_neg nD]at h2;exact(key δ b nD h2 h4 h3).elim
  ·subst nD;rw[gh]at h4;rw[oR ah]at h3;rw[if_neg ah]at h1;exact(key γ b ah h1 h3 h4).elim
  ·rw[oR ah]at h3;rw[oR nD]at h4;rw[if_neg ah]at h1;rw[if_neg nD]at h2;exact h.inj γ δ b h1 h2 h3 h4
 ·obtain⟨hk,jx,pd⟩:=qk i _ (h.cH i);refine hk.pw ik (fun γ ah=>?_) (fun γ ah=>?_)
  ·have aT:=jx γ ah;refine⟨oR aT,fun hg fW=>⟨hg,by simp[Ql,aT,fW],rfl,Kad _,fun b cap bl dw=>kT (hx.block b (kV dw) ?_) dw⟩⟩;intro⟨e1,lu,e2,_⟩;exact aT (h.inj γ β b (by simp[fW]) (by simp[e2]) bl e1)
  ·have aT:=pd γ ah;have oy:∀b hg,hp γ=some hg->ρ γ=some b->¬(ρ β=some b/\∃hb,hp β=some hb/\hb.fz=false):=fun b hg fW bl ⟨e1,lu,e2,_⟩=>aT (h.inj γ β b (by simp[fW]) (by simp[e2]) bl e1);refine⟨oR aT,fun hg fW=>⟨hg,by simp[Ql,aT,fW],rfl,Kad _,fun b cap bl dw=>kT (hx.block b (kV dw) (oy b hg fW bl)) dw,fun he=>⟨he,rfl,fun b bl=>hx.block b ?_ (oy b hg fW bl)⟩⟩⟩;have:=(h.own γ hg fW).cD;rw[bl]at this;exact this.2.1
theorem Qr.rebind{w':World}(h:Qr C ρ fr hp tmps w)(β:Nat)(b':Option Nat)(ax:HB)(hB:bB β=false)
  (hx:Ext (fun b=>ρ β=some b/\∃hb,hp β=some hb/\hb.fz=false) w w')
  (ny:∀c,b'=some c->(C.w0.heap.size<=c∨C.Z0 c)/\c<w'.heap.size/\(w.heap.size<=c∨(ρ β=some c/\∃hb,hp β=some hb/\hb.fz=false)))
  (he:0<ax.e) (hl:∀(i:Nat)(x:PV),ax.xs[i]? =some x->x.cells.length=ax.e/\x.aD=true)
  (sW:b'=none->ax.xs=[]) (aU:∀c,b'=some c->∃(cur:Array Value) (cap:Nat),w'.heap[c]? =some (.cells cur ax.ty (0,0))/\cur.size=cap*ax.e/\ax.xs.length<=cap/\cap<=maxLen/\
   ∀(i:Nat)(x:PV),ax.xs[i]? =some x->∀(j:Nat)(y:PV),x.cells[j]? =some y->Qp w (aE C ρ hp) y (cur.getD (i*ax.e+j) undef)):
  Qr C (rb ρ β b') (bE β fr) (Ql hp β ax) tmps w':=h.yS β b' ax (xB hB) (C6 hB) hx ny he hl sW aU
theorem Qr.store{w':World}(h:Qr C ρ fr hp tmps w)(β b:Nat)(hb ax:HB)(aj:hp β=some hb)(mi:hb.fz=false)(aT:hb.xs≠[])(bl:ρ β=some b)
  (hx:Ext (fun c=>c=b) w w') (e1:ax.e=hb.e) (e3:ax.xs.length=hb.xs.length) (e4:ax.fz=false)
  (hl:∀(i:Nat)(x:PV),ax.xs[i]? =some x->x.cells.length=ax.e/\x.aD=true)
  (dw:∀e cap,cV w b e cap->cV w' b e cap)
  (aU:∃(cur:Array Value) (cap:Nat),w'.heap[b]? =some (.cells cur ax.ty (0,0))/\cur.size=cap*ax.e/\ax.xs.length<=cap/\cap<=maxLen/\
   ∀(i:Nat)(x:PV),ax.xs[i]? =some x->∀(j:Nat)(y:PV),x.cells[j]? =some y->Qp w (aE C ρ hp) y (cur.getD (i*ax.e+j) undef)):Qr C ρ fr (Ql hp β ax) tmps w':=by
 have Jj:∀c,aE C ρ (Ql hp β ax) c↔aE C ρ hp c:=by
  intro c;constructor
  ·rintro(hx|⟨γ,hg,h1,h2,h3⟩)
   ·exact .inl hx
   ·unfold Ql at h1;by_cases ah:γ=β
    ·subst ah;exact .inr ⟨γ,hb,aj,mi,h3⟩
    ·rw[if_neg ah]at h1;exact .inr ⟨γ,hg,h1,h2,h3⟩
  ·rintro(hx|⟨γ,hg,h1,h2,h3⟩)
   ·exact .inl hx
   ·by_cases ah:γ=β
    ·subst ah;exact .inr ⟨γ,ax,by simp[Ql],e4,h3⟩
    ·exact .inr ⟨γ,hg,by simp[Ql,ah,h1],h2,h3⟩
 have hXf:aE C ρ (Ql hp β ax)=aE C ρ hp:=funext fun c=>propext (Jj c);have Jo:aE C ρ hp b:=.inr ⟨β,hb,aj,mi,bl⟩;have Fx:eF β=false:=by
  cases hq:eF β with
  |false=>rfl
  |true=>have:=(h.own β hb aj).ro hq;rw[mi]at this;cases this
 have ik:lX w w' (aE C ρ hp) (aE C ρ (Ql hp β ax)):=by rw[hXf];exact⟨fun c hc hn=>hx.block c hc (fun e=>hn (e▸Jo)),fun _ _ hn=>hn,hx.size⟩
 have hc:=ik.rc;have bj:=(h.own β hb aj).cD;rw[bl]at bj;have jv:Ext C.Y0 C.w0 w':=by refine h.ext.trans' (Y':=fun c=>c=b) hx ?_;intro c hc he;subst he;exact(Ctx.EK bj.1 Fx).resolve_left (by omega)
 have Bm:∀β c,C.fx β=some c->∀e cap,cV C.w0 c e cap->cV w' c e cap:=fun b0 c ik e cap fU=>by
  have h1:=h.eG b0 c ik e cap fU;by_cases jb:c=b
  ·subst jb;exact dw e cap h1
  ·exact kT (hx.block c (kV h1) jb) h1
 refine⟨h.sz,jv,Bm,fun γ hg ah=>?_,fun γ δ c h1 h2 h3 h4=>?_,fun i=>?_⟩
 ·unfold Ql at ah;by_cases rP:γ=β
  ·subst rP;rw[if_pos rfl]at ah;cases ah;refine⟨by rw[e1];exact(h.own γ hb aj).jV,hl,?_,(h.own γ hb aj).fix,fun hq=>by rw[Fx]at hq;cases hq⟩;rw[bl];obtain⟨cur,cap,c1,c2,c3,c4,c5⟩:=aU;exact⟨bj.1,Kbi bj.2.1 hx.size,cur,cap,c1,c2,c3,c4,fun i x hi j y hy=>hc _ _ (c5 i x hi j y hy)⟩
  ·rw[if_neg rP]at ah;obtain⟨p1,p2,p3,p4,p5⟩:=h.own γ hg ah;refine⟨p1,p2,?_,p4,p5⟩;cases hr:ρ γ with
   |none=>rw[hr]at p3;exact p3
   |some c=>rw[hr]at p3;exact⟨p3.1,Kbi p3.2.1 hx.size,p3.2.2.move (hx.block c p3.2.1 (fun e=>rP (h.inj γ β b (by simp[ah]) (by simp[aj]) (e▸hr) bl))) rfl rfl rfl hc⟩
 ·have f1:∀γ,Ql hp β ax γ≠none->hp γ≠none:=fun γ hn=>by
   unfold Ql at hn;by_cases ah:γ=β
   ·subst ah;simp[aj]
   ·rwa[if_neg ah]at hn
  exact h.inj γ δ c (f1 γ h1) (f1 δ h2) h3 h4
 ·have key:∀γ,oH ρ ρ hp (Ql hp β ax) w w' γ:=fun γ=>⟨rfl,fun hg fW=>by
   by_cases ah:γ=β
   ·subst ah;rw[aj]at fW;cases fW;exact⟨ax,by simp[Ql],e1,by rw[e3];exact Kad _,fun c cap hr fU=>by rw[bl]at hr;cases hr;exact dw _ cap fU,fun he=>absurd he aT⟩
   ·have oy:∀c,ρ γ=some c->¬c=b:=fun c hr e=>ah (h.inj γ β b (by simp[fW]) (by simp[aj]) (e▸hr) bl);refine⟨hg,by simp[Ql,ah,fW],rfl,Kad _,fun c cap hr fU=>kT (hx.block c (kV fU) (oy c hr)) fU,fun he=>⟨he,rfl,fun c hr=>hx.block c ?_ (oy c hr)⟩⟩;have:=(h.own γ hg fW).cD;rw[hr]at this;exact this.2.1⟩
  exact(h.cH i).pw ik (fun γ _=>(key γ).o) (fun γ _=>key γ)
end Go.FW
namespace Go.FW
open Go
variable {C : Ctx} {ρ : Nat -> Option Nat} {fr : Fr} {hp : HP} {w : World} {a : Act} {K : Qh}
theorem N7{X:Nat->Prop}{v:Value}{p:PV}(h:zM v=some p):Qp w X p v:=by unfold zM at h;split at h<;>simp at h<;>subst h<;>constructor
theorem lJ{α β:Type}{f:α->Option β}:∀ {l:List α} {r:List β},l.mapM f=some r->r.length=l.length/\∀(i:Nat)(y:β),r[i]? =some y->∃x,l[i]? =some x/\f x=some y
 | [],r,h=>by simp at h;subst h;simp
 |x::l,r,h=>by
  rw[Kcb]at h;simp only[KbQ,Kcf,Kab,Kaz]at h;obtain⟨y,hy,r',hr,rfl⟩:=h;obtain⟨h1,h2⟩:=lJ hr;refine⟨by simp[h1],fun i z hz=>?_⟩;cases i with
  |zero=>simp at hz;subst hz;exact⟨x,by simp,hy⟩
  |succ i=>simp at hz;simpa using h2 i z hz
theorem CE(cs:Array Value)(i:Nat)(x:Value)(h:cs.toList[i]? =some x):cs.getD i undef=x:=by simp only[Array.getElem?_toList]at h;simp[KaN,h]
theorem rV{X:Nat->Prop}{v:Value}{p:PV}(h:sm v=some p):Q6 w X p v:=by
 unfold sm at h;split at h
 ·rename_i cs;simp only[Kaa]at h;obtain⟨l,h1,rfl⟩:=h;obtain⟨g1,g2⟩:=lJ h1;refine⟨cs,rfl,by simpa using g1.symm,fun i x hx=>?_⟩;obtain⟨u,hu,hc⟩:=g2 i x hx;rw[CE cs i u hu];exact N7 hc
 ·exact Q6.qB (N7 h)
theorem CA{v:Value}{p:PV}(h:sm v=some p):p.aD=true/\p.refs=[]/\(∀f first cap,p≠ .fn f first cap):=by
 unfold sm at h;split at h
 ·simp only[Kaa]at h;obtain⟨l,h1,rfl⟩:=h;simp[PV.aD,PV.refs]
 ·unfold zM at h;split at h<;>simp at h<;>subst h<;>simp[PV.aD,PV.refs]
theorem Qm.TR{p:PV}{v:Value}(h:Q6 w (aE C ρ hp) p v)(hn:∀f first cap,p≠ .fn f first cap):Qm C ρ hp w p v:=by
 cases p with
 |fn f first cap=>exact absurd rfl (hn _ _ _)
 |undef=>trivial
 |mp=>cases h
 |au=>cases h
 |rb=>cases h
 |aH=>cases h
 |np=>cases h
 |aK=>cases h
 |dV=>cases h
 |cO=>cases h
 |aF=>cases h
 |aG=>cases h
 |agg cs=>exact h
 |_=>exact h
theorem Qm.lG{p:PV}{v:Value}(h:Q6 w (aE C ρ hp) p v):Qm C ρ hp w p v:=by
 by_cases hf:∃f first cap,p= .fn f first cap
 ·obtain⟨f,first,cap,rfl⟩:=hf;cases h with
  |fn _ _ _ fv cv h1 h2 h3 h4=>
   refine⟨fv,cv,rfl,h1,h2,fun i x hi=>?_,fun i x hi=>?_⟩
   ·have:=h3 i x hi;cases x<;>first|exact this|cases this
   ·have:=h4 i x hi;cases x<;>first|exact this|cases this
 ·exact Qm.TR h (fun f first cap e=>hf ⟨f,first,cap,e⟩)
theorem cn{x:Operand}{y:aI}(h:Qr C ρ fr hp a.tmps w)(ho:bJ x=some y):Qm C ρ hp w (ev fr y) (a.eval x):=by
 cases x with
 |tmp t=>simp[bJ]at ho;subst ho;exact h.cH t
 |const v=>simp only[bJ,Kaa]at ho;obtain⟨p,hp',rfl⟩:=ho;exact Qm.TR (rV hp') (CA hp').2.2
 |global g=>simp[bJ]at ho
 |func f=>simp[bJ]at ho;subst ho;exact⟨#[],#[],rfl,rfl,rfl,by simp,by simp⟩
theorem Qm.j0{k:IntKind}{n:Int}{v:Value}(h:Qm C ρ hp w (.int k n) v):v= .int k n:=by cases h;rfl
theorem Qm.yh{b:Bool}{v:Value}(h:Qm C ρ hp w (.bool b) v):v= .bool b:=by cases h;rfl
theorem Qm.wN{v:Value}(h:Qm C ρ hp w .aa v):v= .slice none 0 0:=by cases h;rfl
theorem Qm.mkInt(k:IntKind)(n:Int):Qm C ρ hp w (.int k n) (.int k n):=Qp.int k n
theorem Qm.uT(b:Bool):Qm C ρ hp w (.bool b) (.bool b):=Qp.bool b
theorem Qm.Uh:Qm C ρ hp w (.aG []) undef:=⟨#[],rfl,rfl,by simp⟩
def Qv(C:Ctx)(ρ:Nat->Option Nat)(o:Oper)(a:Act)(w:World)(K:Qh):Prop:=
 ∃v,(∀w',(execOp a.eval o).run C.P w'= .ok (.value v) w')/\∃aA hp',Qr C ρ aA hp' (a.put o.dst v).tmps w/\K aA hp'
theorem Qv.mk{o:Oper}{d:Nat}{p:PV}{v:Value}(hd:o.dst=some d)(aq:d<C.N)(h:Qr C ρ fr hp a.tmps w)
  (bS:∀w',(execOp a.eval o).run C.P w'= .ok (.value v) w') (hr:Qm C ρ hp w p v) (hK:K (ae fr d p) hp):Qv C ρ o a w K:=
 ⟨v,bS,ae fr d p,hp,by rw[hd];exact h.ae hr aq,hK⟩
theorem Q9{P:Program}{t:TypeId}{d:TypeDesc}(h:P.underlying t=some d)(w:World):(underlying t).run P w= .ok d w:=run_underlying h w
theorem kU{P:Program}{t:TypeId}{n:Nat}(h:dR P t=some n)(w:World):(sizeOf t).run P w= .ok n w:=by simp only[dR,Kaa]at h;obtain⟨i,hi,rfl⟩:=h;simp[sizeOf,typeInfo,hi]
theorem zA{P:Program}{t:TypeId}{ag:Bool}(h:lV P t=some ag)(w:World):(isAgg t).run P w= .ok ag w:=by simp only[lV,Kaa]at h;obtain⟨d,hd,rfl⟩:=h;simp only[isAgg,Kao,Q9 hd,Kak];cases d<;>rfl
theorem NP{P:Program}{T:TypeId}(hu:P.underlying T=some .bool)(n m:Bool)(w:World):(Op.equal T (.bool n) (.bool m)).run P w= .ok (n==m) w:=by show(Op.equalIn (9999+1) T (.bool n) (.bool m)).run P w=_;unfold Op.equalIn;rw[Kao,Q9 hu,Kak];rfl
theorem UC{P:Program}{T:TypeId}(hu:P.underlying T=some .bool)(n m:Bool)(w:World):(binOp .eql T (.bool n) (.bool m)).run P w= .ok (.bool (n==m)) w:=by show(do pure (Value.bool (<-Op.equal T (.bool n) (.bool m))):Sem Value).run P w=_;rw[Kao,NP hu,Kak];rfl
theorem UD{P:Program}{T:TypeId}(hu:P.underlying T=some .bool)(n m:Bool)(w:World):(binOp .neq T (.bool n) (.bool m)).run P w= .ok (.bool (!(n==m))) w:=by show(do pure (Value.bool (!(<-Op.equal T (.bool n) (.bool m)))):Sem Value).run P w=_;rw[Kao,NP hu,Kak];rfl
theorem pC{o:Oper}{op:BinOp}{T T2:TypeId}{x y:Operand}(ho:o.op= .binOp op T x y T2){vx vy v:Value}(ex:a.eval x=vx)(ey:a.eval y=vy)
  (hg:∀w,(eqGuard op T x y vx vy).run C.P w= .ok () w) (hr:∀w,(binOp op T vx vy).run C.P w= .ok v w):∀w,(execOp a.eval o).run C.P w= .ok (.value v) w:=by
 intro w;unfold execOp;simp only[ho,ex,ey,Kao,hg,hr,Kak];rfl
theorem Xo{o:Oper}{op:BinOp}{T T2:TypeId}{x y:Operand}{px py:PV}{d:Nat}(ho:o.op= .binOp op T x y T2)(hd:o.dst=some d)(aq:d<C.N)(h:Qr C ρ fr hp a.tmps w)
    (hx:Qm C ρ hp w px (a.eval x)) (hy:Qm C ρ hp w py (a.eval y)) {bt:Bool} (jW:bt=true->C.P.underlying T=some .bool)
    (hv:bO op bt px py d fr hp K):Qv C ρ o a w K:=by
  unfold bO at hv;split at hv
  · rename_i k n k' m
    have ex:=hx.j0;have ey:=hy.j0;have il:∀w',(eqGuard op T x y (.int k n) (.int k' m)).run C.P w'= .ok () w':=by intro w';unfold eqGuard;cases op<;>rfl
    split at hv
    · obtain⟨h0,hv⟩:=hv
      have I4:¬m<0:=by omega
      exact Qv.mk hd aq h (pC ho ex ey il (fun w'=>by simp[binOp,Op.shift,I4])) (Qm.mkInt _ _) hv
    · obtain⟨h0,hv⟩:=hv
      have I4:¬m<0:=by omega
      exact Qv.mk hd aq h (pC ho ex ey il (fun w'=>by simp[binOp,Op.shift,I4])) (Qm.mkInt _ _) hv
    all_goals first
      |exact hv.elim
      | (obtain⟨rfl,h0,hv⟩:=hv
         exact Qv.mk hd aq h (pC ho ex ey il (fun w'=>by simp[binOp,Op.intDiv,h0])) (Qm.mkInt _ _) hv)
      | (obtain⟨rfl,hv⟩:=hv
         exact Qv.mk hd aq h (pC ho ex ey il (fun w'=>by simp[binOp,Op.intArith,Op.intBits])) (Qm.mkInt _ _) hv)
      | (obtain⟨rfl,hv⟩:=hv
         refine Qv.mk hd aq h (pC ho ex ey il ?_) (Qm.uT _) hv;intro w';simp[binOp,Op.intCmp]<;>rfl)
  · rename_i n m
    have ex:=hx.yh;have ey:=hy.yh;have il:∀w',(eqGuard op T x y (.bool n) (.bool m)).run C.P w'= .ok () w':=by intro w';unfold eqGuard;cases op<;>rfl
    split at hv
    · obtain⟨hb,hv⟩:=hv
      exact Qv.mk hd aq h (pC ho ex ey il (UC (jW hb) n m)) (Qm.uT _) hv
    · obtain⟨hb,hv⟩:=hv
      exact Qv.mk hd aq h (pC ho ex ey il (UD (jW hb) n m)) (Qm.uT _) hv
    · exact hv.elim
  · exact hv.elim
theorem Qm.Ub{e:Nat}{xs:List PV}{v:Value}(h:Qm C ρ hp w (.sl e xs) v):∃ad cap,v= .slice ad xs.length cap/\xs.length<=cap/\cap<=maxLen:=by
 cases h with
 |mE _ ad cap hc=>exact⟨ad,cap,rfl,KbR _,hc⟩
 |sl _ _ b off cap vs hX hb hl hc=>exact⟨_,cap,rfl,hl,hc⟩
theorem Qm.Kz{β o n:Nat}{v:Value}(h:Qm C ρ hp w (.au β o n) v):∃ad cap,v= .slice ad n cap:=by
 obtain⟨hb,_,_,⟨_,rfl,rfl,rfl⟩|⟨b,cap,_,rfl,_⟩⟩:=h
 ·exact⟨_,_,rfl⟩
 ·exact⟨_,_,rfl⟩
theorem Qm.apN{γ o n:Nat}{v:Value}(h:Qm C ρ hp w (.aH γ o n) v):∃ad cap,v= .slice ad n cap:=by obtain⟨_,hb,b,cap,_,_,rfl,_⟩:=h;exact⟨_,_,rfl⟩
theorem Qm.FZ{γ i o:Nat}{v:Value}(h:Qm C ρ hp w (.np γ i o) v):bB γ=true/\∃b hb,ρ γ=some b/\hp γ=some hb/\v= .pointer (some ⟨b,i*hb.e+o,none⟩):=h
theorem Qm.TQ{p:PV}{v:Value}(h:cz C ρ hp w p v):Qm C ρ hp w p v:=by
 cases p with
 |undef=>trivial
 |au β o n=>exact h.2
 |aH γ o n=>exact h
 |_=>exact Qm.lG (Q6.qB h)
theorem cz.toC{p:PV}{v:Value}(h:cz C ρ hp w p v)(hr:p.oA=false):Qp w (aE C ρ hp) p v:=by
 cases p with
 |undef=>cases hr
 |au=>cases hr
 |aH=>cases hr
 |_=>exact h
theorem cz.TP{p:PV}{v:Value}(h:Qp w (aE C ρ hp) p v):cz C ρ hp w p v:=by
 cases p with
 |au=>cases h
 |aH=>cases h
 |undef=>trivial
 |_=>exact h
theorem cz.rS{p:PV}{v:Value}(h:cz C ρ hp w p v)(hu:p≠ .undef):v.oneCell'=true/\v.cells= #[v]:=by
 cases p with
 |undef=>exact absurd rfl hu
 |au β o n=>obtain⟨_,hb,_,_,⟨_,rfl,_⟩|⟨b,cap,_,rfl,_⟩⟩:=h<;>exact⟨rfl,rfl⟩
 |aH γ o n=>obtain⟨_,hb,b,cap,_,_,rfl,_⟩:=h;exact⟨rfl,rfl⟩
 |_=>exact⟨(Qp.rS h).1,(Qp.rS h).2.1⟩
theorem UZ(cs:List PV):(nQ cs).aX=cs:=by unfold nQ;split<;>rfl
theorem Xp{cs:List PV}{vs:Array Value}(hs:vs.size=cs.length)(h:∀(i:Nat)(x:PV),cs[i]? =some x->cz C ρ hp w x (vs.getD i undef)):Qm C ρ hp w (nQ cs) (.agg vs):=by
 unfold nQ;split
 ·exact⟨vs,rfl,hs,h⟩
 ·rename_i hn;refine⟨vs,rfl,hs,fun i x hi=>(h i x hi).toC ?_⟩;have hm:=Kaj hi;cases hq:x.oA with
  |false=>rfl
  |true=>exact absurd (KaW.2 ⟨x,hm,hq⟩) hn
theorem Im{ag:Bool}{n off:Nat}{x:PV}{vs:Array Value}(hs:vs.size=n)(hle:off+n<=x.aX.length)(h1:ag=false->n=1)
  (hr:∀j y,j<n->x.aX[off+j]? =some y->cz C ρ hp w y (vs.getD j undef)):Qm C ρ hp w (rQ ag n off x) (if ag then .agg vs else vs.getD 0 undef):=by
 cases ag with
 | true=>
  refine Xp (by simp[hs];omega) (fun i y hy=>?_);have hi:i<n:=by have:=(Kaf.1 hy).1;simp at this;omega
  rw[KaH hi,Ka5]at hy;exact hr i y hi hy
 | false=>
  have hn:=h1 rfl;subst hn;have aq:off<x.aX.length:=by omega
  have e:x.aX[off+0]? =some (x.aX[off]):=by simp[Kag aq]
  have:=hr 0 _ (by omega) e;simp only[rQ,Kbj,if_false];have e2:(x.aX.drop off).headD .undef=x.aX[off]:=by rw[KbG,Kcp,Kag aq];rfl
  rw[e2];exact Qm.TQ this
theorem Cs{o:Oper}{b:Builtin}{args:Array Operand}{ts:Array TypeId}(ho:o.op= .call { callee:=.builtin b,args:=args,argTypes:=ts }){v:Value}
  (hr:∀w,(builtin b ts o.type (args.map fun| .const _=>true|_=>false) (args.map a.eval)).run C.P w= .ok (.value v) w):∀w,(execOp a.eval o).run C.P w= .ok (.value v) w:=by
 intro w;unfold execOp;simp only[ho,resolve,Kao,KaX,Kak,invoke];exact hr w
theorem Xq{o:Oper}{x:Operand}{t:TypeId}{px:PV}{d:Nat}(ho:o.op= .call { callee:=.builtin .len,args:= #[x],argTypes:= #[t] })(hd:o.dst=some d)(aq:d<C.N)(h:Qr C ρ fr hp a.tmps w)
  (hx:Qm C ρ hp w px (a.eval x)) {e:TypeId} (he:C.P.underlying t=some (.slice e)) (hv:oU px d fr hp K):Qv C ρ o a w K:=by
 have key:∀ad n cap,a.eval x= .slice ad n cap->K (ae fr d (.int .i64 n)) hp->Qv C ρ o a w K:=fun ad n cap ex hK=>
  Qv.mk hd aq h (Cs ho (fun w'=>by simp[builtin,Builtin.len_,ex,Kao,Q9 he,goInt])) (Qm.mkInt _ _) hK
 unfold oU at hv;split at hv
 ·exact key _ _ _ hx.wN hv
 ·obtain⟨ad,cap,ex,_⟩:=hx.Ub;exact key _ _ _ ex hv
 ·obtain⟨ad,cap,ex⟩:=hx.Kz;exact key _ _ _ ex hv
 ·obtain⟨ad,cap,ex⟩:=hx.apN;exact key _ _ _ ex hv
 ·exact hv.elim
theorem Qm.Ga{s:ByteArray}{v:Value}(h:Qm C ρ hp w (.str s) v):v= .string s:=by cases h;rfl
theorem K3{P:Program}{t:TypeId}(h:xN P t=true):P.underlying t=some .string:=by
 unfold xN at h;split at h
 ·assumption
 ·cases h
theorem Xr{o:Oper}{x:Operand}{t:TypeId}{px:PV}{d:Nat}(ho:o.op= .call { callee:=.builtin .len,args:= #[x],argTypes:= #[t] })(hd:o.dst=some d)(aq:d<C.N)(h:Qr C ρ fr hp a.tmps w)
  (hx:Qm C ρ hp w px (a.eval x)) (hs:xN C.P t=true) (hv:vD px d fr hp K):Qv C ρ o a w K:=by
 have hu:=K3 hs;unfold vD at hv;split at hv
 ·rename_i s;have ex:=hx.Ga;exact Qv.mk hd aq h (Cs ho (fun w'=>by simp[builtin,Builtin.len_,ex,Kao,Q9 hu,goInt])) (Qm.mkInt _ _) hv
 ·exact hv.elim
theorem U'{P:Program}{T:TypeId}(hu:P.underlying T=some .string)(n m:ByteArray)(w:World):(binOp .eql T (.string n) (.string m)).run P w= .ok (.bool (n==m)) w:=by simp[binOp,Op.stringOp,beq_toListBytes]
theorem Va{P:Program}{T:TypeId}(hu:P.underlying T=some .string)(n m:ByteArray)(w:World):(binOp .neq T (.string n) (.string m)).run P w= .ok (.bool (!(n==m))) w:=by simp[binOp,Op.stringOp,bne,beq_toListBytes]
theorem PY(x y:ByteArray):(x==y)=decide (x=y):=by
 by_cases h:x=y
 ·subst h;rw[decide_eq_true rfl];show(x.data==x.data)=true;simp
 ·rw[decide_eq_false h];have h':x.data≠y.data:=fun e=>h (by cases x;cases y;simp_all);show(x.data==y.data)=false;simpa using h'
theorem Xs{o:Oper}{op:BinOp}{ng:Bool}{T T2:TypeId}{x y:Operand}{px py:PV}{d:Nat}(ho:o.op= .binOp op T x y T2)(hop:Cg op=some ng)(hs:xN C.P T=true)(hd:o.dst=some d)(aq:d<C.N)(h:Qr C ρ fr hp a.tmps w)
  (hx:Qm C ρ hp w px (a.eval x)) (hy:Qm C ρ hp w py (a.eval y)) (hv:re ng px py d fr hp K):Qv C ρ o a w K:=by
 have hu:=K3 hs;unfold re at hv;split at hv
 ·rename_i n m;have ex:=hx.Ga;have ey:=hy.Ga;have il:∀w',(eqGuard op T x y (.string n) (.string m)).run C.P w'= .ok () w':=by intro w';unfold eqGuard;cases op<;>rfl
  cases op<;>first|(cases hop;done)|skip
  ·cases hop;exact Qv.mk hd aq h (pC ho ex ey il (U' hu n m)) (Qm.uT _) (by rw[PY];simpa using hv)
  ·cases hop;exact Qv.mk hd aq h (pC ho ex ey il (Va hu n m)) (Qm.uT _) (by rw[PY];simpa using hv)
 ·exact hv.elim
theorem aaQ{o:Oper}{x y:Operand}{ts:Array TypeId}{px py:PV}{d:Nat}(ho:o.op= .call { callee:=.builtin .max,args:= #[x,y],argTypes:=ts })(hd:o.dst=some d)(aq:d<C.N)(h:Qr C ρ fr hp a.tmps w)
  (hx:Qm C ρ hp w px (a.eval x)) (hy:Qm C ρ hp w py (a.eval y)) (hv:wL px py d fr hp K):Qv C ρ o a w K:=by
 unfold wL at hv;split at hv
 ·rename_i k n k' m;have ex:=hx.j0;have ey:=hy.j0;refine Qv.mk hd aq h (Cs ho (fun w'=>?_)) (Qm.mkInt _ _) hv;have e:(if m>n then m else n)=max n m:=by omega
  simp[builtin,Builtin.max_,ex,ey,Builtin.max2,e]
 ·exact hv.elim
theorem aaR{o:Oper}{x y:Operand}{ts:Array TypeId}{px py:PV}{d:Nat}(ho:o.op= .call { callee:=.builtin .min,args:= #[x,y],argTypes:=ts })(hd:o.dst=some d)(aq:d<C.N)(h:Qr C ρ fr hp a.tmps w)
  (hx:Qm C ρ hp w px (a.eval x)) (hy:Qm C ρ hp w py (a.eval y)) (hv:wJ px py d fr hp K):Qv C ρ o a w K:=by
 unfold wJ at hv;split at hv
 ·rename_i k n k' m;have ex:=hx.j0;have ey:=hy.j0;refine Qv.mk hd aq h (Cs ho (fun w'=>?_)) (Qm.mkInt _ _) hv;have e:(if m<n then m else n)=min n m:=by omega
  simp[builtin,Builtin.min_,ex,ey,Builtin.min2,e]
 ·exact hv.elim
theorem aaS{o:Oper}{op:UnOp}{T:TypeId}{x:Operand}{px:PV}{d:Nat}(ho:o.op= .unOp op T x)(hd:o.dst=some d)(aq:d<C.N)(h:Qr C ρ fr hp a.tmps w)
  (hx:Qm C ρ hp w px (a.eval x)) (hv:uZ op px d fr hp K):Qv C ρ o a w K:=by
 unfold uZ at hv;split at hv
 ·have ex:=hx.yh;refine Qv.mk hd aq h (fun w'=>?_) (Qm.uT _) hv;unfold execOp;simp only[ho,ex];rfl
 ·have ex:=hx.j0;refine Qv.mk hd aq h (fun w'=>?_) (Qm.mkInt _ _) hv;unfold execOp;simp only[ho,ex];rfl
 ·exact hv.elim
theorem VY{o:Oper}{S T:TypeId}{x:Operand}{px:PV}{d:Nat}{ds:TypeDesc}{k:IntKind}(ho:o.op= .convert S T x)(hd:o.dst=some d)(aq:d<C.N)(h:Qr C ρ fr hp a.tmps w)
  (hS:C.P.underlying S=some ds) (hT:C.P.underlying T=some (.int k)) (hx:Qm C ρ hp w px (a.eval x)) (hv:vu k px d fr hp K):Qv C ρ o a w K:=by
 unfold vu at hv;split at hv
 ·have ex:=hx.j0;refine Qv.mk hd aq h (fun w'=>?_) (Qm.mkInt _ _) hv;unfold execOp;simp only[ho,ex,Kao,convert,Q9 hS,Q9 hT,Kak];rfl
 ·exact hv.elim
theorem Xt{o:Oper}{i:Nat}{x:Operand}{px:PV}{d:Nat}(ho:o.op= .extract x i)(hd:o.dst=some d)(aq:d<C.N)(h:Qr C ρ fr hp a.tmps w)
  (hx:Qm C ρ hp w px (a.eval x)) (hv:lW px i d fr hp K):Qv C ρ o a w K:=by
 unfold lW at hv;split at hv
 ·rename_i ps;split at hv
  ·rename_i p ft;obtain⟨dx,hv⟩:=hv;obtain⟨vs,ex,h1,h2⟩:=hx;have hi:i<vs.size:=by rw[h1];exact(Kaf.1 ft).1
   have hr:=h2 i p ft;have hg:vs.getD i undef=vs[i]:=by simp[Array.getD,hi]
   rw[hg]at hr;refine Qv.mk hd aq h (fun w'=>?_) (Qm.lG hr) hv;unfold execOp;simp only[ho,ex,Kao,Instr.extract,Kbq hi];rfl
  ·exact hv.elim
 ·rename_i ps;split at hv
  ·rename_i p ft;obtain⟨vs,ex,h1,h2⟩:=hx;have hi:i<vs.size:=by rw[h1];exact(Kaf.1 ft).1
   have hr:=h2 i p ft;have hg:vs.getD i undef=vs[i]:=by simp[Array.getD,hi]
   rw[hg]at hr;refine Qv.mk hd aq h (fun w'=>?_) (Qm.TQ hr) hv;unfold execOp;simp only[ho,ex,Kao,Instr.extract,Kbq hi];rfl
  ·exact hv.elim
 ·rename_i cs q;obtain⟨vs,u,ex,h1,h2,h3⟩:=hx;split at hv
  ·refine Qv.mk (p:=.aK cs) (v:=.agg vs) hd aq h (fun w'=>?_) ⟨vs,rfl,h1,h2⟩ hv;unfold execOp;simp only[ho,ex,Kao,Instr.extract];rfl
  ·refine Qv.mk (v:=u) hd aq h (fun w'=>?_) (Qm.lG h3) hv;unfold execOp;simp only[ho,ex,Kao,Instr.extract];rfl
  ·exact hv.elim
 ·exact hv.elim
theorem K4{o:Oper}{x:Operand}{px:PV}{d:Nat}(ho:o.op= .move x∨o.op= .assign x)(hd:o.dst=some d)(aq:d<C.N)(h:Qr C ρ fr hp a.tmps w)
  (hx:Qm C ρ hp w px (a.eval x)) (hv:K (ae fr d px) hp):Qv C ρ o a w K:=by
 refine Qv.mk hd aq h (fun w'=>?_) hx hv;rcases ho with ho|ho<;>(unfold execOp;simp only[ho];rfl)
theorem VZ{o:Oper}{c x y:Operand}{pc px py:PV}{d:Nat}(ho:o.op= .pick c x y)(hd:o.dst=some d)(aq:d<C.N)(h:Qr C ρ fr hp a.tmps w)
  (hc:Qm C ρ hp w pc (a.eval c)) (hx:Qm C ρ hp w px (a.eval x)) (hy:Qm C ρ hp w py (a.eval y))
  (hv:sF pc px py d fr hp K):Qv C ρ o a w K:=by
 obtain⟨t,rfl,hv⟩:∃t,pc= .bool t/\((t=true->K (ae fr d px) hp)/\(t=false->K (ae fr d py) hp)):=by
  cases pc with
  |bool t=>exact⟨t,rfl,hv⟩
  |_=>exact hv.elim
 have ec:=hc.yh;cases t with
 |true=>refine Qv.mk hd aq h (fun w'=>?_) hx (hv.1 rfl);unfold execOp;simp only[ho,ec];rfl
 |false=>refine Qv.mk hd aq h (fun w'=>?_) hy (hv.2 rfl);unfold execOp;simp only[ho,ec];rfl
theorem Ct{P:Program}{T:TypeId}{k0:IntKind}(hu:P.underlying T=some (.int k0))(d:Nat)(k:IntKind)(n m:Int)(w:World):(Op.equalIn (d+1) T (.int k n) (.int k m)).run P w= .ok (n==m) w:=by unfold Op.equalIn;rw[Kao,Q9 hu,Kak];simp
theorem zB{P:Program}{t:TypeId}{cs:Array Value}{off:Nat}{v:Value}(ha:lV P t=some false)(hv:cs[off]? =some v)(w:World):(part t cs off).run P w= .ok v w:=by unfold part;rw[Kao,zA ha,Kak];simp[hv]
theorem Ur {P : Program} {T : TypeId} {f g : Field} (hu : P.underlying T = some (.struct #[f, g])) (h1 : f.name ≠ "_") (h2 : g.name ≠ "_") (o1 : f.offset = 0) (o2 : g.offset = 1) {k1 k2 : IntKind} (t1 : P.underlying f.type = some (.int k1)) (t2 : P.underlying g.type = some (.int k2))
  (hs:P.stoodInHeld T=false) (k l:IntKind) (x y x' y':Int) (w:World):(Op.equal T (.agg #[.int k x,.int l y]) (.agg #[.int k x',.int l y'])).run P w= .ok (x==x'&&y==y') w:=by
 have a1:lV P f.type=some false:=by simp[lV,t1]
 have a2:lV P g.type=some false:=by simp[lV,t2]
 show(Op.equalIn (9998+1+1) T _ _).run P w=_;rw[Op.equalIn];rw[Kao,Q9 hu,Kak];have hp:Sem.run P program w= .ok P w:=rfl;rw[Kao,hp,Kak,hs];simp only[Kbj,if_false];rw[<-Array.forIn_toList];simp only[List.forIn_cons,List.forIn_nil,Kao,o1,o2,h1,h2,ne_eq,not_false_eq_true,if_true,zB a1 (show(#[Value.int k x,Value.int l y])[0]? =some _ from rfl),zB a1 (show(#[Value.int k x',Value.int l y'])[0]? =some _ from rfl),
  zB a2 (show(#[Value.int k x,Value.int l y])[1]? =some _ from rfl),zB a2 (show(#[Value.int k x',Value.int l y'])[1]? =some _ from rfl),Ct t1,Ct t2,Kak]
 have q1:∀n m w,(Op.equalIn 9999 f.type (.int k n) (.int k m)).run P w= .ok (n==m) w:=fun n m w=>Ct t1 9998 k n m w;have q2:∀n m w,(Op.equalIn 9999 g.type (.int l n) (.int l m)).run P w= .ok (n==m) w:=fun n m w=>Ct t2 9998 l n m w;have p2:∀u v w,(part g.type #[u,v] 1).run P w= .ok v w:=fun u v w=>zB a2 (show(#[u,v])[1]? =some _ from rfl) w;by_cases e1:x=x'<;>by_cases e2:y=y'<;>simp[e1,e2,q1,q2,p2]
theorem aaT{P:Program}{T:TypeId}{b:Bool}{X Y:Array Value}(h:∀w,(Op.equal T (.agg X) (.agg Y)).run P w= .ok b w)(w:World):(binOp .eql T (.agg X) (.agg Y)).run P w= .ok (.bool b) w:=by show(do pure (Value.bool (<-Op.equal T (.agg X) (.agg Y))):Sem Value).run P w=_;rw[Kao,h,Kak];rfl
theorem aaU{P:Program}{T:TypeId}{b:Bool}{X Y:Array Value}(h:∀w,(Op.equal T (.agg X) (.agg Y)).run P w= .ok b w)(w:World):(binOp .neq T (.agg X) (.agg Y)).run P w= .ok (.bool !b) w:=by show(do pure (Value.bool (!(<-Op.equal T (.agg X) (.agg Y)))):Sem Value).run P w=_;rw[Kao,h,Kak];rfl
theorem OU {P : Program} {T:TypeId} {op:BinOp} {x y:Operand} {X Y:Array Value} (h:P.eqGuardType P.depth T=false) (w:World):(eqGuard op T x y (.agg X) (.agg Y)).run P w= .ok () w:=by
  have hp:Sem.run P program w= .ok P w:=rfl
  have hg : (do if !(<-program).eqGuardType (<-program).depth T then return
                if <- Op.eqGuardIn Op.maxDepth T (.agg X) (.agg Y) then unsupported (.noEntry "binop/eql: two nil values of an interface type with methods, in a part of a struct or an array") : Sem Unit).run P w = .ok () w := by
    rw[Kao,hp,Kak,Kao,hp,Kak,h];rfl
  cases op<;>first|rfl|exact hg
theorem afs {P : Program} {T : TypeId} (h : F9 P T = true) : ∃ f g k1 k2, P.underlying T = some (.struct #[f, g]) /\ f.name ≠ "_" /\ g.name ≠ "_" /\ f.offset = 0 /\ g.offset = 1 /\ P.underlying f.type = some (.int k1) /\ P.underlying g.type = some (.int k2) /\ P.stoodInHeld T = false /\ P.eqGuardType P.depth T = false := by
 unfold F9 at h;split at h
 ·rename_i fs hu;split at h
  ·rename_i f g oh;simp only[Kav,bne_iff_ne,ne_eq,beq_iff_eq,Bool.not_eq_true']at h;obtain⟨⟨⟨⟨⟨⟨⟨h1,h2⟩,h3⟩,h4⟩,h5⟩,h6⟩,h7⟩,h8⟩:=h;have:fs= #[f,g]:=by rw[<-Array.toArray_toList (xs:=fs),oh]
   subst this;cases u1:P.underlying f.type with
   |none=>rw[u1]at h5;cases h5
   | some t1=>cases u2:P.underlying g.type with
    |none=>rw[u2]at h6;cases h6
    |some t2=>
     rw[u1]at h5;rw[u2]at h6;cases t1<;>first|(cases h5;done)|skip
     cases t2<;>first|(cases h6;done)|skip
     exact⟨f,g,_,_,hu,h1,h2,h3,h4,u1,u2,h7,h8⟩
  ·cases h
 ·cases h
theorem KW{cs:List PV}{v:Value}{p q:PV}(jd:cs=[p,q])(h:Qm C ρ hp w (.agg cs) v):∃x y,v= .agg #[x,y]/\Qp w (aE C ρ hp) p x/\Qp w (aE C ρ hp) q y:=by
 subst jd;obtain⟨vs,rfl,h1,h2⟩:=h;have hs:vs.size=2:=h1;refine⟨vs.getD 0 undef,vs.getD 1 undef,?_,h2 0 p rfl,h2 1 q rfl⟩;congr 1;apply Array.ext
 ·simp[hs]
 ·intro i hi az;have:i=0∨i=1:=by simp at az;omega
  rcases this with rfl|rfl<;>simp[Array.getD,hs]
theorem Xu{o:Oper}{op:BinOp}{ng:Bool}{T T2:TypeId}{x y:Operand}{px py:PV}{d:Nat}(ho:o.op= .binOp op T x y T2)(hop:Cg op=some ng)(cL:F9 C.P T=true)(hd:o.dst=some d)(aq:d<C.N)(h:Qr C ρ fr hp a.tmps w)
  (hx:Qm C ρ hp w px (a.eval x)) (hy:Qm C ρ hp w py (a.eval y)) (hv:ra ng px py d fr hp K):Qv C ρ o a w K:=by
 obtain⟨f,g,k1,k2,hu,h1,h2,h3,h4,u1,u2,h7,h8⟩:=afs cL;unfold ra at hv;split at hv
 ·rename_i k n l m k' n' l' m';obtain⟨rfl,rfl,hv⟩:=hv;obtain⟨a1,b1,ex,r1,r2⟩:=KW rfl hx;obtain⟨a2,b2,ey,r3,r4⟩:=KW rfl hy;cases r1;cases r2;cases r3;cases r4;have heq:∀w,(Op.equal T (.agg #[.int k n,.int l m]) (.agg #[.int k n',.int l m'])).run C.P w= .ok (n==n'&&m==m') w:=fun w=>Ur hu h1 h2 h3 h4 u1 u2 h7 k l n m n' m' w;have e:(n==n'&&m==m')=(decide (n=n')&&decide (m=m')):=rfl;rw[e]at heq;cases op<;>first|(cases hop;done)|skip
  ·cases hop;exact Qv.mk hd aq h (pC ho ex ey (OU h8) (aaT heq)) (Qm.uT _) (by simpa using hv)
  ·cases hop;exact Qv.mk hd aq h (pC ho ex ey (OU h8) (aaU heq)) (Qm.uT _) (by simpa using hv)
 ·exact hv.elim
end Go.FW
namespace Go.FW
open Go
variable {C : Ctx} {ρ : Nat -> Option Nat} {fr : Fr} {hp : HP} {w : World} {a : Act} {K : Qh}
theorem Vb{l:List PV}{n:Nat}(h:n<l.length):l[n]? =some (l[n]'h):=Kag h
theorem GO{P:Program}{t e:TypeId}{n:Nat}{ad:Addr}{len cap:Nat}{k:IntKind}{i:Int}(hu:P.underlying t=some (.slice e))(hn:dR P e=some n)(h0:0<=i)(h1:i<len)(w:World):
  (Instr.indexAt t (.slice (some ad) len cap) (.int k i)).run P w= .ok (.pointer (some (ad.add (i.toNat*n)))) w:=by
 have h2:0<=i/\i<len:=⟨h0,h1⟩
 unfold Instr.indexAt;simp only[asIntOf,Kao,KaX,Kak,Q9 hu,if_pos h2,kU hn]
theorem NM{P:Program}{t e:TypeId}{n len:Nat}{ad:Addr}{k:IntKind}{i:Int}(hu:P.underlying t=some (.array len e))(hn:dR P e=some n)(h0:0<=i)(h1:i<len)(w:World):
  (Instr.indexAt t (.pointer (some ad)) (.int k i)).run P w= .ok (.pointer (some (ad.add (i.toNat*n)))) w:=by
 have h2:0<=i/\i<len:=⟨h0,h1⟩
 unfold Instr.indexAt;simp only[asIntOf,Kao,KaX,Kak,Q9 hu,Instr.sureAddr,if_pos h2,kU hn]
theorem Qm.yO{β i o:Nat}{v:Value}(h:Qm C ρ hp w (.mp β i o) v):∃b hb,ρ β=some b/\hp β=some hb/\v= .pointer (some ⟨b,i*hb.e+o,none⟩):=h
theorem Qm.Ky{β i o b:Nat}{hb:HB}(h1:ρ β=some b)(h2:hp β=some hb):Qm C ρ hp w (.mp β i o) (.pointer (some ⟨b,i*hb.e+o,none⟩)):=⟨b,hb,h1,h2,rfl⟩
theorem Xv{o:Oper}{t e:TypeId}{n:Nat}{x i:Operand}{px pi:PV}{d:Nat}(ho:o.op= .indexAddr t x i)(hd:o.dst=some d)(aq:d<C.N)(h:Qr C ρ fr hp a.tmps w)
  (hu:C.P.underlying t=some (.slice e)) (hn:dR C.P e=some n) (hx:Qm C ρ hp w px (a.eval x)) (hi:Qm C ρ hp w pi (a.eval i)) (hv:Q7 n px pi d fr hp K):Qv C ρ o a w K:=by
 unfold Q7 at hv;split at hv
 ·rename_i e' xs k m;obtain⟨rfl,h0,h1,hK⟩:=hv;have ei:=hi.j0;have hlen:m<xs.length:=by omega
  generalize ev:a.eval x=vx at hx;cases hx with
  |mE=>simp at h1
  |sl _ _ b off cap vs hX hb hl hc he oz hr=>
   have nB:=Vb h1;have cX:=he _ _ nB;refine Qv.mk hd aq h (v:=.pointer (some ⟨b,off+m.toNat*n,none⟩)) (fun w'=>?_) ?_ hK
   ·unfold execOp;simp only[ho,ei,ev,Kao,GO hu hn h0 hlen,Kak,KbM];rfl
   ·exact Qp.pt _ b _ (vs m.toNat) hX hb (fun j hj=>oz m.toNat h1 j (by omega)) (fun j y hy=>hr m.toNat _ nB j y hy)
 ·rename_i β o' m k n';obtain⟨h0,h1,h2,hK⟩:=hv;have ei:=hi.j0;obtain⟨hb,g1,g2,⟨g3,_,g5,_⟩|⟨b,cap,g3,g4,g5,g6⟩⟩:=hx
  ·omega
  ·rw[g1]at h2;simp only[Kb5,Kaz]at h2;subst h2;have hm:n'<m:=by omega
   refine Qv.mk hd aq h (fun w'=>?_) (Qm.Ky g3 g1) hK;unfold execOp;simp only[ho,ei,g4,Kao,GO hu hn h0 hm,Kak,KbM,KaO,KaG];rfl
 ·rename_i γ o' m k n';obtain⟨h0,h1,h2,hK⟩:=hv;have ei:=hi.j0;obtain⟨hB,hb,b,cap,g1,g3,g4,g5,g6,g7⟩:=hx;rw[g1]at h2;simp only[Kb5,Kaz]at h2;subst h2;have hm:n'<m:=by omega
  refine Qv.mk hd aq h (p:=.np γ (o'+n'.toNat) 0) (fun w'=>?_) (show cI C ρ hp w (.np γ (o'+n'.toNat) 0) _ from⟨hB,b,hb,g3,g1,rfl⟩) hK;unfold execOp;simp only[ho,ei,g4,Kao,GO hu hn h0 hm,Kak,KbM,KaO,KaG];rfl
 ·exact hv.elim
theorem Qp.TX{X:Nat->Prop}{cs:List PV}{b off k:Nat}(h:Qp w X (.pt cs) (.pointer (some ⟨b,off,none⟩))):Qp w X (.pt (cs.drop k)) (.pointer (some ⟨b,off+k,none⟩)):=by
 cases h with
 |pt _ _ _ vs hX hb hv hr=>
  refine Qp.pt _ b _ (fun j=>vs (k+j)) hX hb (fun j hj=>?_) (fun j y hy=>?_)
  ·have:=hv (k+j) (by simp at hj;omega);rwa[<-Nat.add_assoc]at this
  ·rw[Ka5]at hy;exact hr _ _ hy
theorem Qm.F5{cs:List PV}{v:Value}(h:Qm C ρ hp w (.pt cs) v):∃b off,v= .pointer (some ⟨b,off,none⟩)/\Qp w (aE C ρ hp) (.pt cs) (.pointer (some ⟨b,off,none⟩)):=by
 have h':Qp w (aE C ρ hp) (.pt cs) v:=h;cases h' with
 |pt _ b off vs hX hb hv hr=>exact⟨b,off,rfl,.pt _ b off vs hX hb hv hr⟩
theorem V'{o:Oper}{t e:TypeId}{n len:Nat}{x i:Operand}{px pi:PV}{d:Nat}(ho:o.op= .indexAddr t x i)(hd:o.dst=some d)(aq:d<C.N)(h:Qr C ρ fr hp a.tmps w)
  (hu:C.P.underlying t=some (.array len e)) (hn:dR C.P e=some n) (hx:Qm C ρ hp w px (a.eval x)) (hi:Qm C ρ hp w pi (a.eval i)) (hv:kX len n px pi d fr hp K):Qv C ρ o a w K:=by
 unfold kX at hv;split at hv
 ·rename_i β j o' k m;obtain⟨h0,h1,hK⟩:=hv;have ei:=hi.j0;obtain⟨b,hb,g1,g2,g3⟩:=hx.yO;refine Qv.mk hd aq h (fun w'=>?_) (Qm.Ky g1 g2) hK;unfold execOp;simp only[ho,ei,g3,Kao,NM hu hn h0 h1,Kak,KbM,Kb3];rfl
 ·rename_i cs k m;obtain⟨h0,h1,h2,hK⟩:=hv;have ei:=hi.j0;obtain⟨b,off,ex,hp'⟩:=hx.F5;refine Qv.mk hd aq h (p:=.pt (cs.drop (m.toNat*n))) (v:=.pointer (some ⟨b,off+m.toNat*n,none⟩)) (fun w'=>?_) hp'.TX hK;unfold execOp;simp only[ho,ei,ex,Kao,NM hu hn h0 h1,Kak,KbM];rfl
 ·exact hv.elim
theorem GS{P:Program}{t:TypeId}{fs:Array Field}{j:Nat}{f:Field}{n b off:Nat}(hu:P.underlying t=some (.struct fs))(hf:fs[j]? =some f)(hn:dR P f.type=some n)(h0:n≠0)(w:World):
  (Instr.fieldAt t (.pointer (some ⟨b,off,none⟩)) j).run P w= .ok (.pointer (some ⟨b,off+f.offset,none⟩)) w:=by
 unfold Instr.fieldAt;simp only[Kao,Q9 hu,Kak,hf,Instr.sureAddr,KaX,fieldPlace,kU hn,if_neg h0,KbM]
theorem Xw{o:Oper}{t:TypeId}{fs:Array Field}{j n:Nat}{f:Field}{x:Operand}{px:PV}{d:Nat}(ho:o.op= .fieldAddr t x j)(hd:o.dst=some d)(aq:d<C.N)(h:Qr C ρ fr hp a.tmps w)
  (hu:C.P.underlying t=some (.struct fs)) (hf:fs[j]? =some f) (hn:dR C.P f.type=some n) (iq:n≠0) (hx:Qm C ρ hp w px (a.eval x)) (hv:rf f.offset px d fr hp K):Qv C ρ o a w K:=by
 unfold rf at hv;split at hv
 ·rename_i β i o';obtain⟨b,hb,g1,g2,g3⟩:=hx.yO;refine Qv.mk hd aq h (fun w'=>?_) (Qm.Ky g1 g2) hv;unfold execOp;simp only[ho,g3,Kao,GS hu hf hn iq,Kak,Kb3];rfl
 ·rename_i γ i o';obtain⟨hB,b,hb,g1,g2,g3⟩:=hx.FZ;refine Qv.mk hd aq h (p:=.np γ i (o'+f.offset)) (fun w'=>?_) (show cI C ρ hp w (.np γ i (o'+f.offset)) _ from⟨hB,b,hb,g1,g2,rfl⟩) hv;unfold execOp;simp only[ho,g3,Kao,GS hu hf hn iq,Kak,Kb3];rfl
 ·rename_i cs;obtain⟨_,hK⟩:=hv;obtain⟨b,off,ex,hp'⟩:=hx.F5;refine Qv.mk hd aq h (p:=.pt (cs.drop f.offset)) (v:=.pointer (some ⟨b,off+f.offset,none⟩)) (fun w'=>?_) hp'.TX hK;unfold execOp;simp only[ho,ex,Kao,GS hu hf hn iq,Kak];rfl
 ·exact hv.elim
theorem wU(vs:Array Value)(off n j:Nat)(hj:j<n)(h:off+n<=vs.size):(vs.extract off (off+n)).getD j undef=vs.getD (off+j) undef:=by
 have h1:j<(vs.extract off (off+n)).size:=by simp;omega
 have h2:off+j<vs.size:=by omega
 simp only[KaN,Kbq h1,Kbq h2,Array.getElem_extract]
theorem z5{X:Nat->Prop}{ag:Bool}{n off:Nat}{x:PV}{vs:Array Value}(hs:vs.size=n)(hle:off+n<=x.cells.length)(h1:ag=false->n=1)
  (hr:∀j y,j<n->x.cells[off+j]? =some y->Qp w X y (vs.getD j undef)):Q6 w X (dQ ag n off x) (if ag then .agg vs else vs.getD 0 undef):=by
 cases ag with
 | true=>
  refine⟨vs,rfl,by simp[hs];omega,fun i y hy=>?_⟩;have hi:i<n:=by have:=(Kaf.1 hy).1;simp at this;omega
  rw[KaH hi,Ka5]at hy;exact hr i y hi hy
 | false=>
  have hn:=h1 rfl;subst hn;have aq:off<x.cells.length:=by omega
  have e:x.cells[off+0]? =some (x.cells[off]):=by simp[Kag aq]
  have:=hr 0 _ (by omega) e;simp only[dQ,Kbj,if_false];have e2:(x.cells.drop off).headD .undef=x.cells[off]:=by rw[KbG,Kcp,Kag aq];rfl
  rw[e2];exact Q6.qB this
theorem Wa{o:Oper}{t:TypeId}{fs:Array Field}{j n:Nat}{ag:Bool}{f:Field}{x:Operand}{px:PV}{d:Nat}(ho:o.op= .field t x j)(hd:o.dst=some d)(aq:d<C.N)(h:Qr C ρ fr hp a.tmps w)
  (hu:C.P.underlying t=some (.struct fs)) (hf:fs[j]? =some f) (hn:dR C.P f.type=some n) (ja:lV C.P f.type=some ag) (hx:Qm C ρ hp w px (a.eval x)) (hv:qV f.offset n ag px d fr hp K):Qv C ρ o a w K:=by
 unfold qV at hv;split at hv
 ·rename_i cs;obtain⟨h1,h2,hK⟩:=hv;obtain⟨vs,ex,g1,g2⟩:=hx;have hle:f.offset+n<=vs.size:=by omega
  have fw:=z5 (X:=aE C ρ hp) (w:=w) (ag:=ag) (off:=f.offset) (x:=.agg cs) (vs:=vs.extract f.offset (f.offset+n)) (by simp;omega) h1 h2
   (fun j y hj hy=>by rw[wU vs _ _ _ hj hle];exact g2 _ y hy)
  refine Qv.mk hd aq h (fun w'=>?_) (Qm.lG fw) hK;unfold execOp;simp only[ho,ex,Kao,Instr.field,Q9 hu,Kak,hf,asAgg,KaX,part,zA ja];cases ag with
  |true=>simp only[if_true,Kao,kU hn,Kak,KaX]
  |false=>
   have rE:=h2 rfl;subst rE;have lB:f.offset<vs.size:=by omega
   simp only[Kbj,if_false,Kbq lB,KaX,Kak];rw[wU vs _ _ 0 (by omega) hle];simp[Array.getD,lB]
 ·rename_i cs;obtain⟨h1,h2,hK⟩:=hv;obtain⟨vs,ex,g1,g2⟩:=hx;have hle:f.offset+n<=vs.size:=by omega
  have fw:=Im (C:=C) (ρ:=ρ) (hp:=hp) (w:=w) (ag:=ag) (off:=f.offset) (x:=.aK cs) (vs:=vs.extract f.offset (f.offset+n)) (by simp;omega) h1 h2
   (fun j y hj hy=>by rw[wU vs _ _ _ hj hle];exact g2 _ y hy)
  refine Qv.mk hd aq h (fun w'=>?_) fw hK;unfold execOp;simp only[ho,ex,Kao,Instr.field,Q9 hu,Kak,hf,asAgg,KaX,part,zA ja];cases ag with
  |true=>simp only[if_true,Kao,kU hn,Kak,KaX]
  |false=>
   have rE:=h2 rfl;subst rE;have lB:f.offset<vs.size:=by omega
   simp only[Kbj,if_false,Kbq lB,KaX,Kak];rw[wU vs _ _ 0 (by omega) hle];simp[Array.getD,lB]
 ·exact hv.elim
theorem Xx{o:Oper}{t:TypeId}{x i:Operand}{px pi:PV}{d:Nat}(ho:o.op= .index t x i)(hd:o.dst=some d)(aq:d<C.N)(h:Qr C ρ fr hp a.tmps w)
  (hu:C.P.underlying t=some .string) (hx:Qm C ρ hp w px (a.eval x)) (hi:Qm C ρ hp w pi (a.eval i)) (hv:tR px pi d fr hp K):Qv C ρ o a w K:=by
 unfold tR at hv;split at hv
 ·rename_i s k m;obtain⟨h0,h1,hK⟩:=hv;have ei:=hi.j0;have ex:=hx.Ga;have lB:m.toNat<s.size:=by omega
  have e0:s.get! m.toNat=s[m.toNat]'lB:=by simp[ByteArray.get!,getElem!_pos,lB];rfl
  have e1:(if 0<=m then s[m.toNat]? else none)=some (s.get! m.toNat):=by rw[if_pos h0,getElem?_pos s m.toNat lB,e0]
  refine Qv.mk hd aq h (fun w'=>?_) (Qm.mkInt _ _) hK;unfold execOp;simp only[ho,ex,ei,Kao,Instr.index,asIntOf,Q9 hu,Kak,KaX,e1]
 ·exact hv.elim
theorem Xy{o:Oper}{t e:TypeId}{len n:Nat}{ag:Bool}{x i:Operand}{px pi:PV}{d:Nat}(ho:o.op= .index t x i)(hd:o.dst=some d)(aq:d<C.N)(h:Qr C ρ fr hp a.tmps w)
  (hu:C.P.underlying t=some (.array len e)) (hn:dR C.P e=some n) (ja:lV C.P e=some ag) (hx:Qm C ρ hp w px (a.eval x)) (hi:Qm C ρ hp w pi (a.eval i)) (hv:xP len n ag px pi d fr hp K):Qv C ρ o a w K:=by
 unfold xP at hv;split at hv
 ·rename_i cs k m;obtain⟨h0,h00,h1,h2,hK⟩:=hv;have ei:=hi.j0;obtain⟨vs,ex,g1,g2⟩:=hx;have hle:m.toNat*n+n<=vs.size:=by omega
  have Bf:0<=m/\m<len:=⟨h0,h00⟩
  have fw:=z5 (X:=aE C ρ hp) (w:=w) (ag:=ag) (off:=m.toNat*n) (x:=.agg cs) (vs:=vs.extract (m.toNat*n) (m.toNat*n+n)) (by simp;omega) h1 h2
   (fun j y hj hy=>by rw[wU vs _ _ _ hj hle];exact g2 _ y hy)
  refine Qv.mk hd aq h (fun w'=>?_) (Qm.lG fw) hK;unfold execOp;simp only[ho,ex,ei,Kao,Instr.index,asIntOf,Q9 hu,Kak,KaX,if_pos Bf,kU hn,part,zA ja];cases ag with
  |true=>simp only[if_true,Kao,kU hn,Kak,KaX]
  |false=>
   have rE:=h2 rfl;subst rE;have lB:m.toNat*1<vs.size:=by omega
   simp only[Kbj,if_false,Kbq lB,KaX,Kak];rw[wU vs _ _ 0 (by omega) hle];have wb:m.toNat<vs.size:=by omega
   simp[Array.getD,wb]
 ·exact hv.elim
end Go.FW
namespace Go.FW
open Go
variable {C : Ctx} {ρ : Nat -> Option Nat} {fr : Fr} {hp : HP} {w : World} {a : Act} {K : Qh}
def Am(C:Ctx)(ρ:Nat->Option Nat)(o:Oper)(a:Act)(w:World)(K:Qh):Prop:=
 ∃v b,b<w.heap.size/\(∀w',w'.heap[b]? =w.heap[b]? ->(execOp a.eval o).run C.P w'= .ok (.value v) w')/\∃aA hp',Qr C ρ aA hp' (a.put o.dst v).tmps w/\K aA hp'
theorem ze{P:Program}{t:TypeId}{n b off:Nat}{ag:Bool}{vs:Array Value}(hn:dR P t=some n)(ja:lV P t=some ag)(h1:ag=false->n=1)(hs:vs.size=n)
  (w:World) (hc:∀j,j<n->w.cell? ⟨b,off+j,none⟩=some (vs.getD j undef)):
  (loadVar t ⟨b,off,none⟩).run P w= .ok (if ag then .agg vs else vs.getD 0 undef) w:=by
 unfold loadVar;simp only[Kao,zA ja,Kak];cases ag with
 | true=>
  have hl:=run_loadCells_list (P:=P) w ⟨b,off,none⟩ vs.toList (fun j v hj=>by
   have dj:j<vs.size:=by simpa using(Kaf.1 hj).1
   rw[KbM,hc j (by omega),CE vs j v hj])
  simp only[Kcg,hs]at hl;simp only[if_true,Kao,kU hn,Kak,hl,KaX]
 |false=>have rE:=h1 rfl;subst rE;have h0:=hc 0 (by omega);simp only[KaO]at h0;simp only[Kbj,if_false,run_load,h0]
theorem mR{i e o j n cap:Nat}(h1:i<cap)(h2:o+n<=e)(h3:j<n):i*e+o+j<cap*e:=by have:(i+1)*e<=cap*e:=Kal e h1;rw[KaG,Kck]at this;omega
theorem kR{w:World}{b o:Nat}{cur:Array Value}{ty:TypeId}(h:w.heap[b]? =some (.cells cur ty (0,0)))(ho:o<cur.size):w.cell? ⟨b,o,none⟩=some (cur.getD o undef):=by simp[World.cell?,h,ho,Array.getD]
theorem qG{n:Nat}{f:Nat->Value}{j:Nat}(hj:j<n):(Array.ofFn (n:=n) fun i=>f i.val).getD j undef=f j:=by simp[Array.getD,hj]
theorem aaV{o:Oper}{t:TypeId}{n:Nat}{ag:Bool}{x:Operand}{px:PV}{d:Nat}(ho:o.op= .load t x)(hd:o.dst=some d)(aq:d<C.N)(h:Qr C ρ fr hp a.tmps w)
  (hn:dR C.P t=some n) (ja:lV C.P t=some ag) (hx:Qm C ρ hp w px (a.eval x)) (hv:bn n ag px d fr hp K):Am C ρ o a w K:=by
 have fin:∀(b off:Nat)(vs:Array Value)(p:PV),a.eval x= .pointer (some ⟨b,off,none⟩)->(ag=false->n=1)->b<w.heap.size->vs.size=n->
   (∀j,j<n->w.cell? ⟨b,off+j,none⟩=some (vs.getD j undef))->Q6 w (aE C ρ hp) p (if ag then .agg vs else vs.getD 0 undef)->K (ae fr d p) hp->Am C ρ o a w K:=by
  intro b off vs p ex h1 hb hs hc hr hK;refine⟨_,b,hb,fun w' rO=>?_,ae fr d p,hp,by rw[hd];exact h.ae (Qm.lG hr) aq,hK⟩;have:=ze (P:=C.P) hn ja h1 hs w' (fun j hj=>by rw[va rO];exact hc j hj);unfold execOp;simp only[ho,ex,Kao,Instr.loadAt,Instr.sureAddr,KaX,Kak,this]
 unfold bn at hv;split at hv
 ·rename_i β i o';split at hv
  ·rename_i hb aj;obtain⟨h1,h2,h3,hK⟩:=hv;obtain⟨b,dN,g1,g2,g3⟩:=hx.yO;rw[aj]at g2;cases g2;have bj:=h.own β hb aj;have aU:=bj.cD;rw[g1]at aU;obtain⟨_,lB,cur,cap,c1,c2,c3,c4,c5⟩:=aU;have fe:=Kag h1;have cX:=(bj.len i _ fe).1;have dw:i<cap:=by omega
   have o9:∀j,j<n->i*hb.e+o'+j<cur.size:=fun j hj=>by rw[c2];exact mR dw h2 hj
   refine fin b (i*hb.e+o') (Array.ofFn (n:=n) fun j=>cur.getD (i*hb.e+o'+j.val) undef) _ g3 h3 lB (by simp) (fun j hj=>?_) ?_ hK
   ·rw[qG (f:=fun j=>cur.getD (i*hb.e+o'+j) undef) hj];exact kR c1 (o9 j hj)
   ·refine z5 (by simp) (by rw[cX];exact h2) h3 (fun j y hj hy=>?_);rw[qG (f:=fun j=>cur.getD (i*hb.e+o'+j) undef) hj,Kb3];exact c5 i _ fe (o'+j) y hy
  ·exact hv.elim
 ·rename_i cs;obtain⟨h1,h3,hK⟩:=hv;obtain⟨b,off,ex,hpt⟩:=hx.F5;cases hpt with
  | pt _ _ _ vs hX hb Fj hr=>
   refine fin b off (Array.ofFn (n:=n) fun j=>vs j.val) _ ex h3 hb (by simp) (fun j hj=>?_) ?_ hK
   ·rw[qG hj];exact Fj j (by omega)
   ·refine z5 (by simp) (by simpa[PV.cells]using h1) h3 (fun j y hj hy=>?_);rw[qG hj];exact hr j y (by simpa[PV.cells]using hy)
 ·rename_i β o' m;obtain⟨rfl,rfl,hK⟩:=hv;obtain⟨b,u,e1,e2,e3,e4,e5⟩:=hx;refine⟨_,b,e2,fun w' rO=>?_,ae fr d (.au β o' m),hp,by rw[hd];exact h.ae (p:=.au β o' m) (v:=u) e5 aq,hK⟩;have:=ze (P:=C.P) (t:=t) (b:=b) (off:=0) (vs:= #[u]) hn ja (fun _=>rfl) rfl w' (fun j hj=>by
   obtain rfl:j=0:=by omega
   rw[va rO];simpa using e4)
  unfold execOp;simp only[ho,e1,Kao,Instr.loadAt,Instr.sureAddr,KaX,Kak,this];rfl
 ·rename_i γ i o';split at hv
  ·rename_i ba e ty xs ah;obtain⟨rfl,h1,h2,h3,hK⟩:=hv;obtain⟨hB,b,hb,g1,g2,g3⟩:=hx.FZ;have bc:=h.cH ba;rw[ah]at bc;obtain⟨_,vX,b',ax,cur,cap,q1,q2,q3,q4,q5,q6,q7,q8,q9,wO,tp⟩:=bc;rw[g1]at q1;cases q1;rw[g2]at q2;cases q2;rw[q4]at g3;have lB:b<w.heap.size:=(Kbm.1 q6).1;have fe:=Kag h1;have cX:=wO i _ fe;have dw:i<cap:=by omega
   have o9:∀j,j<n->i*e+o'+j<cur.size:=fun j hj=>by rw[q7];exact mR dw h2 hj
   have kI:∀j,j<n->w.cell? ⟨b,i*e+o'+j,none⟩=some ((Array.ofFn (n:=n) fun j=>cur.getD (i*e+o'+j.val) undef).getD j undef):=fun j hj=>by rw[qG (f:=fun j=>cur.getD (i*e+o'+j) undef) hj];exact kR q6 (o9 j hj)
   have fw:=Im (C:=C) (ρ:=ρ) (hp:=hp) (w:=w) (ag:=ag) (n:=n) (off:=o') (x:=xs[i]) (vs:=Array.ofFn (n:=n) fun j=>cur.getD (i*e+o'+j.val) undef) (by simp) (by rw[cX];exact h2) h3 (fun j y hj hy=>by rw[qG (f:=fun j=>cur.getD (i*e+o'+j) undef) hj,Kb3];exact tp i _ fe (o'+j) y hy);refine⟨_,b,lB,fun w' rO=>?_,ae fr d _,hp,by rw[hd];exact h.ae fw aq,hK⟩;have:=ze (P:=C.P) (b:=b) (off:=i*e+o') (vs:=Array.ofFn (n:=n) fun j=>cur.getD (i*e+o'+j.val) undef) hn ja h3 (by simp) w' (fun j hj=>by rw[va rO];exact kI j hj);unfold execOp;simp only[ho,g3,Kao,Instr.loadAt,Instr.sureAddr,KaX,Kak,this]
  ·exact hv.elim
 ·exact hv.elim
theorem Oe{tmps:Array Value}(h:Qr C ρ fr hp tmps w){β b:Nat}{hb:HB}{l:List Nat}(_hB:aM β=false)(aj:hp β=some hb)(hl:β∈l)(bl:ρ β=some b):¬aE C ρ (Qx hp l) b:=by
 have aU:=(h.own β hb aj).cD;rw[bl]at aU;rintro(hx|⟨γ,hg,h1,h2,h3⟩)
 ·exact Ctx.EJ aU.1 (xA _hB) hx
 ·obtain⟨iL,g1,_,_,_,_,g6⟩:=zf h1;have:=h.inj γ β b (by simp[g1]) (by simp[aj]) h3 bl;subst this;exact g6 h2 hl
theorem C7{tmps:Array Value}(h:Qr C ρ fr hp tmps w){p:PV}{v:Value}{l:List Nat}(hr:cI C ρ hp w p v)(hl:∀β∈p.bw,β∈l)(hu:cq hp p≠ .undef):Qp w (aE C ρ (Qx hp l)) (cq hp p) v:=by
 cases p with
 | mp β i o=>
  obtain⟨b,hb,g1,g2,rfl⟩:=hr;have wD:=hl β (by simp[PV.bw]);have bj:=h.own β hb g2;have aU:=bj.cD;rw[g1]at aU;obtain⟨_,aq,cur,cap,c1,c2,c3,c4,c5⟩:=aU;have hB:aM β=false:=by
   cases hq:aM β with
   |false=>rfl
   |true=>simp[cq,hq]at hu
  simp only[cq,g2,hB]at hu⊢;cases hx:hb.xs[i]? with
  |none=>simp[hx]at hu
  | some x=>
   simp only[Kbj,if_false];have hi:i<hb.xs.length:=(Kaf.1 hx).1;have cX:=(bj.len i x hx).1;refine Qp.pt _ b _ (fun j=>cur.getD (i*hb.e+o+j) undef) (Oe h hB g2 wD g1) aq (fun j hj=>?_) (fun j y hy=>?_)
   ·have dj:o+(j+1)<=hb.e:=by simp[cX]at hj;omega
    exact kR c1 (by rw[c2];exact mR (by omega) dj (Kcv j))
   ·rw[Ka5]at hy;rw[Kb3];exact(c5 i x hx (o+j) y hy).freeze
 | au β o n=>
  obtain⟨hb,g1,g2,g3⟩:=hr;have hB:aM β=false:=by
   cases hq:aM β with
   |false=>rfl
   |true=>simp[cq,hq]at hu
  simp only[cq,g1,hB];rcases g3 with⟨g3,rfl,rfl,rfl⟩|⟨b,cap,g3,rfl,g5,g6⟩
  ·simp only[Kcc];exact .mE _ _ _ (KbR _)
  ·have wD:=hl β (by simp[PV.bw]);have bj:=h.own β hb g1;have aU:=bj.cD;rw[g3]at aU;obtain⟨_,aq,cur,et,c1,c2,c3,c4,c5⟩:=aU;obtain⟨cur',ty',d1,d2⟩:=g5;rw[c1]at d1;cases d1;have fU:o+cap=et:=by rw[c2]at d2;exact(KbA bj.jV d2).symm
   subst fU;have hlen:((hb.xs.drop o).take n).length=n:=by simp;omega
   have ew:∀(i:Nat)(x:PV),((hb.xs.drop o).take n)[i]? =some x->i<n/\hb.xs[o+i]? =some x:=fun i x hx=>by
    have hi:i<n:=by have:=(Kaf.1 hx).1;omega
    rw[KaH hi,Ka5]at hx;exact⟨hi,hx⟩
   have:=Qp.sl (w:=w) (X:=aE C ρ (Qx hp l)) hb.e ((hb.xs.drop o).take n) b (o*hb.e) cap (fun i j=>cur.getD ((o+i)*hb.e+j) undef) (Oe h hB g1 wD g3) aq (by omega) (by omega)
    (fun i x hx=>(bj.len _ x (ew i x hx).2).1)
    (fun i hi j hj=>by rw[hlen]at hi;have:=mR (i:=o+i) (e:=hb.e) (o:=0) (j:=j) (n:=hb.e) (cap:=o+cap) (by omega) (by omega) hj;rw[KaO]at this;rw[show o*hb.e+i*hb.e+j=(o+i)*hb.e+j by rw[KaG]];exact kR c1 (by rw[c2];exact this))
    (fun i x hx j y hy=>(c5 _ x (ew i x hx).2 j y hy).freeze)
   rwa[hlen]at this
 |undef=>simp[cq]at hu
 |rb=>simp[cq]at hu
 |aH=>simp[cq]at hu
 |np=>simp[cq]at hu
 |aK=>simp[cq]at hu
 |dV=>simp[cq]at hu
 |cO=>simp[cq]at hu
 |aF=>simp[cq]at hu
 |_=>exact Qp.freeze hr
theorem L'{p:PV}(h:p.gz=true):p≠ .undef:=by cases p<;>simp[PV.gz]at h⊢
theorem PZ{p:PV}(h:p.aD=true):p≠ .undef:=by cases p<;>simp[PV.aD]at h⊢
theorem qJ{tmps:Array Value}(h:Qr C ρ fr hp tmps w){p:PV}{v:Value}{l:List Nat}(hr:Qm C ρ hp w p v)(hl:∀β∈p.refs,β∈l)(hd:(Qu hp p).aD=true):Q6 w (aE C ρ (Qx hp l)) (Qu hp p) v:=by
 cases p with
 | fn f first cap=>
  obtain⟨fv,cv,rfl,h1,h2,h3,h4⟩:=hr;simp only[Qu,PV.aD,Kav,Kaq,KaF,forall_exists_index,and_imp,forall_apply_eq_imp_iff₂]at hd;refine Qp.fn f _ _ fv cv (by simp[h1]) (by simp[h2]) (fun i x hx=>?_) (fun i x hx=>?_)
  ·simp only[Kat,Kaa]at hx;obtain⟨y,hy,rfl⟩:=hx;exact C7 h (h3 i y hy) (fun β aj=>hl β (GN hy β aj)) (L' (hd.1 y (Kaj hy)))
  ·simp only[Kat,Kaa]at hx;obtain⟨y,hy,rfl⟩:=hx;exact C7 h (h4 i y hy) (fun β aj=>hl β (GR hy β aj)) (L' (hd.2 y (Kaj hy)))
 |mp β i o=>exact Q6.qB (C7 (p:=.mp β i o) h hr hl (PZ hd))
 |au β o n=>exact Q6.qB (C7 (p:=.au β o n) h hr hl (PZ hd))
 |undef=>simp[Qu,cq,PV.aD]at hd
 |rb=>simp[Qu,cq,PV.aD]at hd
 |aH=>simp[Qu,cq,PV.aD]at hd
 |np=>simp[Qu,cq,PV.aD]at hd
 |aK=>simp[Qu,cq,PV.aD]at hd
 |dV=>simp[Qu,cq,PV.aD]at hd
 |cO=>simp[Qu,cq,PV.aD]at hd
 |aF=>simp[Qu,cq,PV.aD]at hd
 |aG ps=>simp[Qu,cq,PV.aD]at hd
 |agg cs=>exact Q6.mono (p:=.agg cs) hr (fun _ _ _=>rfl) (fun _ _ hn hx=>hn (Hd hx)) (Kad _)
 |_=>exact Qp.freeze hr
end Go.FW
namespace Go.FW
open Go
variable {C : Ctx} {ρ : Nat -> Option Nat} {fr : Fr} {hp : HP} {w : World} {a : Act} {K : Qh}
theorem tB{x:Option Operand}{y:Option aI}{RK n:Int}(h:Qr C ρ fr hp a.tmps w)(ho:nX x=some y)(hb:gS RK (y.map (ev fr))=some n):
  (x=none/\y=none/\n=RK)∨∃z k,x=some z/\a.eval z= .int k n/\y.isSome=true:=by
 cases x with
 |none=>simp[nX]at ho;subst ho;simp[gS]at hb;exact .inl ⟨rfl,rfl,hb.symm⟩
 | some z=>
  simp only[nX,Kaa]at ho;obtain⟨u,hu,rfl⟩:=ho;have hr:=cn h hu;simp only[Kb5]at hb;cases hp':ev fr u with
  |int k m=>rw[hp']at hb hr;simp[gS]at hb;subst hb;exact .inr ⟨z,k,rfl,hr.j0,rfl⟩
  |_=>rw[hp']at hb;simp[gS]at hb
theorem u0{P:Program}{k:IntKind}{i:Int}{y:Nat}{code:BoundsCode}(h0:0<=i)(h1:i<=y)(w:World):(Instr.sliceBound (.int k i) y code).run P w= .ok i.toNat w:=by
 unfold Instr.sliceBound;have:0<=i/\i<=y:=⟨h0,h1⟩
 simp only[asIntOf,Kao,KaX,Kak,if_pos this]
theorem CS{P:Program}{len cap:Nat}{lo hi mx:Option Operand}{L H M:Int}(eval:Operand->Value)
  (hL:(lo=none/\L=0)∨∃z k,lo=some z/\eval z= .int k L)
  (hH:(hi=none/\H=len)∨∃z k,hi=some z/\eval z= .int k H)
  (hM:(mx=none/\M=len)∨∃z k,mx=some z/\eval z= .int k M) (hm:mx.isSome=true->hi.isSome=true)
  (h0:0<=L) (h1:L<=H) (h2:H<=M) (h3:M<=len) (h4:len<=cap):
  ∃m,L.toNat<=m/\H.toNat<=m/\m<=cap/\(mx=none->m=cap)/\∀w,(Instr.sliceBounds true len cap (lo.map eval) (hi.map eval) (mx.map eval)).run P w= .ok (L.toNat,H.toNat,m) w:=by
 have c1:H<=(cap:Int):=by omega
 rcases hM with⟨rfl,hM⟩|⟨zm,km,rfl,hM⟩
 ·refine⟨cap,by omega,by omega,Kad _,fun _=>rfl,fun w=>?_⟩;rcases hH with⟨rfl,hH⟩|⟨zh,kh,rfl,hH⟩<;>rcases hL with⟨rfl,hL⟩|⟨zl,kl,rfl,hL⟩
  ·subst hH;subst hL;simp[Instr.sliceBounds,Kao]
  ·subst hH;have e:=u0 (P:=P) (k:=kl) (code:=.sliceB) (y:=len) h0 h1;simp[Instr.sliceBounds,Kao,hL,e]
  ·subst hL;have e:=u0 (P:=P) (k:=kh) (code:=.sliceAcap) (y:=cap) (by omega) c1;simp[Instr.sliceBounds,Kao,hH,e]
  ·have e:=u0 (P:=P) (k:=kh) (code:=.sliceAcap) (y:=cap) (by omega) c1;have e2:=u0 (P:=P) (k:=kl) (code:=.sliceB) (y:=H.toNat) h0 (by omega);simp[Instr.sliceBounds,Kao,hH,hL,e,e2]
 ·rcases hH with⟨rfl,hH⟩|⟨zh,kh,rfl,hH⟩
  ·simp at hm
  have e:=u0 (P:=P) (k:=km) (code:=.slice3Acap) (y:=cap) (i:=M) (by omega) (by omega);have e1:=u0 (P:=P) (k:=kh) (code:=.slice3B) (y:=M.toNat) (i:=H) (by omega) (by omega);refine⟨M.toNat,by omega,by omega,by omega,fun h=>by simp at h,fun w=>?_⟩;rcases hL with⟨rfl,hL⟩|⟨zl,kl,rfl,hL⟩
  ·subst hL;simp[Instr.sliceBounds,Kao,hH,hM,e,e1]
  ·have e2:=u0 (P:=P) (k:=kl) (code:=.slice3C) (y:=H.toNat) (i:=L) h0 (by omega);simp[Instr.sliceBounds,Kao,hH,hM,hL,e,e1,e2]
theorem CC{P:Program}{t e:TypeId}{n len cap l h m:Nat}{ad:Option Addr}{lo hi mx:Option Value}(hu:P.underlying t=some (.slice e))(hn:dR P e=some n)(w:World)
  (hb:(Instr.sliceBounds true len cap lo hi mx).run P w= .ok (l,h,m) w):
  (Instr.sliceAt t (.slice ad len cap) lo hi mx).run P w= .ok (.slice (if m=l then ad else ad.map (·.add (l*n))) (h-l) (m-l)) w:=by
 unfold Instr.sliceAt Instr.slice;simp only[Kao,Q9 hu,Kak,hb,kU hn,KaX]
theorem NY{xs:List PV}{H L i:Nat}{x:PV}(hx:((xs.take H).drop L)[i]? =some x):xs[L+i]? =some x/\L+i<H:=by
 rw[Ka5]at hx;have hi:L+i<H:=by have:=(Kaf.1 hx).1;simp at this;omega
 rw[KaH hi]at hx;exact⟨hx,hi⟩
theorem Qp.part{X:Nat->Prop}{e:Nat}{xs:List PV}{ad:Option Addr}{cap L H m:Nat}(h:Qp w X (.sl e xs) (.slice ad xs.length cap))(h1:L<=H)(h2:H<=xs.length)(h3:H<=m)(h4:m<=cap):
  Qp w X (.sl e ((xs.take H).drop L)) (.slice (if m=L then ad else ad.map (·.add (L*e))) (H-L) (m-L)):=by
 by_cases he:H=L
 ·subst he;have:(xs.take H).drop H=[]:=List.drop_eq_nil_of_le (by simp;omega);rw[this,KbH];refine .mE _ _ _ ?_;cases h with
  |mE _ _ _ hc=>omega
  |sl _ _ b off _ vs hX hb hl hc=>omega
 ·have hlen:((xs.take H).drop L).length=H-L:=by simp;omega
  cases h with
  |mE=>simp at h2;omega
  | sl _ _ b off _ vs hX hb hl hc he' hv hr=>
   have hm:¬m=L:=by omega
   rw[if_neg hm];simp only[Kb5,KbM];have:=Qp.sl (w:=w) (X:=X) e ((xs.take H).drop L) b (off+L*e) (m-L) (fun i j=>vs (L+i) j) hX hb (by omega) (by omega)
    (fun i x hx=>he' _ x (NY hx).1)
    (fun i hi j hj=>by have:=hv (L+i) (by omega) j hj;rw[show off+L*e+i*e+j=off+(L+i)*e+j by rw[KaG];omega];exact this)
    (fun i x hx j y hy=>hr _ x (NY hx).1 j y hy)
   rwa[hlen]at this
theorem aaW{o:Oper}{t e:TypeId}{n:Nat}{x:Operand}{px:PV}{lo hi mx:Option Operand}{F4 BT BU:Option aI}{d:Nat}(ho:o.op= .slice t x lo hi mx)(hd:o.dst=some d)(aq:d<C.N)(h:Qr C ρ fr hp a.tmps w)
  (hu:C.P.underlying t=some (.slice e)) (hn:dR C.P e=some n) (hx:Qm C ρ hp w px (a.eval x)) (rD:nX lo=some F4) (uE:nX hi=some BT) (wh:nX mx=some BU)
  (hv:iw n px (F4.map (ev fr)) (BT.map (ev fr)) (BU.map (ev fr)) d fr hp K):Qv C ρ o a w K:=by
 have lF:∀ {x:Option Operand} {y:Option aI},nX x=some y->(x.isSome=true↔y.isSome=true):=by
  intro x y BG;cases x with
  |none=>simp[nX]at BG;subst BG;simp
  |some z=>simp only[nX,Kaa]at BG;obtain⟨u,_,rfl⟩:=BG;simp
 have common:∀(hp':HP)(xs:List PV)(len cap:Nat)(ad:Option Addr)(L H M:Int),Qr C ρ fr hp' a.tmps w->len=xs.length->a.eval x= .slice ad len cap->len<=cap->
   Qp w (aE C ρ hp') (.sl n xs) (.slice ad xs.length cap)->gS 0 (F4.map (ev fr))=some L->gS len (BT.map (ev fr))=some H->gS len (BU.map (ev fr))=some M->
   0<=L->L<=H->H<=M->M<=len->((BU.map (ev fr)).isSome=true->(BT.map (ev fr)).isSome=true)->K (ae fr d (.sl n ((xs.take H.toNat).drop L.toNat))) hp'->Qv C ρ o a w K:=by
  intro hp' xs len cap ad L H M hs hl ex dw hr bL bH bM h0 h1 h2 h3 hm hK;have e1:=tB h rD bL;have e2:=tB h uE bH;have e3:=tB h wh bM;obtain⟨m,q1,q2,q3,_,q4⟩:∃m,L.toNat<=m/\H.toNat<=m/\m<=cap/\(mx=none->m=cap)/\∀w',(Instr.sliceBounds true len cap (lo.map a.eval) (hi.map a.eval) (mx.map a.eval)).run C.P w'= .ok (L.toNat,H.toNat,m) w':=by
   refine CS (P:=C.P) a.eval ?_ ?_ ?_ (fun hq=>(lF uE).2 (by simpa using hm (by simpa using(lF wh).1 hq))) h0 h1 h2 h3 dw
   ·rcases e1 with⟨q1,_,q3⟩|⟨z,k,q1,q2,_⟩
    ·exact .inl ⟨q1,q3⟩
    ·exact .inr ⟨z,k,q1,q2⟩
   ·rcases e2 with⟨q1,_,q3⟩|⟨z,k,q1,q2,_⟩
    ·exact .inl ⟨q1,q3⟩
    ·exact .inr ⟨z,k,q1,q2⟩
   ·rcases e3 with⟨q1,_,q3⟩|⟨z,k,q1,q2,_⟩
    ·exact .inl ⟨q1,q3⟩
    ·exact .inr ⟨z,k,q1,q2⟩
  have hp:=hr.part (L:=L.toNat) (H:=H.toNat) (m:=m) (by omega) (by omega) q2 q3;refine⟨_,fun w'=>?_,ae fr d _,hp',by rw[hd];exact hs.ae (Qm.lG (Q6.qB hp)) aq,hK⟩;unfold execOp;simp only[ho,ex,Kao,CC hu hn w' (q4 w'),Kak];rfl
 unfold iw at hv;split at hv
 ·
  split at hv
  ·rename_i L H M bL bH bM;obtain⟨rfl,rfl,rfl,hm,hK⟩:=hv;have ex:=hx.wN;refine Qv.mk hd aq h (p:=.aa) (v:=.slice none 0 0) (fun w'=>?_) Qp.aa hK;have e1:=tB h rD bL;have e2:=tB h uE bH;have e3:=tB h wh bM;obtain⟨m,q1,q2,q3,_,q4⟩:∃m,(0:Int).toNat<=m/\(0:Int).toNat<=m/\m<=0/\(mx=none->m=0)/\∀w',(Instr.sliceBounds true 0 0 (lo.map a.eval) (hi.map a.eval) (mx.map a.eval)).run C.P w'= .ok ((0:Int).toNat,(0:Int).toNat,m) w':=by
    refine CS (P:=C.P) a.eval ?_ ?_ ?_ (fun hq=>(lF uE).2 (by simpa using hm (by simpa using(lF wh).1 hq))) (Int.le_refl _) (Int.le_refl _) (Int.le_refl _) (by simp) (Kad _)
    ·rcases e1 with⟨q1,_,q3⟩|⟨z,k,q1,q2,_⟩
     ·exact .inl ⟨q1,q3⟩
     ·exact .inr ⟨z,k,q1,q2⟩
    ·rcases e2 with⟨q1,_,q3⟩|⟨z,k,q1,q2,_⟩
     ·exact .inl ⟨q1,by simp⟩
     ·exact .inr ⟨z,k,q1,q2⟩
    ·rcases e3 with⟨q1,_,q3⟩|⟨z,k,q1,q2,_⟩
     ·exact .inl ⟨q1,by simp⟩
     ·exact .inr ⟨z,k,q1,q2⟩
   obtain rfl:m=0:=by omega
   unfold execOp;simp only[ho,ex,Kao,CC hu hn w' (q4 w'),Kak];rfl
  ·exact hv.elim
 ·rename_i e' xs;split at hv
  ·rename_i L H M bL bH bM;obtain⟨rfl,h0,h1,h2,h3,hm,hK⟩:=hv;obtain⟨ad,cap,ex,nr,eL⟩:=hx.Ub;have aP:Qp w (aE C ρ hp) (.sl e' xs) (a.eval x):=hx;rw[ex]at aP;exact common hp xs _ cap ad L H M h rfl ex nr aP bL bH bM h0 h1 h2 h3 hm hK
  ·exact hv.elim
 ·rename_i β o' m;cases BU with
  |some zm=>revert hv;split<;>simp_all
  |none=>
  split at hv
  ·rename_i L H bL bH bM;obtain⟨he,h0,h1,h2,h3,hK⟩:=hv;have m0:mx=none:=by cases mx<;>simp[nX]at wh⊢
   subst m0;have e1:=tB h rD bL;have e2:=tB h uE bH;obtain⟨hb,g1,g2,g3⟩:=hx;rw[g1]at he;simp only[Kb5,Kaz]at he;have hL:(lo=none/\L=0)∨∃z k,lo=some z/\a.eval z= .int k L:=by
    rcases e1 with⟨q1,_,q3⟩|⟨z,k,q1,q2,_⟩
    ·exact .inl ⟨q1,q3⟩
    ·exact .inr ⟨z,k,q1,q2⟩
   have hH:(hi=none/\H=(m:Int))∨∃z k,hi=some z/\a.eval z= .int k H:=by
    rcases e2 with⟨q1,_,q3⟩|⟨z,k,q1,q2,_⟩
    ·exact .inl ⟨q1,q3⟩
    ·exact .inr ⟨z,k,q1,q2⟩
   rcases g3 with⟨g3,ex,rfl,rfl⟩|⟨b,cap,g3,ex,g5,g6⟩
   ·obtain⟨m',q1,q2,q3,_,q4⟩:=CS (P:=C.P) (len:=0) (cap:=0) (mx:=none) (M:=0) a.eval hL hH (.inl ⟨rfl,rfl⟩) (by simp) h0 h1 h2 (by simp) (Kad _);have I':H.toNat=0:=by omega
    have vQ:L.toNat=0:=by omega
    have wc:m'=0:=by omega
    refine Qv.mk hd aq h (v:=.slice none 0 0) (fun w'=>?_) ?_ hK
    ·unfold execOp;simp only[ho,ex,Kao,CC hu hn w' (q4 w'),Kak];simp[I',wc,vQ]
    ·exact⟨hb,g1,by omega,.inl ⟨g3,rfl,by omega,by omega⟩⟩
   ·have dw:m<=cap:=by have aU:=(h.own β hb g1).cD;rw[g3]at aU;obtain⟨_,_,cur,et,c1,c2,c3,c4,c5⟩:=aU;obtain⟨cur',ty',d1,d2⟩:=g5;rw[c1]at d1;cases d1;rw[c2]at d2;have:=KbA (h.own β hb g1).jV d2;omega
    obtain⟨m',q1,q2,q3,q5,q4⟩:=CS (P:=C.P) (len:=m) (cap:=cap) (mx:=none) (M:=(m:Int)) a.eval hL hH (.inl ⟨rfl,rfl⟩) (by simp) h0 h1 h2 (Int.le_refl _) dw;obtain rfl:=q5 rfl;refine Qv.mk hd aq h (v:=.slice (some ⟨b,(o'+L.toNat)*hb.e,none⟩) (H.toNat-L.toNat) (m'-L.toNat)) (fun w'=>?_) ?_ hK
    ·unfold execOp;simp only[ho,ex,Kao,CC hu hn w' (q4 w'),Kak];congr 1;by_cases hz:L=0
     ·subst hz;simp[Addr.add_zero']
     ·rw[if_neg (by omega)];simp[KbM,he,KaG]
    ·exact⟨hb,g1,by omega,.inr ⟨b,m'-L.toNat,g3,rfl,by rw[show o'+L.toNat+(m'-L.toNat)=o'+m' by omega];exact g5,by omega⟩⟩
  ·exact hv.elim
 ·exact hv.elim
end Go.FW
namespace Go.FW
open Go
variable {C : Ctx} {ρ : Nat -> Option Nat} {fr : Fr} {hp : HP} {w : World} {a : Act} {K : Qh}
def pP(Q:PV->Value->Prop)(ps:List PV)(vs:Array Value):Prop:=vs.size=ps.length/\∀(i:Nat)(x:PV),ps[i]? =some x->Q x (vs.getD i undef)
abbrev Rows(w:World)(X:Nat->Prop)(ps:List PV)(vs:Array Value):Prop:=pP (Qp w X) ps vs
theorem KX(off:Nat):∀(l:List Value)(s:Nat)(cs:Array Value),
  ((l.zipIdx s).foldl (fun cs (p:Value×Nat)=>cs.setIfInBounds (off+p.2) p.1) cs).size=cs.size/\
  ∀k,k<cs.size->((l.zipIdx s).foldl (fun cs (p:Value×Nat)=>cs.setIfInBounds (off+p.2) p.1) cs).getD k undef=if off+s<=k/\k<off+s+l.length then l.getD (k-off-s) undef else cs.getD k undef
 | [],s,cs=>by refine⟨rfl,fun k hk=>?_⟩;simp only[List.zipIdx_nil,List.foldl_nil,Kbo,KaO];rw[if_neg (by omega)]
 | c::l,s,cs=>by
  obtain⟨h1,h2⟩:=KX off l (s+1) (cs.setIfInBounds (off+s) c);simp only[List.zipIdx_cons,List.foldl_cons];refine⟨by rw[h1];simp,fun k hk=>?_⟩;rw[h2 k (by simpa using hk)];by_cases hks:k=off+s
  ·subst hks;rw[if_neg (by omega),if_pos (by simp)];simp[Array.getD,hk]
  ·by_cases hr:off+(s+1)<=k/\k<off+(s+1)+l.length
   ·rw[if_pos hr,if_pos (by simp;omega)];have:k-off-s=(k-off-(s+1))+1:=by omega
    rw[this];simp
   ·rw[if_neg hr,if_neg (by simp;omega)];simp only[KaN];rw[Kco (by omega)]
theorem Us(cs:Array Value)(v:Array Value)(off:Nat):
  v.zipIdx.foldl (fun cs (x:Value×Nat)=>match x with|(c,j)=>cs.setIfInBounds (off+j) c) cs=(v.toList.zipIdx).foldl (fun cs (p:Value×Nat)=>cs.setIfInBounds (off+p.2) p.1) cs:=by
 rw[<-Array.foldl_toList,Array.toList_zipIdx]
theorem pP.am3{Q:PV->Value->Prop}{ps qs:List PV}{vs us:Array Value}{off:Nat}(h:pP Q ps vs)(hq:pP Q qs us)(hle:off+qs.length<=ps.length):
  pP Q (ps.take off++qs++ps.drop (off+qs.length)) (us.zipIdx.foldl (fun cs (x:Value×Nat)=>match x with|(c,j)=>cs.setIfInBounds (off+j) c) vs):=by
 obtain⟨h1,h2⟩:=h;obtain⟨q1,q2⟩:=hq;rw[Us];obtain⟨f1,f2⟩:=KX off us.toList 0 vs;refine⟨by rw[f1,h1];simp;omega,fun i x hx=>?_⟩;have hi:i<ps.length:=by have:=(Kaf.1 hx).1;simp at this;omega
 rw[f2 i (by omega)];simp only[KaO,Kcg,Kci];rw[Kbv,Ka3]at hx;by_cases c1:i<off
 ·rw[if_neg (by omega)];rw[if_pos (by simp;omega),KaH c1]at hx;exact h2 i x hx
 ·rw[if_neg (by simp;omega)]at hx;have ht:(ps.take off).length=off:=by simp;omega
  rw[ht,Ka3]at hx;by_cases c2:i-off<qs.length
  ·rw[if_pos c2]at hx;rw[if_pos (by omega)];have:=q2 _ _ hx
   rwa[show us.toList.getD (i-off) undef=us.getD (i-off) undef by simp[KaN]]
  ·rw[if_neg c2,Ka5]at hx;rw[if_neg (by omega)];rw[show off+qs.length+(i-off-qs.length)=i by omega]at hx;exact h2 i x hx
theorem CT{Q:PV->Value->Prop}(place:Nat->Option (Nat×Nat)):∀(parts:List (Nat×Value))(qs:List (Nat×List PV))(ps:List PV)(vs:Array Value),pP Q ps vs->parts.length=qs.length->
  (∀(i:Nat)(p:Nat×Value)(q:Nat×List PV),parts[i]? =some p->qs[i]? =some q->place p.1=some (q.1,q.2.length)/\pP Q q.2 p.2.cells/\q.1+q.2.length<=ps.length)->
  ∃dD,Instr.fill place vs parts=some dD/\pP Q (gE ps qs) dD
 | [],[],ps,vs,h,_,_=>⟨vs,rfl,h⟩
 | [],q::qs,_,_,_,hl,_=>by simp at hl
 |p::parts,[],_,_,_,hl,_=>by simp at hl
 | (i,v)::parts,(off,xs)::qs,ps,vs,h,hl,hp=>by
  obtain⟨h1,h2,h3⟩:=hp 0 (i,v) (off,xs) rfl rfl;have eE:v.cells.size=xs.length:=h2.1;have hn:¬((v.cells.size≠xs.length||decide (off+v.cells.size>vs.size))=true):=by have:=h.1;simp only[KbC,decide_eq_true_eq,not_or];exact⟨by simp[eE],by rw[eE,this];simp only at h3;omega⟩
  have hlen:(ps.take off++xs++ps.drop (off+xs.length)).length=ps.length:=by simp;simp only at h3;omega
  obtain⟨dD,g1,g2⟩:=CT place parts qs _ _ (h.am3 h2 h3) (by simpa using hl) (fun j p q Bu hqj=>by obtain⟨k1,k2,k3⟩:=hp (j+1) p q (by simpa using Bu) (by simpa using hqj);exact⟨k1,k2,by rw[hlen];exact k3⟩);refine⟨dD,?_,g2⟩;unfold Instr.fill;simp only[h1];rw[if_neg hn];exact g1
theorem Q6.rows{X:Nat->Prop}{p:PV}{v:Value}(h:Q6 w X p v):Rows w X p.cells v.cells:=h.cells
theorem sn{P:Program}{t:TypeId}{n by_:Nat}{z:PV}(h:jK P t=some (n,by_,z)):∃(i:TypeInfo)(zv:Value),P.info? t=some i/\i.zero=some zv/\i.size=n/\i.bytes=by_/\sm zv=some z:=by simp only[jK,Kab,Kaa,Prod.mk.injEq]at h;obtain⟨i,h1,zv,h2,p,h3,h4,h5,h6⟩:=h;subst h6;exact⟨i,zv,h1,h2,h4,h5,h3⟩
theorem u5{P:Program}{t:TypeId}{i:TypeInfo}{zv:Value}(h1:P.info? t=some i)(h2:i.zero=some zv)(w:World):(zeroValue t).run P w= .ok zv w:=by simp[zeroValue,typeInfo,h1,h2]
theorem P0{parts:List (Nat×Operand)}{ps:List (Nat×Nat×aI)}{f:Nat×Operand->Option (Nat×Nat×aI)}(h:parts.mapM f=some ps){eval:Operand->Value}{i:Nat}{p:Nat×Value}{q:Nat×Nat×aI}
  (h1:(parts.map fun x=>(x.1,eval x.2))[i]? =some p) (h2:ps[i]? =some q):∃x,parts[i]? =some x/\f x=some q/\p=(x.1,eval x.2):=by
 obtain⟨x,hx,hf⟩:=(lJ h).2 i q h2;refine⟨x,hx,hf,?_⟩;simp only[Kat,hx,Kb5,Kaz]at h1;exact h1.symm
theorem Xz{o:Oper}{t:TypeId}{parts:Array (Nat×Operand)}{z:PV}{n by_:Nat}{ps:List (Nat×Nat×aI)}{d:Nat}(ho:o.op= .build t parts)(hd:o.dst=some d)(aq:d<C.N)(h:Qr C ρ fr hp a.tmps w)
  (hz:jK C.P t=some (n,by_,z)) (fu:Al C.P t parts.toList=some ps)
  (hv:Aw z.cells (ps.map fun p=>(p.1,p.2.1,ev fr p.2.2)) d fr hp K):Qv C ρ o a w K:=by
 obtain⟨aO,hK⟩:=hv;obtain⟨ti,zv,i1,i2,i3,i4,i5⟩:=sn hz;have Kn:Rows w (aE C ρ (Qx hp ((ps.map fun p=>(p.1,p.2.1,ev fr p.2.2)).flatMap fun p=>p.2.2.refs))) z.cells zv.cells:=(rV i5).rows;have lv:(parts.map fun(x:Nat×Operand)=>(x.1,a.eval x.2)).toList=parts.toList.map fun x=>(x.1,a.eval x.2):=by simp
 have key:∀(f:Nat×Operand->Option (Nat×Nat×aI))(place:Nat->Option (Nat×Nat)),parts.toList.mapM f=some ps->(∀x q,f x=some q->place x.1=some (q.1,q.2.1)/\bJ x.2=some q.2.2)->
   ∃dD,Instr.fill place zv.cells (parts.map fun(x:Nat×Operand)=>(x.1,a.eval x.2)).toList=some dD/\
    Rows w (aE C ρ (Qx hp ((ps.map fun p=>(p.1,p.2.1,ev fr p.2.2)).flatMap fun p=>p.2.2.refs))) (gE z.cells ((ps.map fun p=>(p.1,p.2.1,ev fr p.2.2)).map fun p=>(p.1,(Qu hp p.2.2).cells))) dD:=by
  intro f place hm hf;rw[lv];refine CT place _ _ _ _ Kn (by simp[(lJ hm).1]) (fun i p q yD uK=>?_);simp only[List.map_map,Kat,Kaa]at uK;obtain⟨q0,kG,rfl⟩:=uK;obtain⟨x,hx,om,rfl⟩:=P0 hm yD kG;obtain⟨f1,f2⟩:=hf x q0 om;obtain⟨o1,o2,o3⟩:=aO (q0.1,q0.2.1,ev fr q0.2.2) (KaF.2 ⟨q0,Kaj kG,rfl⟩);simp only[Function.comp]at o1 o2 o3⊢;refine⟨by rw[o2];exact f1,?_,by rw[o2];exact o3⟩;exact(qJ h (cn h f2) (fun β aj=>Kap.2 ⟨_,KaF.2 ⟨q0,Kaj kG,rfl⟩,aj⟩) o1).rows
 have fin:∀dD,(∀w',(Instr.build t (parts.map fun(x:Nat×Operand)=>(x.1,a.eval x.2))).run C.P w'= .ok (.agg dD) w')->
   Rows w (aE C ρ (Qx hp ((ps.map fun p=>(p.1,p.2.1,ev fr p.2.2)).flatMap fun p=>p.2.2.refs))) (gE z.cells ((ps.map fun p=>(p.1,p.2.1,ev fr p.2.2)).map fun p=>(p.1,(Qu hp p.2.2).cells))) dD->Qv C ρ o a w K:=by
  intro dD bS hr;refine⟨.agg dD,fun w'=>?_,_,_,by rw[hd];exact(h.freeze _).ae (p:=.agg _) ⟨dD,rfl,hr.1,hr.2⟩ aq,hK⟩;unfold execOp;simp only[ho,Kao];have:=bS w';rw[show(parts.map fun(x:Nat×Operand)=>(x.1,a.eval x.2))=(parts.map fun x=>match x with|(i,x)=>(i,a.eval x))from rfl]at this;rw[this];rfl
 unfold Al at fu;split at fu
 ·rename_i fs hu;simp only[Kab]at fu;obtain⟨pl,df,hm⟩:=fu;obtain⟨dD,g1,g2⟩:=key _ (fun i=>pl[i]?) hm (fun x q hq=>by simp only[Kab,Kaa]at hq;obtain⟨r,hr,y,hy,rfl⟩:=hq;exact⟨by simpa using hr,hy⟩);refine fin dD (fun w'=>?_) g2;unfold Instr.build;have ft:=run_places (P:=C.P) w' fs.toList pl df;simp[Kao,u5 i1 i2,Q9 hu,Kbr,ft]at g1⊢;simp[g1]
 ·rename_i len e hu;simp only[Kab]at fu;obtain⟨m,wc,hm⟩:=fu;obtain⟨dD,g1,g2⟩:=key _ (fun i=>some (i*m,m)) hm (fun x q hq=>by simp only[Kaa]at hq;obtain⟨y,hy,rfl⟩:=hq;exact⟨rfl,hy⟩);refine fin dD (fun w'=>?_) g2;unfold Instr.build;simp only[Kao,u5 i1 i2,Q9 hu,kU wc,Kak,g1,KaX]
 ·simp at fu
theorem HO{xs:List Operand}{ys:List aI}(h:Qr C ρ fr hp a.tmps w)(hm:xs.mapM bJ=some ys):(ys.map (ev fr)).length=xs.length/\∀(i:Nat)(x:PV),(ys.map (ev fr))[i]? =some x->Qm C ρ hp w x ((xs.map a.eval).toArray.getD i undef):=by
 obtain⟨h1,h2⟩:=lJ hm;refine⟨by simp[h1],fun i x hx=>?_⟩;simp only[Kat,Kaa]at hx;obtain⟨y,hy,rfl⟩:=hx;obtain⟨z,hz,ho⟩:=h2 i y hy;have e:((xs.map a.eval).toArray.getD i undef)=a.eval z:=by simp[KaN,Kat,hz]
 rw[e];exact cn h ho
theorem Qm.Ue{p:PV}{v:Value}(h:Qm C ρ hp w p v)(hc:p.kL=true):cI C ρ hp w p v:=by cases p<;>first|exact h|simp[PV.kL]at hc
theorem aaX{o:Oper}{f:FuncId}{first cap:Array Operand}{pf pc:List aI}{d:Nat}(ho:o.op= .makeFunc (.func f) first cap)(hd:o.dst=some d)(aq:d<C.N)(h:Qr C ρ fr hp a.tmps w)
  (h1:first.toList.mapM bJ=some pf) (h2:cap.toList.mapM bJ=some pc)
  (hv:(pf.map (ev fr)++pc.map (ev fr)).all PV.kL=true/\K (ae fr d (.fn f (pf.map (ev fr)) (pc.map (ev fr)))) hp):Qv C ρ o a w K:=by
 obtain⟨hc,hK⟩:=hv;rw[Kaq]at hc;obtain⟨f1,f2⟩:=HO h h1;obtain⟨c1,c2⟩:=HO h h2;refine Qv.mk hd aq h (v:=.func (.func f) (first.map a.eval) (cap.map a.eval)) (fun w'=>?_) ?_ hK
 ·unfold execOp;simp only[ho,Kao,Instr.makeFunc,KaX,Kak]
 ·refine⟨_,_,rfl,by simpa using f1.symm,by simpa using c1.symm,fun i x hx=>?_,fun i x hx=>?_⟩
  ·have:=f2 i x hx;rw[show(first.toList.map a.eval).toArray=first.map a.eval from Array.ext' (by simp)]at this;exact this.Ue (hc x (Kca _ (Kaj hx)))
  ·have:=c2 i x hx;rw[show(cap.toList.map a.eval).toArray=cap.map a.eval from Array.ext' (by simp)]at this;exact this.Ue (hc x (Kbp _ (Kaj hx)))
theorem Wb{o:Oper}{x:Operand}{px:PV}(ho:o.op= .nilCheck x)(aq:∀d,o.dst=some d->d<C.N)(h:Qr C ρ fr hp a.tmps w)
  (hx:Qm C ρ hp w px (a.eval x)) (hv:Ax px o.dst fr hp K):Qv C ρ o a w K:=by
 have key:(∃b o',a.eval x= .pointer (some ⟨b,o',none⟩))∨(∃f fv cv,a.eval x= .func (.func f) fv cv)->(∀d,o.dst=some d->K (ae fr d px) hp)->(o.dst=none->K fr hp)->Qv C ρ o a w K:=by
  intro hsh k1 k2;have bS:∀w',(execOp a.eval o).run C.P w'= .ok (.value (a.eval x)) w':=by intro w';unfold execOp;rcases hsh with⟨b,o',e⟩|⟨f,fv,cv,e⟩<;>simp only[ho,e]<;>rfl
  cases hd:o.dst with
  |some d=>exact⟨_,bS,_,_,by rw[hd];exact h.ae hx (aq d hd),k1 d hd⟩
  |none=>exact⟨_,bS,fr,hp,by rw[hd];exact h,k2 hd⟩
 cases px with
 |mp β i o'=>obtain⟨b,hb,_,_,e⟩:=hx.yO;refine key (.inl ⟨_,_,e⟩) (fun d hd=>?_) (fun hd=>?_)<;>(rw[hd]at hv;exact hv)
 |pt cs=>obtain⟨b,off,e,_⟩:=hx.F5;refine key (.inl ⟨_,_,e⟩) (fun d hd=>?_) (fun hd=>?_)<;>(rw[hd]at hv;exact hv)
 |fn f first cap=>obtain⟨fv,cv,e,_⟩:=hx;refine key (.inr ⟨_,_,_,e⟩) (fun d hd=>?_) (fun hd=>?_)<;>(rw[hd]at hv;exact hv)
 |_=>exact hv.elim
end Go.FW
namespace Go.FW
open Go
variable {C : Ctx} {ρ : Nat -> Option Nat} {fr : Fr} {hp : HP} {w : World} {a : Act} {K : Qh}
def cy(C:Ctx)(two:Bool)(w:World)(K:Qh)(a':Act)(w':World):Prop:=
 a'.defers=[]/\(∃aA hp',dB C aA hp' a'.tmps w'/\K aA hp')/\(two=true->Ext cg w w')
theorem iA{P:Program}{o:Oper}{v:Value}{w w':World}{a:Act}{K':Act->World->Prop}{Q:Exit->Act->World->Prop}(hr:(execOp a.eval o).run P w= .ok (.value v) w')(hK:K' (a.put o.dst v) w'):o.wp P a w K' Q:=by unfold Oper.wp;rw[hr];exact hK
theorem vb{a:Act}{d:Option Nat}{v:Value}:(a.put d v).defers=a.defers:=by cases d<;>rfl
theorem CI(w:World)(o:Obj)(k:Nat)(h:k<w.heap.size):(w.alloc o).heap[k]? =w.heap[k]? :=by show(w.heap.push o)[k]? =_;rw[Array.getElem?_push,if_neg (by omega)]
theorem mK(w:World)(o:Obj):(w.alloc o).heap[w.heap.size]? =some o:=by show(w.heap.push o)[w.heap.size]? =_;simp
theorem CJ(w:World)(o:Obj):(w.alloc o).heap.size=w.heap.size+1:=by show(w.heap.push o).size=_;simp
theorem Ext.alloc(w:World)(o:Obj)(Y:Nat->Prop):Ext Y w (w.alloc o):=⟨rfl,rfl,rfl,by rw[CJ];omega,fun b hb _=>CI w o b hb⟩
theorem Ext.drew(w:World)(Y:Nat->Prop):Ext Y w w.drew:=⟨rfl,rfl,rfl,Kad _,fun _ _ _=>rfl⟩
theorem xT{d:Nat}(h:d<C.N):bB d=false:=by have:=C.hN;simp[bB];omega
theorem Qr.wM{tmps:Array Value}{aA:Fr}(h:Qr C ρ fr hp tmps w)(d:Nat)(hB:aM d=false)(qk:xS C ρ hp w d fr aA)(ax:HB)(cur:Array Value)(cap:Nat)(w':World)(hw:w'=w.alloc (.cells cur ax.ty)∨w'=w.drew.alloc (.cells cur ax.ty))
  (hs:cur.size=cap*ax.e) (hle:ax.xs.length<=cap) (hm:cap<=maxLen) (he:0<ax.e) (hl:∀(i:Nat)(x:PV),ax.xs[i]? =some x->x.cells.length=ax.e/\x.aD=true)
  (hc:∀(i:Nat)(x:PV),ax.xs[i]? =some x->∀(j:Nat)(y:PV),x.cells[j]? =some y->Qp w (aE C ρ hp) y (cur.getD (i*ax.e+j) undef)):
  Qr C (rb ρ d (some w.heap.size)) aA (Ql hp d ax) tmps w'/\Ext cg w w':=by
 have jv:∀Y,Ext Y w w':=fun Y=>by
  rcases hw with rfl|rfl
  ·exact Ext.alloc w _ Y
  ·exact(Ext.drew w Y).trans (Ext.alloc w.drew _ Y)
 have eE:w'.heap.size=w.heap.size+1:=by rcases hw with rfl|rfl<;>rw[CJ]<;>rfl
 have aoX:w'.heap[w.heap.size]? =some (.cells cur ax.ty (0,0)):=by
  rcases hw with rfl|rfl
  ·exact mK w _
  ·exact mK w.drew _
 refine⟨h.yS d (some w.heap.size) ax hB qk (jv _) (fun c ik=>?_) he hl (by simp) (fun c ik=>?_),jv _⟩
 ·cases ik;exact⟨.inl h.ext.size,by omega,.inl (Kad _)⟩
 ·cases ik;exact⟨cur,cap,aoX,hs,hle,hm,hc⟩
theorem Qr.FY{tmps:Array Value}(h:Qr C ρ fr hp tmps w)(d:Nat)(hB:bB d=false)(ax:HB)(cur:Array Value)(cap:Nat)(w':World)(hw:w'=w.alloc (.cells cur ax.ty)∨w'=w.drew.alloc (.cells cur ax.ty))
  (hs:cur.size=cap*ax.e) (hle:ax.xs.length<=cap) (hm:cap<=maxLen) (he:0<ax.e) (hl:∀(i:Nat)(x:PV),ax.xs[i]? =some x->x.cells.length=ax.e/\x.aD=true)
  (hc:∀(i:Nat)(x:PV),ax.xs[i]? =some x->∀(j:Nat)(y:PV),x.cells[j]? =some y->Qp w (aE C ρ hp) y (cur.getD (i*ax.e+j) undef)):
  Qr C (rb ρ d (some w.heap.size)) (bE d fr) (Ql hp d ax) tmps w'/\Ext cg w w':=
 h.wM d (xB hB) (C6 hB) ax cur cap w' hw hs hle hm he hl hc
theorem lK:maxLen=9223372036854775807:=rfl
theorem cy.kQ{two:Bool}{o:Oper}{d:Nat}{v:Value}{p:PV}{w':World}{aA:Fr}{hp':HP}{ρ':Nat->Option Nat}(hd:o.dst=some d)(aq:d<C.N)(aS:a.defers=[])
  (h:Qr C ρ' aA hp' a.tmps w') (hx:two=true->Ext cg w w') (hv:Qm C ρ' hp' w' p v) (hK:K (ae aA d p) hp'):cy C two w K (a.put o.dst v) w':=by
 refine⟨by rw[vb];exact aS,⟨_,hp',⟨ρ',?_⟩,hK⟩,hx⟩;rw[hd];exact h.ae hv aq
theorem Q6.TZ{X:Nat->Prop}{p:PV}{v:Value}{n:Nat}(h:Q6 w X p v)(hn:p.cells.length=n):v.cells.size=1*n/\∀(i:Nat)(x:PV),[p][i]? =some x->∀(j:Nat)(y:PV),x.cells[j]? =some y->Qp w X y (v.cells.getD (i*n+j) undef):=by
 obtain⟨h1,h2⟩:=h.cells;refine⟨by omega,fun i x hx j y hy=>?_⟩
 match i,hx with
 |0,hx=>simp at hx;subst hx;simpa using h2 j y hy
 |i+1,hx=>simp at hx
theorem NI{d n ty:Nat}{x:PV}{w':World}:Qm C (rb ρ d (some w.heap.size)) (Ql hp d ⟨n,ty,[x],false⟩) w' (.mp d 0 0) (.pointer (some ⟨w.heap.size,0,none⟩)):=by refine⟨w.heap.size,⟨n,ty,[x],false⟩,gh _ _ _,by simp[Ql],by simp⟩
theorem XA{o:Oper}{t:TypeId}{n:Nat}{x:Operand}{px:PV}{d:Nat}{Q:Exit->Act->World->Prop}(ho:o.op= .box t x)(hd:o.dst=some d)(aq:d<C.N)(aS:a.defers=[])(h:Qr C ρ fr hp a.tmps w)
  (hx:Qm C ρ hp w px (a.eval x)) (hN:∀cs,px= .aK cs->tS n t cs d fr hp K->o.wp C.P a w (cy C true w K) Q) (hv:eQ n t px d fr hp K):o.wp C.P a w (cy C true w K) Q:=by
 unfold eQ at hv;split at hv
 ·exact hN _ rfl hv
 split at hv
 ·rename_i β o' m hm;have wo:px= .au β o' m:=by
   cases px with
   |au β2 o2 m2=>
    simp only at hm;split at hm
    ·cases hm;rfl
    ·cases hm
   |_=>cases hm
  subst wo;have hs:=h.grow (w':=w.alloc (.cells (a.eval x).cells t)) (Ext.alloc w _ _);have aP:eh ρ hp (w.alloc (.cells (a.eval x).cells t)) β o' m (a.eval x):=eh.move hx ⟨rfl,fun hb aj=>⟨hb,aj,rfl,Kad _,fun b cap _ hc=>kT (CI w _ b (kV hc)) hc⟩⟩;have nr:(a.eval x).cells= #[a.eval x]:=by obtain⟨ad,cap,e⟩:=Qm.Kz hx;rw[e];rfl
  refine iA (v:=.pointer (some ⟨w.heap.size,0,none⟩)) (w':=w.alloc (.cells (a.eval x).cells t)) ?_ (cy.kQ (p:=.rb β o' m) hd aq aS hs (fun _=>Ext.alloc w _ _) ⟨w.heap.size,a.eval x,rfl,by rw[CJ];omega,?_,?_,aP⟩ hv)
  ·unfold execOp;simp only[ho,Instr.box,newVar,newRow];simp
  ·rintro(hq|⟨γ,hg,g1,_,g3⟩)
   ·have:=C.AZ _ hq;have:=h.ext.size;omega
   ·have:=(h.own γ hg g1).cD;rw[g3]at this;have:=this.2.1;omega
  ·have:=mK w (.cells (a.eval x).cells t);rw[kR this (by rw[nr];simp),nr];rfl
 obtain⟨h1,h2,h3,hK⟩:=hv;have hr:=qJ h hx (fun β aj=>aj) h1;obtain⟨r1,r2⟩:=hr.TZ h2;obtain⟨hs,he⟩:=(h.freeze px.refs).FY d (xT aq) ⟨n,t,[Qu hp px],false⟩ (a.eval x).cells 1 _ (.inl rfl) r1 (by simp) (by rw[lK];omega) h3
  (fun i y hy=>by
   match i,hy with
   |0,hy=>simp at hy;subst hy;exact⟨h2,h1⟩
   |i+1,hy=>simp at hy) r2
 refine iA (v:=.pointer (some ⟨w.heap.size,0,none⟩)) (w':=w.alloc (.cells (a.eval x).cells t)) ?_ (cy.kQ hd aq aS hs (fun _=>he) NI hK);unfold execOp;simp only[ho,Instr.box,newVar,newRow];simp
theorem Vc{o:Oper}{t:TypeId}{n:Nat}{ti:TypeInfo}{zv:Value}{z:PV}{d:Nat}{Q:Exit->Act->World->Prop}(ho:o.op= .alloc t)(hd:o.dst=some d)(aq:d<C.N)(aS:a.defers=[])(h:Qr C ρ fr hp a.tmps w)
  (i1:C.P.info? t=some ti) (i2:ti.zero=some zv) (hz:sm zv=some z) (hv:eQ n t z d fr hp K):o.wp C.P a w (cy C true w K) Q:=by
 unfold eQ at hv;split at hv
 ·exact absurd (CA hz).1 (by simp[PV.aD])
 split at hv
 ·rename_i β o' m hm;have hd:=(CA hz).1;cases z with
  |au=>simp[PV.aD]at hd
  |_=>cases hm
 obtain⟨h1,h2,h3,hK⟩:=hv;have hr:=qJ (C:=C) (ρ:=ρ) (hp:=hp) h (Qm.lG (rV (w:=w) hz)) (fun β aj=>aj) h1;obtain⟨r1,r2⟩:=hr.TZ h2;obtain⟨hs,he⟩:=(h.freeze z.refs).FY d (xT aq) ⟨n,t,[Qu hp z],false⟩ zv.cells 1 _ (.inl rfl) r1 (by simp) (by rw[lK];omega) h3
  (fun i y hy=>by
   match i,hy with
   |0,hy=>simp at hy;subst hy;exact⟨h2,h1⟩
   |i+1,hy=>simp at hy) r2
 refine iA (v:=.pointer (some ⟨w.heap.size,0,none⟩)) (w':=w.alloc (.cells zv.cells t)) ?_ (cy.kQ hd aq aS hs (fun _=>he) NI hK);unfold execOp;simp only[ho,Instr.alloc,Kao,u5 i1 i2,Kak,newVar,newRow];simp
theorem KY{i e j:Nat}(hj:j<e):(i*e+j)%e=j:=by rw[KbY,Nat.add_mul_mod_self_right,KaJ hj]
theorem aaY{i e j:Nat}(hj:j<e):(i*e+j)/e=i:=by rw[KbY,Nat.add_mul_div_right _ _ (by omega),Kcw hj,Ka9]
theorem Qxf{z:Array Value}{n k:Nat}(hk:k<n)(hz:0<z.size):(madeCells z n).getD k undef=z.getD (k%z.size) undef:=by have h1:k%z.size<z.size:=Kbs _ hz;simp[madeCells,Array.getD,hk,h1]
theorem NJ{d:Nat}{hb:HB}{n cap:Nat}{w':World}{cur:Array Value}(hle:n<=hb.xs.length)(anR:w'.heap[w.heap.size]? =some (.cells cur hb.ty (0,0)))(hs:cur.size=cap*hb.e)(hm:cap<=maxLen):
  Qm C (rb ρ d (some w.heap.size)) (Ql hp d hb) w' (.ms d n) (.slice (some ⟨w.heap.size,0,none⟩) n cap):=
 ⟨hb,by simp[Ql],by omega,.inr ⟨w.heap.size,cap,gh _ _ _,by simp,⟨cur,hb.ty,anR,by rw[Ka9];exact hs⟩,by omega⟩⟩
theorem aaZ{o:Oper}{t e:TypeId}{n by_:Nat}{z:PV}{l c:Operand}{pl pc:PV}{d:Nat}{Q:Exit->Act->World->Prop}(ho:o.op= .makeSlice t l c)(hd:o.dst=some d)(aq:d<C.N)(aS:a.defers=[])(h:Qr C ρ fr hp a.tmps w)
  (hu:C.P.underlying t=some (.slice e)) (hz:jK C.P e=some (n,by_,z)) (hl:Qm C ρ hp w pl (a.eval l)) (hc:Qm C ρ hp w pc (a.eval c)) (hv:nH n by_ e z pl pc d fr hp K):o.wp C.P a w (cy C true w K) Q:=by
 unfold nH at hv;split at hv
 ·rename_i kl L kc Cc;obtain⟨h0,h1,h2,h3,h4,h5,hK⟩:=hv;obtain⟨ti,zv,i1,i2,i3,i4,i5⟩:=sn hz;have el:=hl.j0;have ec:=hc.j0;have rM:=(rV (w:=w) (X:=aE C ρ hp) i5).cells;have tk:zv.cells.size=n:=by rw[rM.1];exact h1
  have bS:=run_make (P:=C.P) w t e ti zv hu i1 i2 kl kc L Cc h2 h3 (by rw[i4];exact h4) h5;rw[i3]at bS;obtain⟨hs,he⟩:=h.FY d (xT aq) ⟨n,e,List.replicate L.toNat z,false⟩ (madeCells zv.cells (Cc.toNat*n)) Cc.toNat _ (.inl rfl) (size_madeCells _ _) (by simp;omega) (by rw[lK];omega) h0
   (fun i x hx=>by have aP:=Kaj hx;obtain rfl:=(List.mem_replicate.1 aP).2;exact⟨h1,(CA i5).1⟩)
   (fun i x hx j y hy=>by
    have hi:i<L.toNat:=by have:=(Kaf.1 hx).1;simpa using this
    obtain rfl:=(List.mem_replicate.1 (Kaj hx)).2;have hj:j<n:=by have:=(Kaf.1 hy).1;omega
    have wb:i*n+0+j<Cc.toNat*n:=mR (by omega) (by omega:0+n<=n) hj;rw[Qxf (by omega) (by omega),tk,KY hj];exact rM.2 j y hy)
  refine iA (v:=.slice (some ⟨w.heap.size,0,none⟩) L.toNat Cc.toNat) ?_ (cy.kQ hd aq aS hs (fun _=>he) (NJ (by simp) (mK w _) (size_madeCells _ _) (by rw[lK];omega)) hK);unfold execOp;simp only[ho,el,ec,Kao,bS,Kak];rfl
 ·exact hv.elim
end Go.FW
namespace Go.FW
open Go
variable {C : Ctx} {ρ : Nat -> Option Nat} {fr : Fr} {hp : HP} {w : World} {a : Act} {K : Qh}
theorem OV(n:Nat):∀(xs:List (List PV))(s:Nat)(pre rest:List PV),(∀x∈xs,x.length=n)->pre.length=s*n->rest.length=xs.length*n->
  gE (pre++rest) ((xs.zipIdx s).map fun p=>(p.2*n,p.1))=pre++xs.flatten
 | [],s,pre,rest,_,_,hr=>by simp at hr;subst hr;simp[gE]
 | x::xs,s,pre,rest,hx,hp,hr=>by
  have FM:=hx x (by simp);simp only[List.zipIdx_cons,Kbe,gE];have e1:(pre++rest).take (s*n)=pre:=by rw[<-hp];exact List.take_left
  have e2:(pre++rest).drop (s*n+x.length)=rest.drop n:=by rw[FM,<-hp,<-List.drop_drop,List.drop_left]
  rw[e1,e2];have hlen:(pre++x).length=(s+1)*n:=by simp[hp,FM,KaG]
  have wq:(rest.drop n).length=xs.length*n:=by simp[hr,KaG]
  rw[OV n xs (s+1) (pre++x) (rest.drop n) (fun y hy=>hx y (by simp[hy])) hlen wq];simp
theorem KZ{n:Nat}(hn:0<n):∀(xs:List (List PV))(i j:Nat)(x:List PV)(y:PV),(∀x∈xs,x.length=n)->xs[i]? =some x->x[j]? =some y->xs.flatten[i*n+j]? =some y
 | [],i,j,x,y,_,h,_=>by simp at h
 |z::xs,0,j,x,y,hl,h,hy=>by simp at h;subst h;have hj:j<z.length:=(Kaf.1 hy).1;simp only[List.flatten_cons,KbI,Ka9];rw[Kcl hj];exact hy
 |z::xs,i+1,j,x,y,hl,h,hy=>by simp at h;have hz:=hl z (by simp);simp only[List.flatten_cons];rw[Kb0 (by rw[hz,KaG];omega)];rw[show(i+1)*n+j-z.length=i*n+j by rw[hz,KaG];omega];exact KZ hn xs i j x y (fun q hq=>hl q (by simp[hq])) h hy
theorem Qz0{parts:List (Nat×Operand)}{len i:Nat}{p:Nat×Operand}(h:parts.map (·.1)=List.range len)(hp:parts[i]? =some p):p.1=i:=by
 have h1:(parts.map (·.1))[i]? =some p.1:=by simp[hp]
 rw[h]at h1;have hi:i<len:=by have:=(Kaf.1 h1).1;simpa using this
 rw[KcN hi]at h1;simp at h1;exact h1.symm
theorem XC{X:Nat->Prop}{e:TypeId}{n N by_:Nat}{z:PV}{zv:Value}(i5:sm zv=some z)(hz:z.cells.length=n)(hn:0<n):
  Rows w X ((List.range N).map fun k=>z.cells.getD (k%n) .undef) ((Array.range N).map (zv.cells[· %zv.cells.size]!)):=by
 have rM:=(rV (w:=w) (X:=X) i5).cells;refine⟨by simp,fun i x hx=>?_⟩;have hi:i<N:=by have:=(Kaf.1 hx).1;simpa using this
 simp only[Kat,KcN hi,Kb5,Kaz]at hx;have hm:i%n<z.cells.length:=by rw[hz];exact Kbs _ hn
 have aP:z.cells[i%n]? =some x:=by rw[<-hx];simp[hm]
 have:=rM.2 _ x aP;have hs:zv.cells.size=n:=by rw[rM.1];exact hz
 have pg:i%n<zv.cells.size:=by omega
 have e2:((Array.range N).map (zv.cells[· %zv.cells.size]!)).getD i undef=zv.cells.getD (i%n) undef:=by have SV:i%n<n:=Kbs _ hn;simp[Array.getD,hi,hs,SV,getElem!_def,Kbq pg]
 rw[e2];exact this
theorem aa0{o:Oper}{t e:TypeId}{len n by_:Nat}{z:PV}{parts:Array (Nat×Operand)}{ps:List aI}{d:Nat}{Q:Exit->Act->World->Prop}(ho:o.op= .buildSlice t len parts)(hd:o.dst=some d)(aq:d<C.N)(aS:a.defers=[])(h:Qr C ρ fr hp a.tmps w)
  (hu:C.P.underlying t=some (.slice e)) (hz:jK C.P e=some (n,by_,z)) (td:parts.toList.map (·.1)=List.range len) (Tr:len*n<=16777216) (jZ:z.cells.length=n) (fu:(parts.toList.mapM fun p=>bJ p.2)=some ps)
  (hv:AK n e (ps.map (ev fr)) d fr hp K):o.wp C.P a w (cy C true w K) Q:=by
 obtain⟨h0,aO,hK⟩:=hv;obtain⟨ti,zv,i1,i2,i3,i4,i5⟩:=sn hz;obtain⟨m1,m2⟩:=lJ fu;have hlen:parts.toList.length=len:=by have:=congrArg List.length td;simpa using this
 have df:ps.length=len:=by omega
 let xs:List (List PV):=(ps.map (ev fr)).map fun p=>(Qu hp p).cells
 have eM:∀x∈xs,x.length=n:=by intro x hx;simp only[xs,KaF]at hx;obtain⟨p,⟨q,hq,rfl⟩,rfl⟩:=hx;exact(aO _ (KaF.2 ⟨q,hq,rfl⟩)).2
 have Kl:xs.length=len:=by simp[xs,df]
 have lv:(parts.map fun(x:Nat×Operand)=>(x.1,a.eval x.2)).toList=parts.toList.map fun x=>(x.1,a.eval x.2):=by simp
 have Sg:Rows w (aE C ρ (Qx hp ((ps.map (ev fr)).flatMap PV.refs))) ((List.range (len*n)).map fun k=>z.cells.getD (k%n) .undef) ((Array.range (len*n)).map ((if len*n=0 then(#[]:Array Value)else zv.cells)[· %(if len*n=0 then(#[]:Array Value)else zv.cells).size]!)):=by
  by_cases jy:len*n=0
  ·rw[if_pos jy,jy];exact⟨by simp,by simp⟩
  ·rw[if_neg jy];exact XC (e:=e) (by_:=by_) i5 jZ h0
 obtain⟨dD,g1,g2⟩:=CT (fun i=>some (i*n,n)) (parts.toList.map fun x=>(x.1,a.eval x.2)) ((xs.zipIdx 0).map fun p=>(p.2*n,p.1)) _ _ Sg (by simp[Kl,hlen]) (fun i p q yD uK=>by
  simp only[Kat,Kaa]at yD uK;obtain⟨x,hx,rfl⟩:=yD;obtain⟨q0,kG,rfl⟩:=uK;rw[List.getElem?_zipIdx]at kG;simp only[Kaa]at kG;obtain⟨y,hy,rfl⟩:=kG;simp only[Ka9];have TF:=eM y (Kaj hy);simp only[xs,Kat,Kaa]at hy;obtain⟨pv,⟨u,mA,rfl⟩,rfl⟩:=hy;obtain⟨x',aP,JZ⟩:=m2 i u mA;rw[hx]at aP;cases aP;have hi:i<len:=by have:=(Kaf.1 hx).1;omega
  obtain⟨o1,o2⟩:=aO (ev fr u) (KaF.2 ⟨u,Kaj mA,rfl⟩);refine⟨by rw[Qz0 td hx,TF],(qJ h (cn h JZ) (fun β aj=>Kap.2 ⟨_,KaF.2 ⟨u,Kaj mA,rfl⟩,aj⟩) o1).rows,?_⟩;rw[TF];simp;have:(i+1)*n<=len*n:=Kal n hi;rw[KaG]at this;omega)
 have JG:=OV n xs 0 [] ((List.range (len*n)).map fun k=>z.cells.getD (k%n) .undef) eM (by simp) (by simp[Kl]);simp only[KaI]at JG;rw[JG]at g2;have yw:xs.flatten.length=len*n:=by
  have:=g2.1;have hb:=Sg.1;have h2:gE ((List.range (len*n)).map fun k=>z.cells.getD (k%n) .undef) ((xs.zipIdx 0).map fun p=>(p.2*n,p.1))=xs.flatten:=JG;rw[List.length_flatten];have:xs.map List.length=List.replicate xs.length n:=by apply List.ext_getElem (by simp);intro i h1 h2;simp only[Kb8,List.getElem_replicate];exact eM _ (Kah _)
  rw[this,List.sum_replicate_nat,Kl]
 have kI:dD.size=len*n:=by rw[g2.1,yw]
 obtain⟨hs,he⟩:=(h.freeze ((ps.map (ev fr)).flatMap PV.refs)).FY d (xT aq) ⟨n,e,(ps.map (ev fr)).map (Qu hp),false⟩ dD len _ (.inl rfl) kI (by simp[df]) (by rw[lK];have:len*1<=len*n:=Kbc len h0;omega) h0
  (fun i x hx=>by simp only[Kat,Kaa]at hx;obtain⟨p,⟨u,mA,rfl⟩,rfl⟩:=hx;obtain⟨o1,o2⟩:=aO (ev fr u) (KaF.2 ⟨u,Kaj mA,rfl⟩);exact⟨o2,o1⟩)
  (fun i x hx j y hy=>by refine g2.2 _ y (KZ h0 xs i j x.cells y eM ?_ hy);simp only[Kat,Kaa,xs]at hx⊢;obtain⟨p,ft,rfl⟩:=hx;exact⟨p,ft,rfl⟩)
 refine iA (v:=.slice (some ⟨w.heap.size,0,none⟩) len len) ?_ (cy.kQ hd aq aS hs (fun _=>he) ?_ hK)
 ·unfold execOp;have yH:¬(len*n>2^24):=by omega
  have J7:(parts.map fun x=>match x with|(i,x)=>(i,a.eval x)).toList=parts.toList.map fun x=>(x.1,a.eval x.2):=lv;simp only[ho,Instr.buildSlice,Kao,Q9 hu,Kak,kU (show dR C.P e=some n by simp[dR,i1,i3]),if_neg yH,J7];by_cases jy:len*n=0
  ·simp only[if_pos jy]at g1⊢;simp only[KaX,Kak,Kao,g1,newRow];simp
  ·simp only[if_neg jy]at g1⊢;simp only[KaX,Kak,Kao,u5 i1 i2,g1,newRow];simp
 ·rw[show(ps.map (ev fr)).length=len by simp[df]];exact NJ (by simp[df]) (mK w _) kI (by rw[lK];have:len*1<=len*n:=Kbc len h0;omega)
theorem zn(w:World)(b:Nat)(cur:Array Value):Ext (fun c=>c=b) w (w.setRow b cur):=
 ⟨rfl,rfl,rfl,by simp,fun k hk hn=>setRow_other w b k _ hn⟩
theorem zg{cur:Array Value}{p:Nat}{cs:List Value}{k:Nat}(hle:p+cs.length<=cur.size)(hk:k<cur.size):
  ((cur.toList.take p++cs++cur.toList.drop (p+cs.length)).toArray).getD k undef=if p<=k/\k<p+cs.length then cs.getD (k-p) undef else cur.getD k undef:=by
 have cP:k<cur.toList.length:=by simpa using hk
 have ht:(cur.toList.take p).length=p:=by simp;omega
 simp only[KaN,List.getElem?_toArray,Kbv,Kae];rw[Ka3,ht];by_cases c1:k<p
 ·rw[if_pos c1,if_neg (by omega),KaH c1];simp
 ·rw[if_neg c1,Ka3];by_cases c2:k-p<cs.length
  ·rw[if_pos c2,if_pos (by omega)]
  ·rw[if_neg c2,if_neg (by omega),Ka5];rw[show p+cs.length+(k-p-cs.length)=k by omega];simp
theorem zj{cur:Array Value}{p:Nat}{cs:List Value}(hle:p+cs.length<=cur.size):((cur.toList.take p++cs++cur.toList.drop (p+cs.length)).toArray).size=cur.size:=by simp;omega
theorem N1{P:Program}{t:TypeId}{n b off:Nat}{ty:TypeId}{v:Value}{cur:Array Value}(hn:dR P t=some n)(hs:v.cells.size=n)(hg:w.heap[b]? =some (.cells cur ty (0,0)))(hle:off+n<=cur.size)(h1:∀u∈v.cells.toList,u.oneCell'=true):
  (storeVar t ⟨b,off,none⟩ v).run P w= .ok () (w.setRow b (cur.toList.take off++v.cells.toList++cur.toList.drop (off+n)).toArray):=by
 unfold storeVar;have aL:=run_storeCells_at P b off ty v.cells.toList 0 cur w hg (by simp[hs];omega) h1;simp only[KaO,Kcg,hs]at aL;have aT:¬(v.cells.size≠n):=by simp[hs]
 simp only[Kao,kU hn,Kak,if_neg aT];exact aL
theorem aa1{x:PV}{o:Nat}{v:PV}{j:Nat}(hl:o+v.cells.length<=x.cells.length)(hj:j<x.cells.length):
  (rU x o v).cells[j]? =if o<=j/\j<o+v.cells.length then v.cells[j-o]? else x.cells[j]? :=by
 show(x.cells.take o++v.cells++x.cells.drop (o+v.cells.length))[j]? =_;rw[Kbv];have ht:(x.cells.take o).length=o:=by simp;omega
 rw[Ka3,ht];by_cases c1:j<o
 ·rw[if_pos c1,if_neg (by omega),KaH c1]
 ·rw[if_neg c1,Ka3];by_cases c2:j-o<v.cells.length
  ·rw[if_pos c2,if_pos (by omega)]
  ·rw[if_neg c2,if_neg (by omega),Ka5];rw[show o+v.cells.length+(j-o-v.cells.length)=j by omega]
theorem aft{x:PV}{o:Nat}{v:PV}(hl:o+v.cells.length<=x.cells.length):(rU x o v).cells.length=x.cells.length:=by show(List.take o x.cells++v.cells++List.drop (o+v.cells.length) x.cells).length=_;simp;omega
theorem K0{e i j m k n:Nat}(hj:j<e)(hk:k+n<=e)(aT:i≠m):¬(m*e+k<=i*e+j/\i*e+j<m*e+k+n):=by
 intro⟨h1,h2⟩;rcases Nat.lt_or_gt_of_ne aT with h|h
 ·have:(i+1)*e<=m*e:=Kal e h;rw[KaG]at this;omega
 ·have:(m+1)*e<=i*e:=Kal e h;rw[KaG]at this;omega
theorem z6{l:List PV}{i k:Nat}{nx x:PV}(h:(l.set i nx)[k]? =some x):(i=k/\x=nx)∨(i≠k/\l[k]? =some x):=by
 by_cases rB:i=k
 ·subst rB;have hi:i<l.length:=by have:=(Kaf.1 h).1;simpa using this
  rw[List.getElem?_set_self hi]at h;cases h;exact .inl ⟨rfl,rfl⟩
 ·rw[List.getElem?_set_ne rB]at h;exact .inr ⟨rB,h⟩
theorem cz.aX{p:PV}{v:Value}(h:cz C ρ hp w p v):p.aX=[p]:=by
 cases p with
 |agg=>cases h
 |aK=>cases h
 |_=>rfl
theorem OW{l:List PV}(h:∀c∈l,c.aX=[c]):(fj l).aX=l:=by
 unfold fj;split
 ·exact h _ (by simp)
 ·exact UZ _
theorem Ma{py:PV}{v:Value}{cs:List PV}(h:Qm C ρ hp w py v)(hs:eP py=some cs):v.cells.size=cs.length/\(∀(j:Nat)(y:PV),cs[j]? =some y->cz C ρ hp w y (v.cells.getD j undef))/\∀u∈v.cells.toList,u.oneCell'=true:=by
 have one:∀ {p:PV},cz C ρ hp w p v->p≠ .undef->cs=[p]->v.cells.size=cs.length/\(∀(j:Nat)(y:PV),cs[j]? =some y->cz C ρ hp w y (v.cells.getD j undef))/\∀u∈v.cells.toList,u.oneCell'=true:=by
  rintro p hr hu rfl;obtain⟨h1,h2⟩:=hr.rS hu;rw[h2];refine⟨rfl,fun j y hy=>?_,fun u mA=>?_⟩
  ·match j,hy with
   |0,hy=>simp at hy;subst hy;exact hr
   |j+1,hy=>simp at hy
  ·simp at mA;subst mA;exact h1
 cases py with
 | aK cs'=>
  simp only[eP]at hs;split at hs
  ·rename_i aW;simp only[Kaz]at hs;subst hs;obtain⟨vs,rfl,h1,h2⟩:=h;refine⟨h1,h2,fun u hu=>?_⟩;obtain⟨j,hj,rfl⟩:=KaA hu;have dj:j<vs.size:=by simpa[Value.cells]using hj
   have hp:j<cs'.length:=by omega
   have h3:=h2 j cs'[j] (Kag hp);have h4:=Kaq.1 aW cs'[j] (Kah hp);have:=(h3.rS (fun e=>by rw[e]at h4;cases h4)).1;simpa[Array.getD,dj,Value.cells]using this
  ·cases hs
 |aH γ o n=>simp only[eP,Kaz]at hs;exact one (p:=.aH γ o n) h (by simp) hs.symm
 |au β o n=>
  simp only[eP]at hs;split at hs
  ·rename_i hB;simp only[Kaz]at hs;exact one (p:=.au β o n) ⟨hB,h⟩ (by simp) hs.symm
  ·cases hs
 |int k n=>simp only[eP,Kaz]at hs;exact one (p:=.int k n) h (by simp) hs.symm
 |bool b=>simp only[eP,Kaz]at hs;exact one (p:=.bool b) h (by simp) hs.symm
 |aa=>simp only[eP,Kaz]at hs;exact one (p:=.aa) h (by simp) hs.symm
 |sl e xs=>simp only[eP,Kaz]at hs;exact one (p:=.sl e xs) h (by simp) hs.symm
 |pt cs'=>simp only[eP,Kaz]at hs;exact one (p:=.pt cs') h (by simp) hs.symm
 |agg cs'=>simp only[eP,Kaz]at hs;subst hs;have hr:Q6 w (aE C ρ hp) (.agg cs') v:=h;obtain⟨h1,h2⟩:=hr.cells;exact⟨h1,fun j y hy=>cz.TP (h2 j y hy),hr.TT⟩
 |_=>cases hs
theorem Qr.KB{tmps:Array Value}{w':World}(h:Qr C ρ fr hp tmps w){γ b e ty:Nat}{hb:HB}{xs':List PV}{cur':Array Value}{cap:Nat}(hB:bB γ=true)(he:0<e)(ah:hp γ=some hb)(mi:hb.fz=false)(bY:hb.xs=[])(yu:hb.e=e)(ht:hb.ty=ty)(bl:ρ γ=some b)
  (hx:Ext (fun c=>c=b) w w') (dw:∀e cap,cV w b e cap->cV w' b e cap) (h1:w'.heap[b]? =some (.cells cur' ty (0,0))) (h2:cur'.size=cap*e) (h3:xs'.length<=cap) (h4:cap<=maxLen)
  (h5:∀(i:Nat)(x:PV),xs'[i]? =some x->x.aX.length=e) (h6:∀(i:Nat)(x:PV),xs'[i]? =some x->∀(j:Nat)(y:PV),x.aX[j]? =some y->cz C ρ hp w y (cur'.getD (i*e+j) undef)):
  Qr C ρ (FW.ae (iE γ fr) γ (.aF γ e ty xs')) hp tmps w':=by
 have Jo:aE C ρ hp b:=.inr ⟨γ,hb,ah,mi,bl⟩;have Fx:eF γ=false:=by
  cases hq:eF γ with
  |false=>rfl
  |true=>have:=(h.own γ hb ah).ro hq;rw[mi]at this;cases this
 have ik:lX w w' (aE C ρ hp) (aE C ρ hp):=⟨fun c hc hn=>hx.block c hc (fun e=>hn (e▸Jo)),fun _ _ hn=>hn,hx.size⟩
 have bj:=(h.own γ hb ah).cD;rw[bl]at bj;have jv:Ext C.Y0 C.w0 w':=by refine h.ext.trans' (Y':=fun c=>c=b) hx ?_;intro c hc he;subst he;exact(Ctx.EK bj.1 Fx).resolve_left (by omega)
 have Bm:∀β c,C.fx β=some c->∀e cap,cV C.w0 c e cap->cV w' c e cap:=fun b0 c ik e cap fU=>by
  have ie:=h.eG b0 c ik e cap fU;by_cases jb:c=b
  ·rw[jb]at ie ⊢;exact dw e cap ie
  ·exact kT (hx.block c (kV ie) jb) ie
 have oy:∀β hg c,β≠γ->hp β=some hg->ρ β=some c->¬c=b:=fun β hg c aT fW hr e=>aT (h.inj β γ b (by simp[fW]) (by simp[ah]) (e▸hr) bl);have c0:∀β,vE ρ ρ hp hp w w' β:=fun β=>⟨rfl,fun hg fW=>⟨hg,fW,rfl,Kad _,fun c cap hr fU=>by
  by_cases aT:β=γ
  ·subst aT;rw[bl]at hr;cases hr;exact dw _ _ fU
  ·exact kT (hx.block c (kV fU) (oy β hg c aT fW hr)) fU⟩⟩
 refine⟨h.sz,jv,Bm,fun β hg aj=>?_,h.inj,fun i=>?_⟩
 ·obtain⟨p1,p2,p3,p4,p5⟩:=h.own β hg aj;refine⟨p1,p2,?_,p4,p5⟩;by_cases aT:β=γ
  ·subst aT;rw[ah]at aj;cases aj;rw[bl]at p3⊢;exact⟨p3.1,Kbi p3.2.1 hx.size,cur',cap,by rw[h1,ht],by rw[yu];exact h2,by rw[bY];simp,h4,by rw[bY];simp⟩
  ·cases hr:ρ β with
   |none=>rw[hr]at p3;exact p3
   |some c=>rw[hr]at p3;exact⟨p3.1,Kbi p3.2.1 hx.size,p3.2.2.move (hx.block c p3.2.1 (oy β hg c aT aj hr)) rfl rfl rfl ik.rc⟩
 ·unfold FW.ae;split
  ·exact⟨hB,he,b,hb,cur',cap,bl,ah,bY,yu,ht,h1,h2,h3,h4,h5,fun i x hi j y hy=>(h6 i x hi j y hy).move ik (fun β _=>c0 β)⟩
  ·have bc:=h.cH i;unfold iE;generalize fr i=p at bc;have mv:(∀ba e ty xs,p= .aF ba e ty xs->ba≠γ)->Qm C ρ hp w' p (tmps.getD i undef):=fun hq=>
    bc.move ik (fun β _=>⟨(c0 β).r,(c0 β).h⟩) (fun β _=>c0 β) (fun ba e ty xs e1=>⟨rfl,fun hg fW=>by have aT:=hq ba e ty xs e1;refine⟨hg,fW,rfl,Kad _,fun c cap hr fU=>kT (hx.block c (kV fU) (oy ba hg c aT fW hr)) fU,fun he=>⟨he,rfl,fun c hr=>hx.block c ?_ (oy ba hg c aT fW hr)⟩⟩;have:=(h.own ba hg fW).cD;rw[hr]at this;exact this.2.1⟩)
   cases p with
   |aF ba e' ty' xs=>
    simp only[iQ];split
    ·trivial
    ·rename_i aT;exact mv (fun _ _ _ _ e1=>by cases e1;exact aT)
   |_=>exact mv (fun _ _ _ _ e1=>by cases e1)
theorem K1{l cs:List PV}{o j:Nat}(hl:o+cs.length<=l.length)(hj:j<l.length):(pS l o cs)[j]? =if o<=j/\j<o+cs.length then cs[j-o]? else l[j]? :=by
 unfold pS;rw[Kbv];have ht:(l.take o).length=o:=by simp;omega
 rw[Ka3,ht];by_cases c1:j<o
 ·rw[if_pos c1,if_neg (by omega),KaH c1]
 ·rw[if_neg c1,Ka3];by_cases c2:j-o<cs.length
  ·rw[if_pos c2,if_pos (by omega)]
  ·rw[if_neg c2,if_neg (by omega),Ka5];rw[show o+cs.length+(j-o-cs.length)=j by omega]
theorem HR{l cs:List PV}{o:Nat}(hl:o+cs.length<=l.length):(pS l o cs).length=l.length:=by unfold pS;simp;omega
theorem aav {o:Oper} {t:TypeId} {n:Nat} {x y:Operand} {px py:PV} {Q:Exit->Act->World->Prop} (ho:o.op= .store t x y) (hd:o.dst=none) (aS:a.defers=[]) (h:Qr C ρ fr hp a.tmps w)
  (hn:dR C.P t=some n) (hx:Qm C ρ hp w px (a.eval x)) (hy:Qm C ρ hp w py (a.eval y)) (hv:nK n px py fr hp K):o.wp C.P a w (cy C false w K) Q:=by
 unfold nK at hv;split at hv
 ·rename_i β i o';split at hv
  ·rename_i hb aj;obtain⟨h1,h2,h3,h4,h5,hK⟩:=hv;obtain⟨b,lu,g1,g2,ex⟩:=hx.yO;obtain⟨aZ,g3,e1,e2,e3,e4,_⟩:=CD (l:=py.refs) g2;rw[aj]at g3;cases g3;have Jr:=e4 h1;subst Jr;have hf:=h.freeze py.refs;have hr:=qJ h hy (fun β aj=>aj) h2;have wB:=hr.cells;have bj:=hf.own β hb aj;have aU:=bj.cD;rw[g1]at aU;obtain⟨b1,b2,cur,cap,c1,c2,c3,c4,c5⟩:=aU;have fe:=Kag h4;have cX:=(bj.len i _ fe).1;have kI:(a.eval y).cells.size=n:=by rw[wB.1,h3]
   have o9:i*hb.e+o'+n<=cur.size:=by rw[c2];have:(i+1)*hb.e<=cap*hb.e:=Kal _ (by omega);rw[KaG]at this;omega
   have bS:=N1 (P:=C.P) (w:=w) (off:=i*hb.e+o') hn kI c1 o9 hr.TT;have jA:(a.eval y).cells.toList.length=n:=by simp[kI]
   have gw:∀k,k<cur.size->((cur.toList.take (i*hb.e+o')++(a.eval y).cells.toList++cur.toList.drop (i*hb.e+o'+n)).toArray).getD k undef=if i*hb.e+o'<=k/\k<i*hb.e+o'+n then(a.eval y).cells.getD (k-(i*hb.e+o')) undef else cur.getD k undef:=by intro k hk;have:=zg (cur:=cur) (p:=i*hb.e+o') (cs:=(a.eval y).cells.toList) (k:=k) (by omega) hk;rw[jA]at this;rw[this];simp[KaN,Kae]
   have kH:((cur.toList.take (i*hb.e+o')++(a.eval y).cells.toList++cur.toList.drop (i*hb.e+o'+n)).toArray).size=cur.size:=by
    have:=zj (cur:=cur) (p:=i*hb.e+o') (cs:=(a.eval y).cells.toList) (by omega)
    rwa[jA]at this
   have ny:(if n=hb.e then Qu hp py else rU (hb.xs[i]'h4) o' (Qu hp py)).cells.length=hb.e/\(if n=hb.e then Qu hp py else rU (hb.xs[i]'h4) o' (Qu hp py)).aD=true:=by
    by_cases hc:n=hb.e
    ·rw[if_pos hc];exact⟨by omega,h2⟩
    ·rw[if_neg hc];exact⟨by rw[aft (by omega)];exact cX,rfl⟩
   obtain⟨nx,ir⟩:∃nx,nx=(if n=hb.e then Qu hp py else rU (hb.xs[i]'h4) o' (Qu hp py)):=⟨_,rfl⟩
   rw[<-ir]at hK ny;have aL:=hf.store β b hb { hb with xs:=hb.xs.set i nx } aj h1 (by intro e;rw[e]at h4;simp at h4) g1 (zn w b _) rfl (by simp) h1
    (fun k x hk=>by
     rcases z6 hk with⟨_,rfl⟩|⟨_,hk⟩
     ·exact ny
     ·exact bj.len k x hk)
    (fun e' et dw=>by obtain⟨cur',ty',d1,d2⟩:=dw;rw[c1]at d1;cases d1;exact⟨_,_,setRow_heap w b cur _ hb.ty _ c1,by rw[kH];exact d2⟩)
    ⟨_, cap,setRow_heap w b cur _ hb.ty _ c1,by rw[kH];exact c2,by simpa using c3,c4,fun k x hk j z hz=>by
     have yy:k<hb.xs.length:=by have:=(Kaf.1 hk).1;simpa using this
     have eM:x.cells.length=hb.e:=by
      rcases z6 hk with⟨_,rfl⟩|⟨_,hk⟩
      ·exact ny.1
      ·exact(bj.len k x hk).1
     have hj:j<hb.e:=by have:=(Kaf.1 hz).1;omega
     have aq:k*hb.e+0+j<cap*hb.e:=mR (by omega) (by omega:0+hb.e<=hb.e) hj;show Qp w _ z (Array.getD _ (k*hb.e+j) undef);rw[gw _ (by omega)];rcases z6 hk with⟨v7,FM⟩|⟨v7,hk⟩
     ·subst v7;subst FM;by_cases hc:n=hb.e
      ·rw[ir,if_pos hc]at hz;have Fz:o'=0:=by omega
       subst Fz;rw[if_pos (by omega)];rw[show i*hb.e+j-(i*hb.e+0)=j by omega];exact wB.2 j z hz
      ·rw[ir,if_neg hc]at hz;rw[aa1 (by omega) (by omega),h3]at hz;by_cases SH:o'<=j/\j<o'+n
       ·rw[if_pos SH]at hz;rw[if_pos (by omega)];rw[show i*hb.e+j-(i*hb.e+o')=j-o' by omega];exact wB.2 _ z hz
       ·rw[if_neg SH]at hz;rw[if_neg (by omega)];exact c5 i _ fe j z hz
     ·rw[if_neg (K0 hj (by omega) (fun e=>v7 e.symm))];exact c5 k x hk j z hz⟩
   unfold Oper.wp;have hex:(execOp a.eval o).run C.P w= .ok .skip (w.setRow b (cur.toList.take (i*hb.e+o')++(a.eval y).cells.toList++cur.toList.drop (i*hb.e+o'+n)).toArray):=by unfold execOp;simp only[ho,ex,Kao,Instr.storeAt,Instr.sureAddr,KaX,Kak,bS]
   rw[hex];refine⟨by rw[vb];exact aS,⟨fr,_,⟨ρ,?_⟩,hK⟩,by simp⟩;rw[hd];exact aL
  ·exact hv.elim
 ·rename_i γ i o';split at hv
  ·rename_i ba e ty xs ah;obtain⟨rfl,⟨hb,k1,k2⟩,h1,h2,hv⟩:=hv;split at hv
   ·rename_i cs jd;obtain⟨h3,hK⟩:=hv;obtain⟨r1,r2,r3⟩:=Ma hy jd;obtain⟨hB,b,ax,g1,g2,ex⟩:=hx.FZ;rw[k1]at g2;cases g2;have bc:=h.cH ba;rw[ah]at bc;obtain⟨_,vX,b',ax,cur,cap,q1,q2,q3,q4,q5,q6,q7,q8,q9,wO,tp⟩:=bc;rw[g1]at q1;cases q1;rw[k1]at q2;cases q2;rw[q4]at ex;have fe:=Kag h1;have cX:=wO i _ fe;have kI:(a.eval y).cells.size=n:=by rw[r1,h3]
    have o9:i*e+o'+n<=cur.size:=by rw[q7];have:(i+1)*e<=cap*e:=Kal _ (by omega);rw[KaG]at this;omega
    have bS:=N1 (P:=C.P) (w:=w) (off:=i*e+o') hn kI q6 o9 r3;have jA:(a.eval y).cells.toList.length=n:=by simp[kI]
    have gw:∀k,k<cur.size->((cur.toList.take (i*e+o')++(a.eval y).cells.toList++cur.toList.drop (i*e+o'+n)).toArray).getD k undef=if i*e+o'<=k/\k<i*e+o'+n then(a.eval y).cells.getD (k-(i*e+o')) undef else cur.getD k undef:=by intro k hk;have:=zg (cur:=cur) (p:=i*e+o') (cs:=(a.eval y).cells.toList) (k:=k) (by omega) hk;rw[jA]at this;rw[this];simp[KaN,Kae]
    have kH:((cur.toList.take (i*e+o')++(a.eval y).cells.toList++cur.toList.drop (i*e+o'+n)).toArray).size=cur.size:=by
     have:=zj (cur:=cur) (p:=i*e+o') (cs:=(a.eval y).cells.toList) (by omega)
     rwa[jA]at this
    generalize(cur.toList.take (i*e+o')++(a.eval y).cells.toList++cur.toList.drop (i*e+o'+n)).toArray=W at bS gw kH;have BA:o'+cs.length<=(xs[i]).aX.length:=by rw[cX,h3];exact h2
    have qh:∀c∈pS (xs[i]).aX o' cs,c.aX=[c]:=by
     intro c hc;obtain⟨j,hj⟩:=KaB hc;have qm:j<(xs[i]).aX.length:=by have:=(Kaf.1 hj).1;rwa[HR BA]at this
     rw[K1 BA qm]at hj;split at hj
     ·exact(r2 _ c hj).aX
     ·exact(tp i _ fe j c hj).aX
    have bK:=OW qh;have aL:=h.KB (w':=w.setRow b W) (xs':=xs.set i (fj (pS (xs[i]).aX o' cs))) (cur':=W) (cap:=cap) hB vX k1 k2 q3 q4 q5 g1 (zn w b W)
     (fun e2 AN hcp=>by obtain⟨aqq,oE,d1,d2⟩:=hcp;rw[q6]at d1;cases d1;exact⟨_,_,setRow_heap w b cur _ ty _ q6,by rw[kH];exact d2⟩)
     (setRow_heap w b cur W ty _ q6) (by rw[kH];exact q7) (by simpa using q8) q9
     (fun k x hk=>by
      rcases z6 hk with⟨_,rfl⟩|⟨_,hk⟩
      ·rw[bK,HR BA];exact cX
      ·exact wO k x hk)
     (fun k x hk j y' nC=>by
      rcases z6 hk with⟨rfl,rfl⟩|⟨aT,hk⟩
      ·rw[bK]at nC;have qm:j<(xs[i]).aX.length:=by have:=(Kaf.1 nC).1;rwa[HR BA]at this
       have v5:j<e:=by omega
       have wb:i*e+0+j<cap*e:=mR (n:=e) (by omega) (by omega) v5;rw[K1 BA qm]at nC;rw[gw _ (by omega)];split at nC
       ·rename_i hr;rw[if_pos (by omega),show i*e+j-(i*e+o')=j-o' by omega];exact r2 _ y' nC
       ·rename_i hr;rw[if_neg (by omega)];exact tp i _ fe j y' nC
      ·have yy:k<xs.length:=(Kaf.1 hk).1;have v5:j<e:=by have:=(Kaf.1 nC).1;have:=wO k x hk;omega
       have wb:k*e+0+j<cap*e:=mR (n:=e) (by omega) (by omega) v5;rw[gw _ (by omega),if_neg (K0 v5 h2 (fun e=>aT e.symm))];exact tp k x hk j y' nC)
    unfold Oper.wp;have hex:(execOp a.eval o).run C.P w= .ok .skip (w.setRow b W):=by unfold execOp;simp only[ho,ex,Kao,Instr.storeAt,Instr.sureAddr,KaX,Kak,bS]
    rw[hex];refine⟨by rw[vb];exact aS,⟨_,hp,⟨ρ,?_⟩,hK⟩,by simp⟩;rw[hd];exact aL
   ·exact hv.elim
  ·exact hv.elim
 ·exact hv.elim
end Go.FW
namespace Go.FW
open Go
variable {C : Ctx} {ρ : Nat -> Option Nat} {fr : Fr} {hp : HP} {w : World} {a : Act} {K : Qh}
theorem Ut{X:Nat->Prop}{x:PV}{e:Nat}{f:Nat->Value}(he:x.cells.length=e)(h0:0<e)(hr:∀(j:Nat)(y:PV),x.cells[j]? =some y->Qp w X y (f j)):x.aD=true:=by
 by_cases ha:∃cs,x= .agg cs
 ·obtain⟨cs,rfl⟩:=ha;rfl
 ·have hc:x.cells=[x]:=by
   cases x with
   |agg cs=>exact absurd ⟨cs,rfl⟩ ha
   |_=>rfl
  have:=hr 0 x (by rw[hc];rfl);exact Q6.data (Q6.qB this)
theorem Hw{e:Nat}{px:PV}{v:Value}{ys:List PV}{e':Nat}(h:Qr C ρ fr hp a.tmps w)(hx:Qm C ρ hp w px v)(hs:jj hp px=some (e',ys))(h0:0<e)(ns:e'=e∨ys=[]):
  ∃ad cap,v= .slice ad ys.length cap/\(ys≠[]->∃(b off:Nat)(f:Nat->Value),ad=some ⟨b,off,none⟩/\(∀k,k<ys.length*e->w.cell? ⟨b,off+k,none⟩=some (f k))/\
   ∀(i:Nat)(y:PV),ys[i]? =some y->y.cells.length=e/\y.aD=true/\∀(j:Nat)(z:PV),y.cells[j]? =some z->Qp w (aE C ρ hp) z (f (i*e+j))):=by
 cases px with
 |aa=>simp[jj]at hs;obtain⟨rfl,rfl⟩:=hs;exact⟨none,0,hx.wN,fun hn=>absurd rfl hn⟩
 | sl e2 xs=>
  simp[jj]at hs;obtain⟨rfl,rfl⟩:=hs;have aP:Qp w (aE C ρ hp) (.sl e2 xs) v:=hx;cases aP with
  |mE _ ad cap hc=>exact⟨ad,cap,rfl,fun hn=>absurd rfl hn⟩
  | sl _ _ b off cap vs hX hb hl hc he hv hr=>
   refine⟨_,cap,rfl,fun hn=>?_⟩;obtain rfl:e2=e:=ns.resolve_right hn;refine⟨b,off,fun k=>vs (k/e2) (k%e2),rfl,fun k hk=>?_,fun i y hy=>?_⟩
   ·have h1:k/e2<xs.length:=(Kbf h0).2 hk;have h2:=Kbs k h0;have:=hv _ h1 _ h2;rw[Kb3,KaQ,Kbl]at this;exact this
   ·have cX:=he i y hy;refine⟨cX,Ut cX h0 (hr i y hy),fun j z hz=>?_⟩;have hj:j<e2:=by have:=(Kaf.1 hz).1;omega
    show Qp w _ z (vs ((i*e2+j)/e2) ((i*e2+j)%e2));rw[aaY hj,KY hj];exact hr i y hy j z hz
 | au β o n=>
  simp only[jj,Kaa,Prod.mk.injEq]at hs;obtain⟨hb,aj,yu,rfl⟩:=hs;obtain⟨dN,g1,g2,g3⟩:=hx;rw[aj]at g1;cases g1;have hlen:((hb.xs.drop o).take n).length=n:=by simp;omega
  rcases g3 with⟨g3,rfl,rfl,rfl⟩|⟨b,cap,g3,rfl,g5,g6⟩
  ·exact⟨none,0,by simp,fun hn=>absurd (by simp) hn⟩
  ·refine⟨_,cap,by rw[hlen],fun hn=>?_⟩;have bj:=h.own β hb aj;have aU:=bj.cD;rw[g3]at aU;obtain⟨_,aq,cur,et,c1,c2,c3,c4,c5⟩:=aU;have Su:hb.e=e:=by
    rcases ns with ns|ns
    ·omega
    ·exact absurd ns hn
   refine⟨b,o*hb.e,fun k=>cur.getD (o*hb.e+k) undef,rfl,fun k hk=>?_,fun i y hy=>?_⟩
   ·rw[hlen]at hk;have:(o+n)*e<=et*e:=Kal e (by omega);rw[KaG]at this;exact kR c1 (by rw[c2,Su];omega)
   ·have hi:i<n:=by have:=(Kaf.1 hy).1;omega
    rw[KaH hi,Ka5]at hy;obtain⟨l1,l2⟩:=bj.len _ y hy;refine⟨by omega,l2,fun j z hz=>?_⟩;have:=c5 _ y hy j z hz;rw[KaG,Kb3]at this
    rwa[Su]at this⊢
 |_=>simp[jj]at hs
theorem NN{P:Program}{t ty e:TypeId}{i:TypeInfo}(ht:P.underlying t=some (.slice e))(hi:P.info? e=some i){base ad:Option Addr}{n cap c:Nat}(hle:n<=cap)(w:World):
  (Builtin.append_ #[t,t] ty #[.slice base n cap,.slice ad 0 c]).run P w= .ok (.slice base n cap) w:=by
 cases ad<;>cases base<;>simp[Builtin.append_,run_underlying ht,sizeOf,typeInfo,hi,Builtin.lenOf,Builtin.firstCells,hle,storeCells,loadCells,loadCellsFrom]
theorem tu{P:Program}{o:Oper}{s x:Operand}{t:TypeId}(ho:o.op= .call { callee:=.builtin .append,args:= #[s,x],argTypes:= #[t,t] }){vs vx v:Value}{w w':World}(es:a.eval s=vs)(ex:a.eval x=vx)
  (hr:(Builtin.append_ #[t,t] o.type #[vs,vx]).run P w= .ok v w'):(execOp a.eval o).run P w= .ok (.value v) w':=by
 unfold execOp;simp only[ho,resolve,Kao,KaX,Kak,invoke,builtin];simp[es,ex,hr]
def fi(f:Nat->Value)(n:Nat):List Value:=(List.range n).map f
theorem wS(f:Nat->Value)(n:Nat):(fi f n).length=n:=by simp[fi]
theorem zo{f:Nat->Value}{n j:Nat}{u:Value}(h:(fi f n)[j]? =some u):j<n/\u=f j:=by
 have hj:j<n:=by have:=(Kaf.1 h).1;simpa[fi]using this
 simp only[fi,Kat,KcN hj,Kb5,Kaz]at h;exact⟨hj,h.symm⟩
theorem CK{f:Nat->Value}{n j:Nat}(h:j<n):(fi f n).getD j undef=f j:=by simp[fi,Kae,h]
theorem u7(l:List Value)(k:Nat):l.toArray.getD k undef=l.getD k undef:=by simp[KaN,Kae]
theorem ko(xs ys:Array Value)(k:Nat):(xs++ys).getD k undef=if k<xs.size then xs.getD k undef else ys.getD (k-xs.size) undef:=by simp only[KaN,Array.getElem?_append];split<;>rfl
theorem ve{n m e i j:Nat}(h0:i<m)(hj:j<e):i*e+j<m*e/\(n+i)*e+j=n*e+(i*e+j):=by
 constructor
 ·have:(i+1)*e<=m*e:=Kal e h0;rw[KaG]at this;omega
 ·rw[KaG];omega
theorem rY{β:Nat}{p:PV}{v:Value}(h:cz C ρ hp w p v):cz C ρ hp w (gX β p) v/\∀γ∈(gX β p).dh,γ≠β:=by
 cases p with
 | au bA o n=>
  simp only[gX];split
  ·exact⟨trivial,fun γ ah=>by cases ah⟩
  ·rename_i aT;exact⟨h,fun γ ah=>by simp[PV.dh]at ah;subst ah;exact aT⟩
 | aH ba o n=>
  simp only[gX];split
  ·exact⟨trivial,fun γ ah=>by cases ah⟩
  ·rename_i aT;exact⟨h,fun γ ah=>by simp[PV.dh]at ah;subst ah;exact aT⟩
 |np=>cases h
 |_=>exact⟨h,fun γ ah=>by cases ah⟩
theorem pF{l:List PV}{f:PV->PV}{i:Nat}{y:PV}(h:(l.map f)[i]? =some y):∃x,l[i]? =some x/\y=f x:=by simp only[Kat,Kaa]at h;obtain⟨x,h1,h2⟩:=h;exact⟨x,h1,h2.symm⟩
theorem xb{β:Nat}:xS C ρ hp w β fr (e9 β fr):=by
 intro i v h;unfold e9;generalize fr i=p at h;have kill:cR β p=bx β p->(∀γ∈p.aN,γ≠β)->Qm C ρ hp w (cR β p) v/\(∀γ∈(cR β p).refs,γ≠β)/\∀γ∈(cR β p).aN,γ≠β:=fun e hs=>by
  rw[e];refine⟨Qm.kill h,fun γ ah=>(OT γ ah).1,fun γ ah=>?_⟩;unfold bx at ah;split at ah
  ·cases ah
  ·exact hs γ ah
 cases p with
 | aF γ e ty xs=>
  simp only[cR];split
  ·exact⟨trivial,fun γ ah=>(by cases ah),fun γ ah=>by cases ah⟩
  ·rename_i aT;obtain⟨h0,he,b,hb,cur,cap,h1,h2,h3,h4,h5,h6,h7,h8,h9,bp,cj⟩:=h;have qh:∀(i:Nat)(x:PV),xs[i]? =some x->(fj (x.aX.map (gX β))).aX=x.aX.map (gX β):=fun i x hi=>OW fun c hc=>by obtain⟨d,hd,rfl⟩:=KaF.1 hc;obtain⟨j,hj⟩:=KaB hd;exact(rY (cj i x hi j d hj)).1.aX
   refine⟨⟨h0,he,b,hb,cur,cap,h1,h2,h3,h4,h5,h6,h7,by simpa using h8,h9,fun i x hi=>?_,fun i x hi j y hy=>?_⟩,fun γ ah=>(by cases ah),fun ba ah=>?_⟩
   ·obtain⟨x0,bY,rfl⟩:=pF hi;rw[qh i x0 bY,Ka0];exact bp i x0 bY
   ·obtain⟨x0,bY,rfl⟩:=pF hi;rw[qh i x0 bY]at hy;obtain⟨y0,cU,rfl⟩:=pF hy;exact(rY (cj i x0 bY j y0 cU)).1
   ·rcases KaC.1 ah with rfl|ah
    ·exact aT
    ·obtain⟨x,hx,ah⟩:=Kap.1 ah;obtain⟨y,hy,ah⟩:=Kap.1 ah;obtain⟨i,hi⟩:=KaB hx;obtain⟨x0,bY,rfl⟩:=pF hi;rw[qh i x0 bY]at hy;obtain⟨j,hj⟩:=KaB hy;obtain⟨y0,cU,rfl⟩:=pF hj;exact(rY (cj i x0 bY j y0 cU)).2 ba ah
 | aK cs=>
  obtain⟨vs,rfl,h1,h2⟩:=h;refine⟨⟨vs,rfl,by simpa using h1,fun i x hi=>?_⟩,fun γ ah=>(by cases ah),fun γ ah=>?_⟩
  ·obtain⟨x0,bY,rfl⟩:=pF hi;exact(rY (h2 i x0 bY)).1
  ·obtain⟨x,hx,ah⟩:=Kap.1 ah;obtain⟨i,hi⟩:=KaB hx;obtain⟨x0,bY,rfl⟩:=pF hi;exact(rY (h2 i x0 bY)).2 γ ah
 | dV cs=>
  obtain⟨vs,rfl,h1,h2⟩:=h;refine⟨⟨vs,rfl,by simpa using h1,fun i x hi=>?_⟩,fun γ ah=>(by cases ah),fun γ ah=>?_⟩
  ·obtain⟨x0,bY,rfl⟩:=pF hi;exact(rY (h2 i x0 bY)).1
  ·obtain⟨x,hx,ah⟩:=Kap.1 ah;obtain⟨i,hi⟩:=KaB hx;obtain⟨x0,bY,rfl⟩:=pF hi;exact(rY (h2 i x0 bY)).2 γ ah
 | cO cs q=>
  obtain⟨vs,u,rfl,h1,h2,h3⟩:=h;refine⟨⟨vs,u,rfl,by simpa using h1,fun i x hi=>?_,h3⟩,fun γ ah=>(by cases ah),fun γ ah=>?_⟩
  ·obtain⟨x0,bY,rfl⟩:=pF hi;exact(rY (h2 i x0 bY)).1
  ·obtain⟨x,hx,ah⟩:=Kap.1 ah;obtain⟨i,hi⟩:=KaB hx;obtain⟨x0,bY,rfl⟩:=pF hi;exact(rY (h2 i x0 bY)).2 γ ah
 |aH γ o n=>
  simp only[cR];split
  ·exact⟨trivial,fun γ ah=>(by cases ah),fun γ ah=>by cases ah⟩
  ·rename_i aT;exact⟨h,fun γ ah=>(by cases ah),fun ba ah=>by simp[PV.aN]at ah;subst ah;exact aT⟩
 |np γ o n=>
  simp only[cR];split
  ·exact⟨trivial,fun γ ah=>(by cases ah),fun γ ah=>by cases ah⟩
  ·rename_i aT;exact⟨h,fun γ ah=>(by cases ah),fun ba ah=>by simp[PV.aN]at ah;subst ah;exact aT⟩
 | fn f first cap=>
  by_cases hc:(first.flatMap PV.dU++cap.flatMap PV.dU).contains β=true
  ·simp only[cR,hc,if_true];exact⟨trivial,fun γ ah=>(by cases ah),fun γ ah=>by cases ah⟩
  ·exact kill (by simp only[cR,hc];rfl) (fun γ ah e=>hc (by subst e;exact List.contains_iff_mem.2 ah))
 |_=>exact kill rfl (fun γ ah=>by cases ah)
end Go.FW
namespace Go.FW
open Go
variable {C : Ctx} {ρ : Nat -> Option Nat} {fr : Fr} {hp : HP} {w : World} {a : Act} {K : Qh}
theorem Mb{o:Oper}{s x:Operand}{t e:TypeId}{n by_:Nat}{z:PV}{px:PV}{ys:List PV}{e' d:Nat}{β:Nat}{aA:Fr}{Q:Exit->Act->World->Prop}
  (ho:o.op= .call { callee:=.builtin .append,args:= #[s,x],argTypes:= #[t,t] }) (hd:o.dst=some d) (aq:d<C.N) (aS:a.defers=[]) (h:Qr C ρ fr hp a.tmps w)
  (hu:C.P.underlying t=some (.slice e)) (hz:jK C.P e=some (n,by_,z)) (hx:Qm C ρ hp w px (a.eval x)) (pk:jj hp px=some (e',ys)) (h0:0<n) (jZ:z.cells.length=n) (ns:e'=n∨ys=[])
  (es:a.eval s= .slice none 0 0) (hb:ys.length*by_<=140737488355328) (hm:ys.length<=9223372036854775807)
  (qk:xS C ρ hp w β fr aA) (hB:aM β=false)
  (hK:K (ae aA d (.ms β ys.length)) (Ql hp β ⟨n,e,ys,false⟩)):o.wp C.P a w (cy C false w K) Q:=by
 obtain⟨ti,zv,i1,i2,i3,i4,i5⟩:=sn hz;obtain⟨ad,cap,ex,Be⟩:=Hw h hx pk h0 ns;by_cases qy:ys=[]
 ·subst qy;have bS:=NN (P:=C.P) (ty:=o.type) (ad:=ad) (c:=cap) hu i1 (base:=none) (n:=0) (cap:=0) (Kad 0) w;have hs:=h.yS (w':=w) β none ⟨n,e,[],false⟩ hB qk (Ext.refl _ _) (by simp) h0 (by simp) (by simp) (by simp);refine iA (tu ho es ex bS) (cy.kQ hd aq aS hs (by simp) ?_ hK);exact⟨⟨n,e,[],false⟩,by simp[Ql],by simp,.inl ⟨gh _ _ _,rfl,rfl,rfl⟩⟩
 ·obtain⟨b,off,f,rfl,hf,bK⟩:=Be qy;have jy:0<ys.length:=KbB.2 qy;have bS:=run_append_nil (P:=C.P) w t o.type e ti zv hu i1 i2 ⟨b,off,none⟩ ys.length cap (fi f (ys.length*n)) (by rw[wS,i3])
   (fun j v hj=>by obtain⟨dj,rfl⟩:=zo hj;rw[KbM];exact hf j dj) jy (by omega) (by rw[i4];omega)
  have iM:=grownCap_ge w ys.length 0 e;have jc:=grownCap_le_maxLen w ys.length 0 e (by rw[lK];exact hm);generalize grownCap w ys.length 0 e=G at bS iM jc;have tk:zv.cells.size=n:=by have:=(rV (w:=w) (X:=aE C ρ hp) i5).cells.1;omega
  obtain⟨hs,jv⟩:=h.wM β hB qk ⟨n,e,ys,false⟩ ((fi f (ys.length*n)).toArray++Builtin.zeroCells zv.cells (G-ys.length)) G _ (.inr rfl)
   (by simp[wS,size_zeroCells,tk,<-Nat.add_mul];congr 1;omega) iM jc h0 (fun i y hy=>⟨(bK i y hy).1,(bK i y hy).2.1⟩)
   (fun i y hy j z hz=>by
    have hi:i<ys.length:=(Kaf.1 hy).1;have hj:j<n:=by have:=(Kaf.1 hz).1;have:=(bK i y hy).1;omega
    obtain⟨q1,_⟩:=ve (n:=0) hi hj;show Qp w _ z (Array.getD _ (i*n+j) undef);rw[ko,if_pos (by simpa[wS]using q1)];have:=(bK i y hy).2.2 j z hz;rw[u7,CK q1];exact this)
  refine iA (tu ho es ex bS) (cy.kQ hd aq aS hs (by simp) ?_ hK);exact⟨⟨n,e,ys,false⟩,by simp[Ql],by simp,.inr ⟨w.heap.size,G,gh _ _ _,by simp,⟨_,e,mK w.drew _,by simp[wS,size_zeroCells,tk,<-Nat.add_mul];congr 1;omega⟩,by omega⟩⟩
theorem Mc{o:Oper}{s x:Operand}{t e:TypeId}{n by_:Nat}{z:PV}{px:PV}{ys:List PV}{e' d:Nat}{β m:Nat}{hb:HB}{aA:Fr}{Q:Exit->Act->World->Prop}
  (ho:o.op= .call { callee:=.builtin .append,args:= #[s,x],argTypes:= #[t,t] }) (hd:o.dst=some d) (aq:d<C.N) (aS:a.defers=[]) (h:Qr C ρ fr hp a.tmps w)
  (hu:C.P.underlying t=some (.slice e)) (hz:jK C.P e=some (n,by_,z)) (hx:Qm C ρ hp w px (a.eval x)) (pk:jj hp px=some (e',ys)) (h0:0<n) (jZ:z.cells.length=n) (ns:e'=n∨ys=[])
  (hs:Qm C ρ hp w (.ms β m) (a.eval s)) (qk:xS C ρ hp w β fr aA) (hB:aM β=false) (aj:hp β=some hb) (mi:hb.fz=false) (hbe:hb.e=n) (jW:hb.ty=e) (uH:m<=hb.xs.length)
  (Ju:(m+ys.length)*by_<=140737488355328) (Bp:m+ys.length<=9223372036854775807)
  (hK:K (ae aA d (.ms β (m+ys.length))) (Ql hp β ⟨n,e,hb.xs.take m++ys,false⟩)):o.wp C.P a w (cy C false w K) Q:=by
 obtain⟨dN,g1,g2,g3⟩:=hs;rw[aj]at g1;cases g1;have pq:(hb.xs.take m).length=m:=by simp;omega
 rw[Ka9]at g2;rcases g3 with⟨g3,es,rfl,_⟩|⟨b,cap,g3,es,g5,g6⟩
 ·simp only[Ka9,Kcc,KaI]at hK Ju Bp;exact Mb ho hd aq aS h hu hz hx pk h0 jZ ns es Ju Bp qk hB hK
 rw[KbI]at es;rw[Ka9]at g5 g6;obtain⟨ti,zv,i1,i2,i3,i4,i5⟩:=sn hz;obtain⟨ad,BV,ex,Be⟩:=Hw h hx pk h0 ns;have bj:=h.own β hb aj;have aU:=bj.cD;rw[g3]at aU;obtain⟨b1,b2,cur,et,c1,c2,c3,c4,c5⟩:=aU;replace b1:=Ctx.uh b1 hB;obtain⟨cur',ty',d1,d2⟩:=g5;rw[c1]at d1;cases d1;obtain rfl:et=cap:=KbA bj.jV (by omega);subst jW;subst hbe;have Bi:aE C ρ hp b:=.inr ⟨β,hb,aj,mi,g3⟩;have yz:∀(i:Nat)(x:PV),(hb.xs.take m++ys)[i]? =some x->(i<m/\hb.xs[i]? =some x)∨(m<=i/\ys[i-m]? =some x):=by
  intro i x aP;rw[Ka3,pq]at aP;by_cases hi:i<m
  ·rw[if_pos hi,KaH hi]at aP;exact .inl ⟨hi,aP⟩
  ·rw[if_neg hi]at aP;exact .inr ⟨by omega,aP⟩
 by_cases qy:ys=[]
 ·subst qy;have bS:=NN (P:=C.P) (ty:=o.type) (ad:=ad) (c:=BV) hu i1 (base:=some ⟨b,0,none⟩) (n:=m) (cap:=et) (by omega) w;have hr:=h.yS (w':=w) β (some b) ⟨hb.e,hb.ty,hb.xs.take m++[],false⟩ hB qk (Ext.refl _ _) (fun c hc=>by cases hc;exact⟨b1,b2,.inr ⟨g3,hb,aj,mi⟩⟩) bj.jV
   (fun i x aP=>by
    rcases yz i x aP with⟨_,hq⟩|⟨_,hq⟩
    ·exact bj.len i x hq
    ·simp at hq) (by simp)
   (fun c hc=>by
    cases hc;refine⟨cur,et,c1,c2,by simp;omega,c4,fun i x aP j y hy=>?_⟩;rcases yz i x aP with⟨_,hq⟩|⟨_,hq⟩
    ·exact c5 i x hq j y hy
    ·simp at hq)
  refine iA (tu ho es ex bS) (cy.kQ hd aq aS hr (by simp) ?_ hK);exact⟨⟨hb.e,hb.ty,hb.xs.take m++[],false⟩,by simp[Ql],by simp;omega,.inr ⟨b,et,gh _ _ _,by simp,⟨cur,hb.ty,c1,by rw[Ka9];exact c2⟩,by omega⟩⟩
 obtain⟨sb,off,f,rfl,hf,bK⟩:=Be qy;have jy:0<ys.length:=KbB.2 qy;have yA:∀(j:Nat)(v:Value),(fi f (ys.length*hb.e))[j]? =some v->w.cell? ((⟨sb,off,none⟩:Addr).add j)=some v:=fun j v hj=>by obtain⟨dj,rfl⟩:=zo hj;rw[KbM];exact hf j dj
 have wm:∀u∈fi f (ys.length*hb.e),u.oneCell'=true:=by
  intro u mA;obtain⟨k,hk⟩:=KaB mA;obtain⟨cP,rfl⟩:=zo hk;have hi:k/hb.e<ys.length:=(Kbf h0).2 cP;have hj:=Kbs k h0;obtain⟨l1,l2,l3⟩:=bK _ _ (Kag hi);have qm:k%hb.e<(ys[k/hb.e]'hi).cells.length:=by omega
  have:=l3 _ _ (Kag qm);rw[KaQ,Kbl]at this;exact this.rS.1
 have mo:=wS f (ys.length*hb.e);have uG:m*hb.e+(fi f (ys.length*hb.e)).length=(m+ys.length)*hb.e:=by rw[mo,KaG]
 by_cases yG:m+ys.length<=et
 ·have o6:m*hb.e+(fi f (ys.length*hb.e)).length<=cur.size:=by rw[uG,c2];exact Kal _ yG
  have bS:=run_append_room (P:=C.P) w t o.type hb.ty ti hu i1 b m et cur c1 ⟨sb,off,none⟩ ys.length BV (fi f (ys.length*hb.e)) (by rw[mo,i3]) yA wm yG (by rw[i3];exact o6);rw[i3]at bS;have kH:=zj (cur:=cur) (p:=m*hb.e) (cs:=fi f (ys.length*hb.e)) o6;have gw:=fun k hk=>zg (cur:=cur) (p:=m*hb.e) (cs:=fi f (ys.length*hb.e)) (k:=k) o6 hk;generalize hW:(cur.toList.take (m*hb.e)++fi f (ys.length*hb.e)++cur.toList.drop (m*hb.e+(fi f (ys.length*hb.e)).length)).toArray=W at bS kH gw;have hr:=h.yS (w':=w.setRow b W) β (some b) ⟨hb.e,hb.ty,hb.xs.take m++ys,false⟩ hB qk ((zn w b W).mono (fun i _ hi=>⟨hi▸g3,hb,aj,mi⟩))
   (fun c hc=>by cases hc;exact⟨b1,by simpa using b2,.inr ⟨g3,hb,aj,mi⟩⟩) bj.jV
   (fun i x aP=>by
    rcases yz i x aP with⟨_,hq⟩|⟨_,hq⟩
    ·exact bj.len i x hq
    ·exact⟨(bK _ x hq).1,(bK _ x hq).2.1⟩) (by simp)
   (fun c hc=>by
    cases hc;refine⟨W,et,setRow_heap w b cur W hb.ty _ c1,by rw[kH];exact c2,by simp;omega,c4,fun i x aP j y hy=>?_⟩;show Qp w _ y (Array.getD W (i*hb.e+j) undef);rcases yz i x aP with⟨hi,hq⟩|⟨hi,hq⟩
    ·have hj:j<hb.e:=by have:=(Kaf.1 hy).1;have:=(bj.len i x hq).1;omega
     have q1:=(ve (n:=0) hi hj).1;have q2:m*hb.e<=et*hb.e:=Kal _ (by omega);rw[gw _ (by omega),if_neg (by omega)];exact c5 i x hq j y hy
    ·have nu:i-m<ys.length:=(Kaf.1 hq).1;have hj:j<hb.e:=by have:=(Kaf.1 hy).1;have:=(bK _ x hq).1;omega
     obtain⟨q1,q2⟩:=ve (n:=m) nu hj;rw[show m+(i-m)=i by omega]at q2;rw[gw _ (by omega),if_pos (by omega),q2,show m*hb.e+((i-m)*hb.e+j)-m*hb.e=(i-m)*hb.e+j by omega,CK q1];exact(bK _ x hq).2.2 j y hy)
  refine iA (tu ho es ex bS) (cy.kQ hd aq aS hr (by simp) ?_ hK);exact⟨⟨hb.e,hb.ty,hb.xs.take m++ys,false⟩,by simp[Ql],by simp;omega,.inr ⟨b,et,gh _ _ _,by simp,⟨W,hb.ty,setRow_heap w b cur W hb.ty _ c1,by rw[kH,Ka9];exact c2⟩,by omega⟩⟩
 ·have aq0:m*hb.e<=cur.size:=by rw[c2];exact Kal _ (by omega)
  have fq:(cur.toList.take (m*hb.e)).length=m*hb.e:=by simp;omega
  have holds:∀(j:Nat)(v:Value),(cur.toList.take (m*hb.e))[j]? =some v->w.cell? ((⟨b,0,none⟩:Addr).add j)=some v:=fun j v hj=>by
   have dj:j<m*hb.e:=by have:=(Kaf.1 hj).1;omega
   rw[KaH dj]at hj;rw[KbM,Ka9,kR c1 (by omega),CE cur j v hj]
  have bS:=run_append_grow (P:=C.P) w t o.type hb.ty ti zv hu i1 i2 ⟨b,0,none⟩ m et (cur.toList.take (m*hb.e)) (by rw[fq,i3]) holds ⟨sb,off,none⟩ ys.length BV (fi f (ys.length*hb.e)) (by rw[mo,i3]) yA
   (by omega) (by omega) (growslice_fits (by omega) (by rw[i4];exact Ju))
  have iM:=grownCap_ge w (m+ys.length) et hb.ty;have jc:=grownCap_le_maxLen w (m+ys.length) et hb.ty (by rw[lK];exact Bp);generalize grownCap w (m+ys.length) et hb.ty=G at bS iM jc;have tk:zv.cells.size=hb.e:=by have:=(rV (w:=w) (X:=aE C ρ hp) i5).cells.1;omega
  have jd:((cur.toList.take (m*hb.e)).toArray++(fi f (ys.length*hb.e)).toArray++Builtin.zeroCells zv.cells (G-(m+ys.length))).size=G*hb.e:=by simp only[Kcd,KbT,fq,mo,size_zeroCells,tk,<-Nat.add_mul];congr 1;omega
  obtain⟨hr,jv⟩:=h.wM β hB qk ⟨hb.e,hb.ty,hb.xs.take m++ys,false⟩ _ G _ (.inr rfl) jd (by simp;omega) jc bj.jV
   (fun i x aP=>by
    rcases yz i x aP with⟨_,hq⟩|⟨_,hq⟩
    ·exact bj.len i x hq
    ·exact⟨(bK _ x hq).1,(bK _ x hq).2.1⟩)
   (fun i x aP j y hy=>by
    show Qp w _ y (Array.getD _ (i*hb.e+j) undef);rcases yz i x aP with⟨hi,hq⟩|⟨hi,hq⟩
    ·have hj:j<hb.e:=by have:=(Kaf.1 hy).1;have:=(bj.len i x hq).1;omega
     have q1:=(ve (n:=0) hi hj).1;rw[ko,if_pos (by simp only[Kcd,KbT,fq];omega),ko,if_pos (by simp only[KbT,fq];omega),u7,
      Kae,KaH q1]
     have:=c5 i x hq j y hy;simpa[KaN]using this
    ·have nu:i-m<ys.length:=(Kaf.1 hq).1;have hj:j<hb.e:=by have:=(Kaf.1 hy).1;have:=(bK _ x hq).1;omega
     obtain⟨q1,q2⟩:=ve (n:=m) nu hj;rw[show m+(i-m)=i by omega]at q2;rw[q2,ko,if_pos (by simp only[Kcd,KbT,fq,mo];omega),ko,if_neg (by simp only[KbT,fq];omega),u7];simp only[KbT,fq];rw[show m*hb.e+((i-m)*hb.e+j)-m*hb.e=(i-m)*hb.e+j by omega,CK q1];exact(bK _ x hq).2.2 j y hy)
  refine iA (tu ho es ex bS) (cy.kQ hd aq aS hr (by simp) ?_ hK);exact⟨⟨hb.e,hb.ty,hb.xs.take m++ys,false⟩,by simp[Ql],by simp;omega,.inr ⟨w.heap.size,G,gh _ _ _,by simp,⟨_,hb.ty,mK w.drew _,by rw[Ka9];exact jd⟩,by omega⟩⟩
theorem XD{o:Oper}{s x:Operand}{t e:TypeId}{n by_:Nat}{z:PV}{ps px:PV}{d:Nat}{Q:Exit->Act->World->Prop}
  (ho:o.op= .call { callee:=.builtin .append,args:= #[s,x],argTypes:= #[t,t] }) (hd:o.dst=some d) (aq:d<C.N) (aS:a.defers=[]) (h:Qr C ρ fr hp a.tmps w)
  (hu:C.P.underlying t=some (.slice e)) (hz:jK C.P e=some (n,by_,z)) (jZ:z.cells.length=n) (hs:Qm C ρ hp w ps (a.eval s)) (hx:Qm C ρ hp w px (a.eval x))
  (aoF:jj hp px=none->xQ n by_ e ps px d fr hp K->o.wp C.P a w (cy C false w K) Q) (hv:iF n by_ e ps px d fr hp K):o.wp C.P a w (cy C false w K) Q:=by
 unfold iF at hv;split at hv
 ·exact aoF (by assumption) hv
 ·rename_i e' ys pk;obtain⟨h0,ns,hv⟩:=hv;cases ps with
  |aa=>obtain⟨k1,k2,hK⟩:=hv;exact Mb (β:=d) ho hd aq aS h hu hz hx pk h0 jZ ns hs.wN k1 k2 (C6 (xT aq)) (xB (xT aq)) hK
  | au β o' m=>
   cases o' with
   |succ o'=>exact hv.elim
   |zero=>
   simp only at hv;split at hv
   ·rename_i hb aj;rcases hv with⟨k0,k1,k2,k3,k4,k5,k6,hK⟩|⟨k0,kY,⟨_,k1,k2,k3,k4,k5,k6⟩,hK⟩
    ·exact Mc ho hd aq aS h hu hz hx pk h0 jZ ns hs (C6 k0) (xB k0) aj k1 k2 k3 k4 k5 k6 hK
    ·exact Mc ho hd aq aS h hu hz hx pk h0 jZ ns hs xb kY aj k1 k2 k3 k4 k5 k6 hK
   ·exact hv.elim
  |_=>exact hv.elim
theorem Qz1{P:Program}{t ty e:TypeId}{n:Nat}(ht:P.underlying t=some (.slice e))(hn:dR P e=some n){base ad:Option Addr}{dl dc sl sc:Nat}(hz:Nat.min sl dl=0)(w:World):
  (Builtin.copy_ #[t,t] ty #[.slice base dl dc,.slice ad sl sc]).run P w= .ok (goInt 0) w:=by
 have hs:=kU hn;cases ad<;>cases base<;>simp[Builtin.copy_,run_underlying ht,hs,Builtin.lenOf,Builtin.firstCells,hz,storeCells,loadCells,loadCellsFrom]
theorem Of{P:Program}{o:Oper}{s x:Operand}{t:TypeId}(ho:o.op= .call { callee:=.builtin .copy,args:= #[s,x],argTypes:= #[t,t] }){vs vx v:Value}{w w':World}(es:a.eval s=vs)(ex:a.eval x=vx)
  (hr:(Builtin.copy_ #[t,t] o.type #[vs,vx]).run P w= .ok v w'):(execOp a.eval o).run P w= .ok (.value v) w':=by
 unfold execOp;simp only[ho,resolve,Kao,KaX,Kak,invoke,builtin];simp[es,ex,hr]
theorem Qz2{P:Program}(w:World)(t ty elem:TypeId)(g o I2 am0 n:Nat)(a:Addr)(KL ap2:Nat)(cur:Array Value)(ty':TypeId)(cs:List Value)
  (hu:P.underlying t=some (.slice elem)) (hs:dR P elem=some n)
  (hg:w.heap[g]? =some (.cells cur ty' (0,0))) (hn:cs.length=Nat.min KL I2*n)
  (pk:∀j v,cs[j]? =some v->w.cell? (a.add j)=some v) (o6:o+cs.length<=cur.size) (h1:∀v∈cs,v.oneCell'=true):
  (Builtin.copy_ #[t,t] ty #[.slice (some ⟨g,o,none⟩) I2 am0,.slice (some a) KL ap2]).run P w=
   .ok (goInt (Nat.min KL I2)) (w.setRow g (cur.toList.take o++cs++cur.toList.drop (o+cs.length)).toArray):=by
 have hl:=run_loadCells_list (P:=P) w a cs pk;have aL:=run_storeCells_at P g o ty' cs 0 cur w hg (by simpa using o6) h1;have hz:=kU hs;simp[Builtin.copy_,run_underlying hu,hz,Builtin.lenOf,Builtin.firstCells,<-hn,hl,aL]
theorem XE{o:Oper}{s x:Operand}{t e:TypeId}{n:Nat}{ps px:PV}{d:Nat}{Q:Exit->Act->World->Prop}
  (ho:o.op= .call { callee:=.builtin .copy,args:= #[s,x],argTypes:= #[t,t] }) (hd:o.dst=some d) (aq:d<C.N) (aS:a.defers=[]) (h:Qr C ρ fr hp a.tmps w)
  (hu:C.P.underlying t=some (.slice e)) (hn:dR C.P e=some n) (hs:Qm C ρ hp w ps (a.eval s)) (hx:Qm C ρ hp w px (a.eval x))
  (hv:tT n ps px d fr hp K):o.wp C.P a w (cy C false w K) Q:=by
 unfold tT at hv;split at hv
 ·rename_i e' ys β m pk;split at hv
  ·rename_i hb aj;obtain⟨k0,k1,k2,k3,k4,hK⟩:=hv;obtain⟨dN,g1,g2,g3⟩:=hs;rw[aj]at g1;cases g1;obtain⟨ad,BV,ex,Be⟩:=Hw (e:=n) h hx pk k0 k3;have bj:=h.own β hb aj;have zero:Nat.min ys.length m=0->o.wp C.P a w (cy C false w K) Q:=by
    intro h0;have bS:∀base cap,a.eval s= .slice base m cap->(execOp a.eval o).run C.P w= .ok (.value (goInt 0)) w:=fun base cap es=>
     Of ho es ex (Qz1 (P:=C.P) (ty:=o.type) hu hn h0 w)
    have e2:({ hb with xs:=ys.take m++hb.xs.drop ys.length }:HB)=hb:=by
     have:ys.take m++hb.xs.drop ys.length=hb.xs:=by
      rcases Nat.min_eq_zero_iff.1 h0 with hq|hq
      ·have:ys=[]:=Kb9 hq;subst this;simp
      ·have:hb.xs=[]:=Kb9 (by omega);subst hq;simp[this]
     rw[this]
    have e3:Ql hp β hb=hp:=by
     funext γ;unfold Ql;split
     ·rename_i he;rw[he,aj]
     ·rfl
    rw[e2,e3,show(min (ys.length:Int) (m:Int))=0 by have:min ys.length m=0:=h0;omega]at hK;obtain⟨ad',et,es⟩:=Qm.Kz (C:=C) (ρ:=ρ) (hp:=hp) (w:=w) ⟨hb,aj,g2,g3⟩;exact iA (bS _ _ es) (cy.kQ hd aq aS h (by simp) (Qm.mkInt _ _) hK)
   by_cases Bq:Nat.min ys.length m=0
   ·exact zero Bq
   rcases g3 with⟨g3,es,wc,_⟩|⟨b,cap,g3,es,g5,g6⟩
   ·exact(Bq (by rw[wc];simp)).elim
   rw[KbI]at es;have qy:ys≠[]:=by rintro rfl;exact Bq (by simp)
   obtain⟨sb,off,f,rfl,hf,bK⟩:=Be qy;have aU:=bj.cD;rw[g3]at aU;obtain⟨b1,b2,cur,et,c1,c2,c3,c4,c5⟩:=aU;obtain⟨k,hk⟩:∃k,k=min ys.length m:=⟨_,rfl⟩
   have mo:=wS f (k*n);have v9:k*n<=ys.length*n:=Kal _ (by omega);have wm:∀u∈fi f (k*n),u.oneCell'=true:=by
    intro u mA;obtain⟨q,hq⟩:=KaB mA;obtain⟨jz,rfl⟩:=zo hq;have hi:q/n<ys.length:=(Kbf k0).2 (by omega);have hj:=Kbs q k0;obtain⟨l1,l2,l3⟩:=bK _ _ (Kag hi);have qm:q%n<(ys[q/n]'hi).cells.length:=by omega
    have:=l3 _ _ (Kag qm);rw[KaQ,Kbl]at this;exact this.rS.1
   have hkc:k*n<=et*n:=Kal _ (by omega);have o6:0+(fi f (k*n)).length<=cur.size:=by rw[mo,c2,k2];omega
   have bS:=Qz2 (P:=C.P) w t o.type e b 0 m cap n ⟨sb,off,none⟩ ys.length BV cur hb.ty (fi f (k*n)) hu hn c1 (by rw[mo,hk])
    (fun j v hj=>by obtain⟨dj,rfl⟩:=zo hj;rw[KbM];exact hf j (by omega)) o6 wm
   have kH:=zj (cur:=cur) (p:=0) (cs:=fi f (k*n)) o6;have gw:=fun q hq=>zg (cur:=cur) (p:=0) (cs:=fi f (k*n)) (k:=q) o6 hq;generalize hW:(cur.toList.take 0++fi f (k*n)++cur.toList.drop (0+(fi f (k*n)).length)).toArray=W at bS kH gw;have eM:(ys.take m++hb.xs.drop ys.length).length=hb.xs.length:=by simp;omega
   have ew:∀(i:Nat)(x:PV),(ys.take m++hb.xs.drop ys.length)[i]? =some x->(i<k/\ys[i]? =some x)∨(k<=i/\hb.xs[i]? =some x):=by
    intro i x aP;rw[Ka3]at aP;have ht:(ys.take m).length=k:=by simp;omega
    rw[ht]at aP;by_cases hi:i<k
    ·rw[if_pos hi,KaH (by omega)]at aP;exact .inl ⟨hi,aP⟩
    ·rw[if_neg hi,Ka5]at aP;refine .inr ⟨by omega,?_⟩;have fI:ys.length+(i-k)<hb.xs.length:=(Kaf.1 aP).1
     rwa[show ys.length+(i-k)=i by omega]at aP
   have aL:=h.store β b hb { hb with xs:=ys.take m++hb.xs.drop ys.length } aj k1 (by intro e;rw[e]at k4;simp at k4;exact Bq (by simp[k4])) g3 (zn w b W) rfl eM k1
    (fun i x aP=>by
     rcases ew i x aP with⟨_,hq⟩|⟨_,hq⟩
     ·exact⟨by rw[(bK _ x hq).1];exact k2.symm,(bK _ x hq).2.1⟩
     ·exact bj.len i x hq)
    (fun e' AN dw=>by obtain⟨cur',ty',d1,d2⟩:=dw;rw[c1]at d1;cases d1;exact⟨_,_,setRow_heap w b cur _ hb.ty _ c1,by rw[kH];exact d2⟩)
    ⟨W,et,setRow_heap w b cur W hb.ty _ c1,by rw[kH];exact c2,by rw[eM];exact c3,c4,fun i x aP j y hy=>by
     show Qp w _ y (Array.getD W (i*hb.e+j) undef);rcases ew i x aP with⟨hi,hq⟩|⟨hi,hq⟩
     ·have hj:j<n:=by have:=(Kaf.1 hy).1;have:=(bK _ x hq).1;omega
      have q1:=(ve (n:=0) hi hj).1;rw[k2,gw _ (by rw[c2,k2];omega),if_pos (by omega),Kci,CK q1];exact(bK _ x hq).2.2 j y hy
     ·have fI:i<hb.xs.length:=(Kaf.1 hq).1;have hj:j<hb.e:=by have:=(Kaf.1 hy).1;have:=(bj.len i x hq).1;omega
      have:=c5 i x hq j y hy;have q2:k*n<=i*n:=Kal _ hi;have q3:=(ve (n:=0) (show i<et by omega) (show j<n by omega)).1;rw[gw _ (by rw[c2,k2];omega),if_neg (by rw[k2];omega)];exact this⟩
   rw[show(min (ys.length:Int) (m:Int))=((Nat.min ys.length m:Nat):Int)by have:Nat.min ys.length m=min ys.length m:=rfl;omega]at hK;exact iA (Of ho es ex bS) (cy.kQ hd aq aS aL (by simp) (Qm.mkInt _ _) hK)
  ·exact hv.elim
 ·exact hv.elim
theorem Wc{o:Oper}{t:TypeId}{parts:Array (Nat×Operand)}{z:PV}{n by_:Nat}{ps:List (Nat×Nat×aI)}{d:Nat}(ho:o.op= .build t parts)(hd:o.dst=some d)(aq:d<C.N)(h:Qr C ρ fr hp a.tmps w)
  (hz:jK C.P t=some (n,by_,z)) (fu:Al C.P t parts.toList=some ps)
  (hv:tF z.cells.length (ps.map fun p=>(p.1,p.2.1,ev fr p.2.2))/\K (ae fr d (.aK (gE z.cells ((ps.map fun p=>(p.1,p.2.1,ev fr p.2.2)).map fun p=>(p.1,(eP p.2.2).getD []))))) hp):Qv C ρ o a w K:=by
 obtain⟨aO,hK⟩:=hv;obtain⟨ti,zv,i1,i2,i3,i4,i5⟩:=sn hz;have Kn:pP (cz C ρ hp w) z.cells zv.cells:=by have h0:Rows w (aE C ρ hp) z.cells zv.cells:=(rV i5).rows;exact⟨h0.1,fun i x hx=>cz.TP (h0.2 i x hx)⟩
 have lv:(parts.map fun(x:Nat×Operand)=>(x.1,a.eval x.2)).toList=parts.toList.map fun x=>(x.1,a.eval x.2):=by simp
 have key:∀(f:Nat×Operand->Option (Nat×Nat×aI))(place:Nat->Option (Nat×Nat)),parts.toList.mapM f=some ps->(∀x q,f x=some q->place x.1=some (q.1,q.2.1)/\bJ x.2=some q.2.2)->
   ∃dD,Instr.fill place zv.cells (parts.map fun(x:Nat×Operand)=>(x.1,a.eval x.2)).toList=some dD/\
    pP (cz C ρ hp w) (gE z.cells ((ps.map fun p=>(p.1,p.2.1,ev fr p.2.2)).map fun p=>(p.1,(eP p.2.2).getD []))) dD:=by
  intro f place hm hf;rw[lv];refine CT place _ _ _ _ Kn (by simp[(lJ hm).1]) (fun i p q yD uK=>?_);simp only[List.map_map,Kat,Kaa]at uK;obtain⟨q0,kG,rfl⟩:=uK;obtain⟨x,hx,om,rfl⟩:=P0 hm yD kG;obtain⟨f1,f2⟩:=hf x q0 om;obtain⟨cs,o1,o2,o3⟩:=aO (q0.1,q0.2.1,ev fr q0.2.2) (KaF.2 ⟨q0,Kaj kG,rfl⟩);simp only[Function.comp]at o1 o2 o3⊢;simp only[o1,Kbd];obtain⟨r1,r2,_⟩:=Ma (cn h f2) o1;exact⟨by rw[o2];exact f1,⟨r1,r2⟩,by rw[o2];exact o3⟩
 have fin:∀dD,(∀w',(Instr.build t (parts.map fun(x:Nat×Operand)=>(x.1,a.eval x.2))).run C.P w'= .ok (.agg dD) w')->
   pP (cz C ρ hp w) (gE z.cells ((ps.map fun p=>(p.1,p.2.1,ev fr p.2.2)).map fun p=>(p.1,(eP p.2.2).getD []))) dD->Qv C ρ o a w K:=by
  intro dD bS hr;refine⟨.agg dD,fun w'=>?_,_,_,by rw[hd];exact h.ae (p:=.aK _) ⟨dD,rfl,hr.1,hr.2⟩ aq,hK⟩;unfold execOp;simp only[ho,Kao];have:=bS w';rw[show(parts.map fun(x:Nat×Operand)=>(x.1,a.eval x.2))=(parts.map fun x=>match x with|(i,x)=>(i,a.eval x))from rfl]at this;rw[this];rfl
 unfold Al at fu;split at fu
 ·rename_i fs hu;simp only[Kab]at fu;obtain⟨pl,df,hm⟩:=fu;obtain⟨dD,g1,g2⟩:=key _ (fun i=>pl[i]?) hm (fun x q hq=>by simp only[Kab,Kaa]at hq;obtain⟨r,hr,y,hy,rfl⟩:=hq;exact⟨by simpa using hr,hy⟩);refine fin dD (fun w'=>?_) g2;unfold Instr.build;have ft:=run_places (P:=C.P) w' fs.toList pl df;simp[Kao,u5 i1 i2,Q9 hu,Kbr,ft]at g1⊢;simp[g1]
 ·rename_i len e hu;simp only[Kab]at fu;obtain⟨m,wc,hm⟩:=fu;obtain⟨dD,g1,g2⟩:=key _ (fun i=>some (i*m,m)) hm (fun x q hq=>by simp only[Kaa]at hq;obtain⟨y,hy,rfl⟩:=hq;exact⟨rfl,hy⟩);refine fin dD (fun w'=>?_) g2;unfold Instr.build;simp only[Kao,u5 i1 i2,Q9 hu,kU wc,Kak,g1,KaX]
 ·simp at fu
end Go.FW
namespace Go.FW
open Go
variable {C : Ctx} {ρ : Nat -> Option Nat} {fr : Fr} {hp : HP} {tmps : Array Value} {w : World} {a : Act} {K : Qh}
theorem He{x:PV}(h:lN x=true):∃β n,x= .au β 0 n/\5000000<=β:=by
 unfold lN at h;split at h
 ·exact⟨_,_,rfl,by simpa using h⟩
 ·cases h
theorem P1{γ:Nat}:iE γ (e9 γ fr)=e9 γ fr:=by
 funext i;unfold iE e9;generalize fr i=p;cases p with
 |aF ba e ty xs=>
  simp only[cR];split
  ·rfl
  ·rename_i aT;simp[iQ,aT]
 |aH ba o n=>simp only[cR];split<;>rfl
 |np ba o n=>simp only[cR];split<;>rfl
 |fn f first cap=>
  simp only[cR];split
  ·rfl
  ·unfold bx;split<;>rfl
 |aK cs=>rfl
 |dV cs=>rfl
 |cO cs q=>rfl
 |_=>simp only[cR,bx];split<;>rfl
theorem xk{γ β o n:Nat}{b':Option Nat}{ax:HB}{w':World}{v:Value}(h:Qr C ρ fr hp tmps w)(hx:Ext (fun b=>ρ γ=some b/\∃hb,hp γ=some hb/\hb.fz=false) w w')(aT:β≠γ)
  (hr:eh ρ hp w β o n v):eh (rb ρ γ b') (Ql hp γ ax) w' β o n v:=
 eh.move hr ⟨oR aT,fun hb aj=>⟨hb,by simp[Ql,aT,aj],rfl,Kad _,fun b cap h1 h2=>
  kT (hx.block b (kV h2) (fun⟨e1,lu,e2,_⟩=>aT (h.inj β γ b (by simp[aj]) (by simp[e2]) h1 e1))) h2⟩⟩
theorem eh.slice{β o n:Nat}{v:Value}(h:eh ρ hp w β o n v):∃ad m c,v= .slice ad m c:=by
 obtain⟨_,_,_,⟨_,e,_⟩|⟨_,_,_,e,_⟩⟩:=h
 ·exact⟨_,_,_,e⟩
 ·exact⟨_,_,_,e⟩
theorem El{β:Nat}(h:1000000<=β):bB β=true:=by simp[bB];omega
theorem Io{β:Nat}(h:2000000<=β):aM β=false:=by simp[aM];omega
theorem Qr.FX{γ b ty cap:Nat}{cur:Array Value}{xs:List PV}(h:Qr C ρ (e9 γ fr) hp tmps w)(hB:bB γ=true)(ah:hp γ=some ⟨1,ty,[],false⟩)(bl:ρ γ=some b)
  (h1:w.heap[b]? =some (.cells cur ty (0,0))) (h2:cur.size=cap) (h3:xs.length<=cap) (h4:cap<=maxLen) (hr:xs.all lN=true)
  (h6:∀(i β n:Nat),xs[i]? =some (.au β 0 n)->eh ρ hp w β 0 n (cur.getD i undef)):Qr C ρ (FW.ae (e9 γ fr) γ (.aF γ 1 ty xs)) hp tmps w:=by
 have rM:∀(i:Nat)(x:PV),xs[i]? =some x->∃β n,x= .au β 0 n/\5000000<=β:=fun i x hx=>He (Kaq.1 hr _ (Kaj hx));have:=h.KB (w':=w) (γ:=γ) (b:=b) (e:=1) (ty:=ty) (xs':=xs) (cur':=cur) (cap:=cap) hB (by omega) ah rfl rfl rfl rfl bl (Ext.refl _ _) (fun _ _ h=>h) h1 (by omega) h3 h4
  (fun i x hx=>by obtain⟨β,n,rfl,_⟩:=rM i x hx;rfl)
  (fun i x hx j y hy=>by
   obtain⟨β,n,rfl,aj⟩:=rM i x hx;rw[show(PV.au β 0 n).aX=[.au β 0 n]from rfl]at hy;have hj:j<1:=by have:=(Kaf.1 hy).1;simpa using this
   obtain rfl:j=0:=by omega
   simp at hy;subst hy;rw[KbL,KaO];exact⟨El (by omega),h6 i β n hx⟩)
 rwa[P1]at this
theorem Em{γ k cap:Nat}{ρ':Nat->Option Nat}{hp':HP}{b ty:Nat}{cur:Array Value}(hB:bB γ=true)(h1:hp' γ=some ⟨1,ty,[],false⟩)(h2:ρ' γ=some b)(h3:w.heap[b]? =some (.cells cur ty (0,0)))(h4:cur.size=cap)(h5:cap<=maxLen)(h6:k<=cap):
  Qm C ρ' hp' w (.aH γ 0 k) (.slice (some ⟨b,0,none⟩) k cap):=
 ⟨hB,⟨1,ty,[],false⟩,b,cap,h1,h2,by simp,⟨cur,ty,h3,by simp[h4]⟩,by omega,h6⟩
theorem XF{o:Oper}{t e:TypeId}{len n by_:Nat}{z:PV}{parts:Array (Nat×Operand)}{ps:List aI}{d:Nat}{Q:Exit->Act->World->Prop}(ho:o.op= .buildSlice t len parts)(hd:o.dst=some d)(aq:d<C.N)(aS:a.defers=[])(h:Qr C ρ fr hp a.tmps w)
  (hu:C.P.underlying t=some (.slice e)) (hz:jK C.P e=some (n,by_,z)) (td:parts.toList.map (·.1)=List.range len) (jZ:z.cells.length=n) (fu:(parts.toList.mapM fun p=>bJ p.2)=some ps)
  (mh:mX (ps.map (ev fr))=true) (hv:Rm n e (ps.map (ev fr)) d fr hp K):o.wp C.P a w (cy C true w K) Q:=by
 obtain⟨rfl,hK⟩:=hv;obtain⟨ti,zv,i1,i2,i3,i4,i5⟩:=sn hz;obtain⟨m1,m2⟩:=lJ fu;obtain⟨u,rfl⟩:∃u,ps=[u]:=by
  match ps,mh with
  | [],hb=>simp[mX]at hb
  | [u],_=>exact⟨u,rfl⟩
  |u::v::ps,hb=>simp[mX]at hb
 have rM:lN (ev fr u)=true:=by simpa[mX]using mh
 obtain⟨β,m,lv,aj⟩:=He rM;obtain⟨⟨i,x⟩,wo⟩:∃p,parts.toList=[p]:=by
  match hq:parts.toList with
  | []=>rw[hq]at m1;simp at m1
  | [p]=>exact⟨p,rfl⟩
  |p::q::r=>rw[hq]at m1;simp at m1
 rw[wo]at td m2;obtain rfl:len=1:=by have:=congrArg List.length td;simpa using this.symm
 obtain rfl:i=0:=by simpa using td
 have hxu:bJ x=some u:=by obtain⟨x',aP,JZ⟩:=m2 0 u rfl;simp at aP;subst aP;exact JZ
 have hx:=cn h hxu;rw[lv]at hx;have uM:eh ρ hp w β 0 m (a.eval x):=hx;obtain⟨ad,m',c',hvx⟩:=uM.slice;have hN:=C.hN;have qi:cQ d<5000000:=by unfold cQ;omega
 have hB:bB (cQ d)=true:=El (by unfold cQ;omega);have hY:aM (cQ d)=false:=Io (by unfold cQ;omega);obtain⟨hs,he⟩:=h.wM (cQ d) hY xb ⟨1,e,[],false⟩ #[a.eval x] 1 _ (.inl rfl) (by simp) (by simp) (by rw[lK];omega) (by simp) (by simp) (by simp);have cL:=hs.FX (cur:= #[a.eval x]) (cap:=1) (xs:=[.au β 0 m]) hB (by simp[Ql]) (gh _ _ _) (mK w _) (by simp) (by simp) (by rw[lK];omega) (by simp[lN,aj]) (fun i bA n' hi=>by
  match i,hi with
  |0,hi=>simp at hi;obtain⟨rfl,rfl⟩:=hi;exact xk h (Ext.alloc w _ _) (by omega) uM
  |i+1,hi=>simp at hi)
 rw[Kbe,Kby,lv]at hK;refine iA (v:=.slice (some ⟨w.heap.size,0,none⟩) 1 1) ?_ (cy.kQ hd aq aS cL (fun _=>he) (Em hB (by simp[Ql]) (gh _ _ _) (mK w _) (by simp) (by rw[lK];omega) (by omega)) hK);unfold execOp;have J7:(parts.map fun x=>match x with|(i,x)=>(i,a.eval x)).toList=[(0,a.eval x)]:=by simp[wo]
 simp only[ho,Instr.buildSlice,Kao,Q9 hu,Kak,kU (show dR C.P e=some 1 by simp[dR,i1,i3]),J7];simp[KaX,Kao,u5 i1 i2,Instr.fill,hvx,Value.cells,newRow,show Array.range 1= #[0]from rfl]
theorem Wd{o:Oper}{t:TypeId}{n:Nat}{x:Operand}{cs:List PV}{d:Nat}{Q:Exit->Act->World->Prop}(ho:o.op= .box t x)(hd:o.dst=some d)(aq:d<C.N)(aS:a.defers=[])(h:Qr C ρ fr hp a.tmps w)
  (hx:Qm C ρ hp w (.aK cs) (a.eval x)) (hv:tS n t cs d fr hp K):o.wp C.P a w (cy C true w K) Q:=by
 obtain⟨⟨hlen,hn,hU,oq⟩,hK⟩:=hv;obtain⟨vs,ex,eE,jd⟩:=hx;have hN:=C.hN;have hB:bB (cQ d)=true:=El (by unfold cQ;omega);have hY:aM (cQ d)=false:=Io (by unfold cQ;omega);obtain⟨hs,he⟩:=h.wM (cQ d) hY xb ⟨n,t,[],false⟩ vs 1 _ (.inl rfl) (by simp;omega) (by simp) (by rw[lK];omega) hn (by simp) (by simp);have bc:∀(i:Nat)(y:PV),cs[i]? =some y->cz C (rb ρ (cQ d) (some w.heap.size)) (Ql hp (cQ d) ⟨n,t,[],false⟩) (w.alloc (.cells vs t)) y (vs.getD i undef):=fun i y hi=>by
  have hm:=Kaj hi;have Ta:∀β∈y.dh,β≠cQ d:=fun β aj e=>by have:=Kaq.1 oq y hm;subst e;simp[aj]at this
  refine(jd i y hi).move ⟨fun b hb _=>CI w _ b hb,fun b hb hX=>?_,by rw[CJ];omega⟩ (fun β aj=>⟨oR (Ta β aj),fun hb hh=>⟨hb,by simp[Ql,Ta β aj,hh],rfl,Kad _,fun b cap _ hc=>kT (CI w _ b (kV hc)) hc⟩⟩);rintro(bY|⟨γ,hg,h1,h2,h3⟩)
  ·exact hX (.inl bY)
  ·by_cases ah:γ=cQ d
   ·subst ah;rw[gh]at h3;cases h3;omega
   ·refine hX (.inr ⟨γ,hg,?_,h2,by rwa[oR ah]at h3⟩);simpa[Ql,ah]using h1
 have:=hs.KB (w':=w.alloc (.cells vs t)) (γ:=cQ d) (b:=w.heap.size) (e:=n) (ty:=t) (xs':=[.aK cs]) (cur':=vs) (cap:=1) hB hn (show Ql hp (cQ d) ⟨n,t,[],false⟩ (cQ d)=some ⟨n,t,[],false⟩by simp[Ql]) rfl rfl rfl rfl (gh _ _ _) (Ext.refl _ _) (fun _ _ h=>h) (mK w _) (by omega) (by simp) (by rw[lK];omega)
  (fun i x hx=>by
   match i,hx with
   |0,hx=>simp at hx;subst hx;exact hlen
   |i+1,hx=>simp at hx)
  (fun i x hx j y hy=>by
   match i,hx with
   |0,hx=>simp at hx;subst hx;rw[KbI,Ka9];exact bc j y hy
   |i+1,hx=>simp at hx)
 rw[P1]at this;refine iA (v:=.pointer (some ⟨w.heap.size,0,none⟩)) (w':=w.alloc (.cells vs t)) ?_ (cy.kQ (p:=.np (cQ d) 0 0) hd aq aS this (fun _=>he) ⟨hB,w.heap.size,⟨n,t,[],false⟩,gh _ _ _,by simp[Ql],by simp⟩ hK);unfold execOp;simp only[ho,Instr.box,newVar,newRow,ex,Value.cells];simp
theorem We{o:Oper}{t:TypeId}{n:Nat}{x:Operand}{px:PV}{d:Nat}{Q:Exit->Act->World->Prop}(ho:o.op= .box t x)(hd:o.dst=some d)(aq:d<C.N)(aS:a.defers=[])(h:Qr C ρ fr hp a.tmps w)
  (hx:Qm C ρ hp w px (a.eval x)) (hv:eQ n t px d fr hp K):o.wp C.P a w (cy C true w K) Q:=
 XA ho hd aq aS h hx (fun _ e hb=>Wd ho hd aq aS h (e▸hx) hb) hv
theorem Wf {o:Oper} {s x:Operand} {t e:TypeId} {n by_:Nat} {z:PV} {ps px:PV} {d:Nat} {Q:Exit->Act->World->Prop}
  (ho:o.op= .call { callee:=.builtin .append,args:= #[s,x],argTypes:= #[t,t] }) (hd:o.dst=some d) (aq:d<C.N) (aS:a.defers=[]) (h:Qr C ρ fr hp a.tmps w)
  (hu:C.P.underlying t=some (.slice e)) (hz:jK C.P e=some (n,by_,z)) (jZ:z.cells.length=n) (hs:Qm C ρ hp w ps (a.eval s)) (hx:Qm C ρ hp w px (a.eval x))
  (hv:xQ n by_ e ps px d fr hp K):o.wp C.P a w (cy C false w K) Q:=by
 obtain⟨ti,zv,i1,i2,i3,i4,i5⟩:=sn hz;have hN:=C.hN;have qi:cQ d<5000000:=by unfold cQ;omega
 have RS:bB (cQ d)=true:=El (by unfold cQ;omega);have hYd:aM (cQ d)=false:=Io (by unfold cQ;omega);unfold xQ at hv;split at hv
 ·rename_i δ;split at hv
  ·rename_i KT ty' y aob;obtain⟨rfl,hyr,rfl,hv⟩:=hv;obtain⟨β,m,rfl,aj⟩:=He hyr;obtain⟨_,aqI,b,cap,gδ,rδ,ex,_,_,_⟩:=hx;have Bh:=h.cH KT;rw[aob]at Bh;obtain⟨_,_,b2,dN,cur,AN,q1,q2,q3,q4,q5,q6,q7,q8,q9,_,tp⟩:=Bh;rw[gδ]at q2;cases q2;rw[rδ]at q1;cases q1;rw[KbI]at ex;have cG:=tp 0 _ rfl 0 (.au β 0 m) rfl;simp only[KbI,Ka9]at cG;have uM:eh ρ hp w β 0 m (cur.getD 0 undef):=cG.2;obtain⟨ad,m',c',Fj⟩:=uM.slice;have h0s:0<cur.size:=by simp at q8;omega
   have qh:w.cell? ⟨b,0,none⟩=some (cur.getD 0 undef):=kR q6 h0s;obtain⟨u,hu0⟩:∃u,cur.getD 0 undef=u:=⟨_,rfl⟩
   rw[hu0]at uM Fj qh;have yA:∀(j:Nat)(v:Value),[u][j]? =some v->w.cell? ((⟨b,0,none⟩:Addr).add j)=some v:=fun j v hj=>by
    have hj0:j<1:=by have:=(Kaf.1 hj).1;simpa using this
    obtain rfl:j=0:=by omega
    simp at hj;subst hj;rw[KbM,KaO];exact qh
   have tk:zv.cells.size=1:=by have:=(rV (w:=w) (X:=aE C ρ hp) i5).cells.1;omega
   split at hv
   ·obtain⟨hb,hK⟩:=hv;have es:=hs.wN;have bS:=run_append_nil (P:=C.P) w t o.type e ti zv hu i1 i2 ⟨b,0,none⟩ 1 cap [u] (by simp[i3]) yA (by omega) (by omega) (by rw[i4];omega);have iM:=grownCap_ge w 1 0 e;have jc:=grownCap_le_maxLen w 1 0 e (by rw[lK];omega);generalize grownCap w 1 0 e=G at bS iM jc;have jd:([u].toArray++Builtin.zeroCells zv.cells (G-1)).size=G:=by simp[size_zeroCells,tk];omega
    have anQ:([u].toArray++Builtin.zeroCells zv.cells (G-1)).size=G*1:=by omega
    have iL:([u].toArray++Builtin.zeroCells zv.cells (G-1)).getD 0 undef=u:=by rw[ko,if_pos (by simp),u7];rfl
    obtain⟨ee,_⟩:=h.wM (cQ d) hYd xb ⟨1,e,[],false⟩ ([u].toArray++Builtin.zeroCells zv.cells (G-1)) G _ (.inr rfl) anQ (by simp) jc (by simp) (by simp) (by simp);have cL:=ee.FX (cap:=G) (xs:=[.au β 0 m]) RS (by simp[Ql]) (gh _ _ _) (mK w.drew _) jd (by simpa using iM) jc (by simp[lN,aj]) (fun i bA n' hi=>by
     match i,hi with
     |0,hi=>simp at hi;obtain⟨rfl,rfl⟩:=hi;rw[iL];exact xk h ((Ext.drew w _).trans (Ext.alloc w.drew _ _)) (by omega) uM
     |i+1,hi=>simp at hi)
    exact iA (tu ho es ex bS) (cy.kQ hd aq aS cL (by simp) (Em RS (by simp[Ql]) (gh _ _ _) (mK w.drew _) jd jc iM) hK)
   ·rename_i γ k;split at hv
    ·rename_i ba oE xs aoa;obtain⟨⟨rfl,aru,hY,rfl,rfl,yJ,hby,Bp⟩,⟨hb,ah,mi⟩,hK⟩:=hv;obtain⟨hB,sX,b1,EI,g1,g2,es,g4,g5,g6⟩:=hs;rw[ah]at g1;cases g1;have Bh:=h.cH ba;rw[aoa]at Bh;obtain⟨_,_,b1',ax,lj,sT,p1,p2,p3,p4,p5,p6,p7,p8,p9,_,p11⟩:=Bh;rw[ah]at p2;cases p2;rw[g2]at p1;cases p1;rw[KbI]at es;obtain⟨aqp,arv,d1,d2⟩:=g4;rw[p6]at d1;cases d1;rw[p4,KbL,Ka9]at d2;rw[KbL]at p7;obtain rfl:sT=EI:=by omega
     have Ti:∀(i bA n':Nat),xs[i]? =some (.au bA 0 n')->eh ρ hp w bA 0 n' (lj.getD i undef):=fun i bA n' hi=>by have:=p11 i _ hi 0 (.au bA 0 n') rfl;simp only[KbL,KaO]at this;exact this.2
     have Tj:∀(i bA n':Nat),xs[i]? =some (.au bA 0 n')->bA≠ba:=fun i bA n' hi=>by have:=Kaq.1 yJ _ (Kaj hi);simp[lN]at this;omega
     have aW:(xs++[PV.au β 0 m]).all lN=true:=by rw[List.all_append,yJ];simp[lN,aj]
     have bj:=(h.own ba hb ah).cD;rw[g2]at bj;obtain⟨o1,o2,_⟩:=bj;replace o1:=Ctx.uh o1 hY;have wm:∀u'∈[u],u'.oneCell'=true:=by intro u' mA;simp at mA;subst mA;rw[Fj];rfl
     by_cases yG:xs.length+1<=sT
     ·have bS:=run_append_room (P:=C.P) w t o.type oE ti hu i1 b1 xs.length sT lj p6 ⟨b,0,none⟩ 1 cap [u] (by simp[i3]) yA wm yG (by simp[i3];omega);rw[i3,KbL]at bS;have o6:xs.length+[u].length<=lj.size:=by simp;omega
      have kH:=zj (cur:=lj) (p:=xs.length) (cs:=[u]) o6;have gw:=fun k hk=>zg (cur:=lj) (p:=xs.length) (cs:=[u]) (k:=k) o6 hk;generalize hW:(lj.toList.take xs.length++[u]++lj.toList.drop (xs.length+[u].length)).toArray=W at bS kH gw;have hE:Ext (fun c=>ρ ba=some c/\∃hb,hp ba=some hb/\hb.fz=false) w (w.setRow b1 W):=(zn w b1 W).mono (fun i _ hi=>⟨hi▸g2,hb,ah,mi⟩);have JK:(w.setRow b1 W).heap[b1]? =some (.cells W oE (0,0)):=setRow_heap w b1 lj W oE _ p6;have ee:=h.yS (w':=w.setRow b1 W) ba (some b1) ⟨1,oE,[],false⟩ hY xb hE
       (fun c hc=>by cases hc;exact⟨o1,by simpa using o2,.inr ⟨g2,hb,ah,mi⟩⟩) (by simp) (by simp) (by simp)
       (fun c hc=>by cases hc;exact⟨W,sT,JK,by simp[kH];omega,by simp,p9,by simp⟩)
      have cL:=ee.FX (cap:=sT) (xs:=xs++[.au β 0 m]) hB (by simp[Ql]) (gh _ _ _) JK (by omega) (by simpa using yG) p9 aW (fun i bA n' hi=>by
       rw[Ka3]at hi;by_cases fI:i<xs.length
       ·rw[if_pos fI]at hi;rw[gw i (by omega),if_neg (by omega)];exact xk h hE (Tj i bA n' hi) (Ti i bA n' hi)
       ·rw[if_neg fI]at hi;have vY:i-xs.length<1:=by have:=(Kaf.1 hi).1;simpa using this
        obtain rfl:i=xs.length:=by omega
        rw[KbH]at hi;simp at hi;obtain⟨rfl,rfl⟩:=hi;rw[gw _ (by omega),if_pos (by simp),KbH];exact xk h hE (by omega) uM)
      exact iA (tu ho es ex bS) (cy.kQ hd aq aS cL (by simp) (Em hB (by simp[Ql]) (gh _ _ _) JK (by omega) p9 yG) hK)
     ·have fq:(lj.toList.take xs.length).length=xs.length:=by simp;omega
      have holds:∀(j:Nat)(v:Value),(lj.toList.take xs.length)[j]? =some v->w.cell? ((⟨b1,0,none⟩:Addr).add j)=some v:=fun j v hj=>by
       have dj:j<xs.length:=by have:=(Kaf.1 hj).1;omega
       rw[KaH dj]at hj;rw[KbM,Ka9,kR p6 (by omega),CE lj j v hj]
      have bS:=run_append_grow (P:=C.P) w t o.type oE ti zv hu i1 i2 ⟨b1,0,none⟩ xs.length sT (lj.toList.take xs.length) (by rw[fq,i3,KbL]) holds ⟨b,0,none⟩ 1 cap [u] (by simp[i3]) yA
       (by omega) (by omega) (growslice_fits (by omega) (by rw[i4];exact hby))
      have iM:=grownCap_ge w (xs.length+1) sT oE;have jc:=grownCap_le_maxLen w (xs.length+1) sT oE (by rw[lK];exact Bp);generalize grownCap w (xs.length+1) sT oE=G at bS iM jc;have jd:((lj.toList.take xs.length).toArray++[u].toArray++Builtin.zeroCells zv.cells (G-(xs.length+1))).size=G:=by simp only[Kcd,KbT,fq,size_zeroCells,tk,KaT,Kbo];omega
      have il:∀i,i<xs.length+1->((lj.toList.take xs.length).toArray++[u].toArray++Builtin.zeroCells zv.cells (G-(xs.length+1))).getD i undef=if i<xs.length then lj.getD i undef else u:=fun i hi=>by
       rw[ko,if_pos (by simp only[Kcd,KbT,fq,KaT,Kbo];omega),ko,KbT,fq];by_cases fI:i<xs.length
       ·rw[if_pos fI,if_pos fI,u7,Kae,KaH fI];simp[KaN]
       ·rw[if_neg fI,if_neg fI,u7,show i-xs.length=0 by omega];rfl
      generalize hW:(lj.toList.take xs.length).toArray++[u].toArray++Builtin.zeroCells zv.cells (G-(xs.length+1))=W at bS jd il;obtain⟨ee,_⟩:=h.wM ba hY xb ⟨1,oE,[],false⟩ W G _ (.inr rfl) (by simp[jd]) (by simp) jc (by simp) (by simp) (by simp);have hE:Ext (fun c=>ρ ba=some c/\∃hb,hp ba=some hb/\hb.fz=false) w (w.drew.alloc (.cells W oE)):=(Ext.drew w _).trans (Ext.alloc w.drew _ _);have cL:=ee.FX (cap:=G) (xs:=xs++[.au β 0 m]) hB (by simp[Ql]) (gh _ _ _) (mK w.drew _) jd (by simpa using iM) jc aW (fun i bA n' hi=>by
       rw[Ka3]at hi;by_cases fI:i<xs.length
       ·rw[if_pos fI]at hi;rw[il i (by omega),if_pos fI];exact xk h hE (Tj i bA n' hi) (Ti i bA n' hi)
       ·rw[if_neg fI]at hi;have vY:i-xs.length<1:=by have:=(Kaf.1 hi).1;simpa using this
        obtain rfl:i=xs.length:=by omega
        rw[KbH]at hi;simp at hi;obtain⟨rfl,rfl⟩:=hi;rw[il _ (by omega),if_neg (by omega)];exact xk h hE (by omega) uM)
      exact iA (tu ho es ex bS) (cy.kQ hd aq aS cL (by simp) (Em hB (by simp[Ql]) (gh _ _ _) (mK w.drew _) jd jc iM) hK)
    ·exact hv.elim
   ·exact hv.elim
  ·exact hv.elim
 ·exact hv.elim
theorem XG{o:Oper}{t e:TypeId}{len n by_:Nat}{z:PV}{parts:Array (Nat×Operand)}{ps:List aI}{d:Nat}{Q:Exit->Act->World->Prop}(ho:o.op= .buildSlice t len parts)(hd:o.dst=some d)(aq:d<C.N)(aS:a.defers=[])(h:Qr C ρ fr hp a.tmps w)
  (hu:C.P.underlying t=some (.slice e)) (hz:jK C.P e=some (n,by_,z)) (td:parts.toList.map (·.1)=List.range len) (Tr:len*n<=16777216) (jZ:z.cells.length=n) (fu:(parts.toList.mapM fun p=>bJ p.2)=some ps)
  (hv:kE n e (ps.map (ev fr)) d fr hp K):o.wp C.P a w (cy C true w K) Q:=by
 unfold kE at hv;split at hv
 ·rename_i hb;exact XF ho hd aq aS h hu hz td jZ fu hb hv
 ·exact aa0 ho hd aq aS h hu hz td Tr jZ fu hv
theorem Wg{o:Oper}{s x:Operand}{t e:TypeId}{n by_:Nat}{z:PV}{ps px:PV}{d:Nat}{Q:Exit->Act->World->Prop}
  (ho:o.op= .call { callee:=.builtin .append,args:= #[s,x],argTypes:= #[t,t] }) (hd:o.dst=some d) (aq:d<C.N) (aS:a.defers=[]) (h:Qr C ρ fr hp a.tmps w)
  (hu:C.P.underlying t=some (.slice e)) (hz:jK C.P e=some (n,by_,z)) (jZ:z.cells.length=n) (hs:Qm C ρ hp w ps (a.eval s)) (hx:Qm C ρ hp w px (a.eval x))
  (hv:iF n by_ e ps px d fr hp K):o.wp C.P a w (cy C false w K) Q:=
 XD ho hd aq aS h hu hz jZ hs hx (fun _ hn=>Wf ho hd aq aS h hu hz jZ hs hx hn) hv
end Go.FW
namespace Go.FW
open Go
variable {C : Ctx} {ρ : Nat -> Option Nat} {fr : Fr} {hp : HP} {w : World} {a : Act} {K : Qh}
theorem Uu {P : Program} {g : FuncId} (hg : (P.funcs[g]?).any (fun fn => fn.body.isSome && fn.name != "runtime.NumGoroutine") = true) (args : Array Value) (w : World) :
  (callFunc g args).run P w= .ok (.enter g args) w:=by
 cases hf:P.funcs[g]? with
 |none=>simp[hf]at hg
 |some fn=>
  simp only[hf,Option.any_some,Kav,bne_iff_ne,ne_eq]at hg;obtain⟨h1,h2⟩:=hg;have h3:fn.body.isNone=false:=by cases hb:fn.body<;>simp[hb]at h1⊢
  have h4 : (fn.name == "runtime.NumGoroutine") = false := by simpa using h2
  have hn:¬(fn.body=none):=fun he=>by simp[he]at h1
  unfold callFunc;simp[hf,h2,hn]
theorem Wq{o:Oper}{f:Operand}{args:Array Operand}{ts:Array TypeId}{pf:aI}{aQ:List aI}{pr:Bool}{Q:Exit->Act->World->Prop}
  (ho:o.op= .call { callee:=.value f,args:=args,argTypes:=ts }) (aq:∀d,o.dst=some d->d<C.N) (aS:a.defers=[]) (h:Qr C ρ fr hp a.tmps w)
  (hf:bJ f=some pf) (cN:args.toList.mapM bJ=some aQ) (hv:fC C pr (ev fr pf) (aQ.map (ev fr)) o.dst fr hp K):o.wp C.P a w (cy C pr w K) Q:=by
 have uA:=cn h hf;unfold fC at hv;split at hv
 ·rename_i g first cap lv
  rw[lv]at uA;obtain⟨hg,Jv⟩:=hv;obtain⟨fv,cv,ef,h1,h2,h3,h4⟩:=uA;obtain⟨m1,m2⟩:=HO h cN;have aoz:(args.toList.map a.eval).toArray=args.map a.eval:=Array.ext' (by simp);rw[aoz]at m2;have hc:=Jv ρ a.tmps w fv cv (args.map a.eval) aq h h1 h2 (by simpa using m1.symm) h3 h4 m2;have hex:(execOp a.eval o).run C.P w= .ok (.enter g (fv++args.map a.eval++cv)) w:=by unfold execOp;simp only[ho,resolve,Kao,KaX,Kak,ef,Deferred.ofValue,invoke];rw[Uu hg]
  unfold Oper.wp;rw[hex];refine hc.mono fun e w' hp'=>?_;obtain⟨v,aA,hp',rfl,hs,hx,hK⟩:=hp';refine⟨by rw[vb];exact aS,⟨aA,hp',?_,hK⟩,hx⟩;cases hd:o.dst with
  |some d=>rw[hd]at hs;exact hs
  |none=>rw[hd]at hs;exact hs
 ·exact hv.elim
theorem tC{α:Type}{xs:Array α}{l:List α}(h:xs.toList=l):xs=l.toArray:=by subst h;simp
theorem zP{P:Program}{t e:TypeId}(h:sE P t=some e):P.underlying t=some (.slice e):=by
 unfold sE at h;split at h
 ·rename_i hq;cases h;exact hq
 ·cases h
theorem OX{dr:Bool}{o:Oper}(cm:(fg C.P dr o).cls=0)(aq:∀d,o.dst=some d->d<C.N)(h:Qr C ρ fr hp a.tmps w)(hv:bh C (fg C.P dr o) fr hp K):Qv C ρ o a w K:=by
 unfold fg at cm hv;cases ab:mM C.P dr o with
 |none=>rw[ab]at hv;exact hv.elim
 | some so=>
  rw[ab]at cm hv;simp only[Kbd]at cm hv;unfold mM at ab;split at ab
  case h_1 x d hop hd=>simp only[Kaa]at ab;obtain⟨y,hy,rfl⟩:=ab;exact K4 (.inl hop) hd (aq d hd) h (cn h hy) hv
  case h_2 x d hop hd=>simp only[Kaa]at ab;obtain⟨y,hy,rfl⟩:=ab;exact K4 (.inr hop) hd (aq d hd) h (cn h hy) hv
  case h_3 c x y d hop hd=>
   simp only[Kab,Kaa]at ab;obtain⟨pc,hc,px,hx,py,hy,rfl⟩:=ab;exact VZ hop hd (aq d hd) h (cn h hc) (cn h hx) (cn h hy) hv
  case h_4 op t x y t2 d hop hd=>
   simp only[Kab,Kaa]at ab;obtain⟨px,hx,py,hy,rfl⟩:=ab;unfold y3 at hv;split at hv
   ·rename_i ng tc;split at tc
    ·rename_i cL;exact Xu hop tc cL hd (aq d hd) h (cn h hx) (cn h hy) hv
    ·cases tc
   split at hv
   ·rename_i ng tc;split at tc
    ·rename_i cL;exact Xs hop tc cL hd (aq d hd) h (cn h hx) (cn h hy) hv
    ·cases tc
   refine Xo hop hd (aq d hd) h (cn h hx) (cn h hy) (fun hb=>?_) hv;split at hb
   ·assumption
   ·cases hb
  case h_5 op t x d hop hd=>simp only[Kaa]at ab;obtain⟨y,hy,rfl⟩:=ab;exact aaS hop hd (aq d hd) h (cn h hy) hv
  case h_6 s t x d hop hd=>
   split at ab
   ·rename_i ds k hS hT;simp only[Kaa]at ab;obtain⟨y,hy,rfl⟩:=ab;exact VY hop hd (aq d hd) h hS hT (cn h hy) hv
   ·cases ab
  case h_7 t x i d hop hd=>
   simp only[Kab]at ab;obtain⟨px,hx,pi,hi,ab⟩:=ab;split at ab
   ·rename_i e hu;simp only[Kaa]at ab;obtain⟨n,hn,rfl⟩:=ab;exact Xv hop hd (aq d hd) h hu hn (cn h hx) (cn h hi) hv
   ·rename_i len e hu;simp only[Kaa]at ab;obtain⟨n,hn,rfl⟩:=ab;exact V' hop hd (aq d hd) h hu hn (cn h hx) (cn h hi) hv
   ·cases ab
  case h_8 t x i d hop hd=>
   simp only[Kab]at ab;obtain⟨px,hx,pi,hi,ab⟩:=ab;split at ab
   ·rename_i len e hu;simp only[Kab,Kaa]at ab;obtain⟨n,hn,ag,ja,rfl⟩:=ab;exact Xy hop hd (aq d hd) h hu hn ja (cn h hx) (cn h hi) hv
   ·rename_i hu;cases ab;exact Xx hop hd (aq d hd) h hu (cn h hx) (cn h hi) hv
   ·cases ab
  case h_9 t x j d hop hd=>
   simp only[Kab]at ab;obtain⟨px,hx,ab⟩:=ab;split at ab
   ·rename_i fs hu;simp only[Kab]at ab;obtain⟨f,hf,n,hn,ab⟩:=ab;split at ab
    ·cases ab
    ·rename_i iq;simp only[Kaz]at ab;subst ab;exact Xw hop hd (aq d hd) h hu hf hn iq (cn h hx) hv
   ·cases ab
  case h_10 t x j d hop hd=>
   simp only[Kab]at ab;obtain⟨px,hx,ab⟩:=ab;split at ab
   ·rename_i fs hu;simp only[Kab,Kaa]at ab;obtain⟨f,hf,n,hn,ag,ja,rfl⟩:=ab;exact Wa hop hd (aq d hd) h hu hf hn ja (cn h hx) hv
   ·cases ab
  case h_17 t parts d hop hd=>
   simp only[Kab,Kaa]at ab;obtain⟨⟨n,by_,z⟩,hz,ps,fu,rfl⟩:=ab;simp only[bh,kC]at hv;split at hv
   ·exact Wc hop hd (aq d hd) h hz fu hv
   ·exact Xz hop hd (aq d hd) h hz fu hv
  case h_18 t x lo hi m d hop hd=>
   simp only[Kab,Kaa]at ab;obtain⟨px,hx,F4,rD,BT,uE,pm,hm,e,he,n,hn,rfl⟩:=ab;have hu:C.P.underlying t=some (.slice e):=by
    unfold sE at he;split at he
    ·rename_i hq;cases he;exact hq
    ·cases he
   exact aaW hop hd (aq d hd) h hu hn (cn h hx) rD uE hm hv
  case h_19 x i d hop hd=>simp only[Kaa]at ab;obtain⟨y,hy,rfl⟩:=ab;exact Xt hop hd (aq d hd) h (cn h hy) hv
  case h_20 f first cap d hop hd=>
   simp only[Kab,Kaa]at ab;obtain⟨pf,h1,pc,h2,rfl⟩:=ab;exact aaX hop hd (aq d hd) h h1 h2 hv
  case h_11=>simp only[Kab,Kaa]at ab;obtain⟨_,_,_,_,_,_,rfl⟩:=ab;cases cm
  case h_12=>simp only[Kab,Kaa]at ab;obtain⟨_,_,_,_,_,_,rfl⟩:=ab;cases cm
  case h_13=>simp only[Kab,Kaa]at ab;obtain⟨_,_,_,_,rfl⟩:=ab;cases cm
  case h_14=>simp only[Kaa]at ab;obtain⟨_,_,rfl⟩:=ab;cases cm
  case h_15=>simp only[Kab,Kaa]at ab;obtain⟨_,_,_,_,_,_,_,_,rfl⟩:=ab;cases cm
  case h_16=>
   simp only[Kab]at ab;obtain⟨_,_,_,_,ab⟩:=ab;split at ab
   ·simp only[Kaa]at ab;obtain⟨_,_,rfl⟩:=ab;cases cm
   ·cases ab
  case h_21 hop=>simp only[Kaa]at ab;obtain⟨y,hy,rfl⟩:=ab;exact Wb hop aq h (cn h hy) hv
  case h_22 c hop=>
   obtain⟨callee,args,ts⟩:=c;split at ab
   ·simp only[Kab,Kaa]at ab;obtain⟨_,_,_,_,rfl⟩:=ab;cases cm
   ·rename_i x t d qg cN lC hd;obtain rfl:args= #[x]:=tC cN;obtain rfl:ts= #[t]:=tC lC;cases qg;split at ab
    ·rename_i hs;simp only[Kaa]at ab;obtain⟨y,hy,rfl⟩:=ab;exact Xr hop hd (aq d hd) h (cn h hy) hs hv
    simp only[Kab,Kaa]at ab;obtain⟨e,he,y,hy,rfl⟩:=ab;exact Xq hop hd (aq d hd) h (cn h hy) (zP he) hv
   ·rename_i x y d qg cN hd;simp only[Kab,Kaa]at ab;obtain⟨px,hx,py,hy,rfl⟩:=ab;obtain rfl:args= #[x,y]:=tC cN;cases qg;exact aaQ hop hd (aq d hd) h (cn h hx) (cn h hy) hv
   ·rename_i x y d qg cN hd;simp only[Kab,Kaa]at ab;obtain⟨px,hx,py,hy,rfl⟩:=ab;obtain rfl:args= #[x,y]:=tC cN;cases qg;exact aaR hop hd (aq d hd) h (cn h hx) (cn h hy) hv
   ·simp only[Kab]at ab;obtain⟨_,_,_,_,_,_,ab⟩:=ab;split at ab
    ·simp only[Kab]at ab;obtain⟨_,_,ab⟩:=ab;split at ab
     ·cases ab;cases cm
     ·cases ab
    ·cases ab
   ·simp only[Kab]at ab;obtain⟨_,_,_,_,_,_,ab⟩:=ab;split at ab
    ·simp only[Kaa]at ab;obtain⟨_,_,rfl⟩:=ab;cases cm
    ·cases ab
   ·cases ab
  case h_23=>cases ab
theorem OY{dr:Bool}{o:Oper}(cm:(fg C.P dr o).cls=1)(aq:∀d,o.dst=some d->d<C.N)(h:Qr C ρ fr hp a.tmps w)(hv:bh C (fg C.P dr o) fr hp K):Am C ρ o a w K:=by
 unfold fg at cm hv;cases ab:mM C.P dr o with
 |none=>rw[ab]at hv;exact hv.elim
 | some so=>
  rw[ab]at cm hv;simp only[Kbd]at cm hv;unfold mM at ab;split at ab
  case h_11 t x d hop hd=>
   simp only[Kab,Kaa]at ab;obtain⟨px,hx,n,hn,ag,ja,rfl⟩:=ab;exact aaV hop hd (aq d hd) h hn ja (cn h hx) hv
  case h_1=>simp only[Kaa]at ab;obtain⟨_,_,rfl⟩:=ab;cases cm
  case h_2=>simp only[Kaa]at ab;obtain⟨_,_,rfl⟩:=ab;cases cm
  case h_3=>simp only[Kab,Kaa]at ab;obtain⟨_,_,_,_,_,_,rfl⟩:=ab;cases cm
  case h_4=>simp only[Kab,Kaa]at ab;obtain⟨_,_,_,_,rfl⟩:=ab;unfold y3 at cm;split at cm<;>first|(cases cm;done)|(split at cm<;>cases cm)
  case h_5=>simp only[Kaa]at ab;obtain⟨_,_,rfl⟩:=ab;cases cm
  case h_6=>split at ab<;>first|cases ab|(simp only[Kaa]at ab;obtain⟨_,_,rfl⟩:=ab;cases cm)
  case h_7=>
   simp only[Kab]at ab;obtain⟨_,_,_,_,ab⟩:=ab;split at ab<;>first|cases ab|(simp only[Kaa]at ab;obtain⟨_,_,rfl⟩:=ab;cases cm)
  case h_8=>
   simp only[Kab]at ab;obtain⟨_,_,_,_,ab⟩:=ab;split at ab<;>first|(simp only[Kab,Kaa]at ab;obtain⟨_,_,_,_,rfl⟩:=ab;cases cm)|(cases ab;done)|(cases ab;cases cm)
  case h_9=>
   simp only[Kab]at ab;obtain⟨_,_,ab⟩:=ab;split at ab
   ·simp only[Kab]at ab;obtain⟨_,_,_,_,ab⟩:=ab;split at ab<;>first|(cases ab;done)|(simp only[Kaz]at ab;subst ab;cases cm)
   ·cases ab
  case h_10=>
   simp only[Kab]at ab;obtain⟨_,_,ab⟩:=ab;split at ab<;>first|(cases ab;done)|(simp only[Kab,Kaa]at ab;obtain⟨_,_,_,_,_,_,rfl⟩:=ab;cases cm)
  case h_12=>simp only[Kab,Kaa]at ab;obtain⟨_,_,_,_,_,_,rfl⟩:=ab;cases cm
  case h_13=>simp only[Kab,Kaa]at ab;obtain⟨_,_,_,_,rfl⟩:=ab;cases cm
  case h_14=>simp only[Kaa]at ab;obtain⟨_,_,rfl⟩:=ab;cases cm
  case h_15=>simp only[Kab,Kaa]at ab;obtain⟨_,_,_,_,_,_,_,_,rfl⟩:=ab;cases cm
  case h_16=>
   simp only[Kab]at ab;obtain⟨_,_,_,_,ab⟩:=ab;split at ab
   ·simp only[Kaa]at ab;obtain⟨_,_,rfl⟩:=ab;cases cm
   ·cases ab
  case h_17=>simp only[Kab,Kaa]at ab;obtain⟨_,_,_,_,rfl⟩:=ab;cases cm
  case h_18=>simp only[Kab,Kaa]at ab;obtain⟨_,_,_,_,_,_,_,_,_,_,_,_,rfl⟩:=ab;cases cm
  case h_19=>simp only[Kaa]at ab;obtain⟨_,_,rfl⟩:=ab;cases cm
  case h_20=>simp only[Kab,Kaa]at ab;obtain⟨_,_,_,_,rfl⟩:=ab;cases cm
  case h_21=>simp only[Kaa]at ab;obtain⟨_,_,rfl⟩:=ab;cases cm
  case h_22=>
   split at ab
   ·simp only[Kab,Kaa]at ab;obtain⟨_,_,_,_,rfl⟩:=ab;cases cm
   ·split at ab
    ·simp only[Kaa]at ab;obtain⟨_,_,rfl⟩:=ab;cases cm
    ·simp only[Kab,Kaa]at ab;obtain⟨_,_,_,_,rfl⟩:=ab;cases cm
   ·simp only[Kab,Kaa]at ab;obtain⟨_,_,_,_,rfl⟩:=ab;cases cm
   ·simp only[Kab,Kaa]at ab;obtain⟨_,_,_,_,rfl⟩:=ab;cases cm
   ·simp only[Kab]at ab;obtain⟨_,_,_,_,_,_,ab⟩:=ab;split at ab
    ·simp only[Kab]at ab;obtain⟨_,_,ab⟩:=ab;split at ab
     ·cases ab;cases cm
     ·cases ab
    ·cases ab
   ·simp only[Kab]at ab;obtain⟨_,_,_,_,_,_,ab⟩:=ab;split at ab
    ·simp only[Kaa]at ab;obtain⟨_,_,rfl⟩:=ab;cases cm
    ·cases ab
   ·cases ab
  case h_23=>cases ab
theorem Qv.wp{o:Oper}{two:Bool}{Q:Exit->Act->World->Prop}(aS:a.defers=[])(h:Qv C ρ o a w K):o.wp C.P a w (cy C two w K) Q:=by obtain⟨v,hr,aA,hp',hs,hK⟩:=h;exact iA (hr w) ⟨by rw[vb];exact aS,⟨aA,hp',⟨ρ,hs⟩,hK⟩,fun _=>Ext.refl _ _⟩
theorem Am.wp{o:Oper}{two:Bool}{Q:Exit->Act->World->Prop}(aS:a.defers=[])(h:Am C ρ o a w K):o.wp C.P a w (cy C two w K) Q:=by obtain⟨v,b,_,hr,aA,hp',hs,hK⟩:=h;exact iA (hr w rfl) ⟨by rw[vb];exact aS,⟨aA,hp',⟨ρ,hs⟩,hK⟩,fun _=>Ext.refl _ _⟩
theorem cy.mono{two Ui:Bool}{a':Act}{w':World}(h2:Ui=true->two=true)(h:cy C two w K a' w'):cy C Ui w K a' w':=⟨h.1,h.2.1,fun hh=>h.2.2 (h2 hh)⟩
theorem aaw{dr:Bool}{o:Oper}{Q:Exit->Act->World->Prop}(aq:∀d,o.dst=some d->d<C.N)(aS:a.defers=[])(h:Qr C ρ fr hp a.tmps w)(hv:bh C (fg C.P dr o) fr hp K):
  o.wp C.P a w (cy C (!(fg C.P dr o).iJ) w K) Q:=by
 by_cases h0:(fg C.P dr o).cls=0
 ·exact(OX h0 aq h hv).wp aS
 by_cases h1:(fg C.P dr o).cls=1
 ·exact(OY h1 aq h hv).wp aS
 unfold fg at h0 h1 hv⊢;cases ab:mM C.P dr o with
 |none=>rw[ab]at hv;exact hv.elim
 | some so=>
  rw[ab]at h0 h1 hv;simp only[Kbd]at h0 h1 hv⊢;have fin:∀ {two:Bool},(so.iJ=false->two=true)->o.wp C.P a w (cy C two w K) Q->o.wp C.P a w (cy C (!so.iJ) w K) Q:=fun h2 hw=>
   Oper.wp_mono (fun a' w' hA=>hA.mono (fun hh=>h2 (by simpa using hh))) hw
  unfold mM at ab;split at ab
  case h_12 t x y hop hd=>
   simp only[Kab,Kaa]at ab;obtain⟨px,hx,py,hy,n,hn,rfl⟩:=ab;exact fin (by simp[ch.iJ]) (aav hop hd aS h hn (cn h hx) (cn h hy) hv)
  case h_13 t x d hop hd=>
   simp only[Kab,Kaa]at ab;obtain⟨px,hx,n,hn,rfl⟩:=ab;exact fin (fun _=>rfl) (We hop hd (aq d hd) aS h (cn h hx) hv)
  case h_14 t d hop hd=>
   simp only[Kaa]at ab;obtain⟨⟨n,by_,z⟩,hz,rfl⟩:=ab;obtain⟨ti,zv,i1,i2,_,_,i5⟩:=sn hz;exact fin (fun _=>rfl) (Vc hop hd (aq d hd) aS h i1 i2 i5 hv)
  case h_15 t l c d hop hd=>
   simp only[Kab,Kaa]at ab;obtain⟨pl,hl,pc,hc,e,he,⟨n,by_,z⟩,hz,rfl⟩:=ab;exact fin (fun _=>rfl) (aaZ hop hd (aq d hd) aS h (zP he) hz (cn h hl) (cn h hc) hv)
  case h_16 t len parts d hop hd=>
   simp only[Kab]at ab;obtain⟨e,he,⟨n,by_,z⟩,hz,ab⟩:=ab;split at ab
   ·rename_i Bf;simp only[Kaa]at ab;obtain⟨ps,fu,rfl⟩:=ab;exact fin (fun _=>rfl) (XG hop hd (aq d hd) aS h (zP he) hz Bf.1 Bf.2.1 Bf.2.2 fu hv)
   ·cases ab
  case h_22 c hop=>
   obtain⟨callee,args,ts⟩:=c;split at ab
   ·rename_i f qg;simp only[Kab,Kaa]at ab;obtain⟨pf,hf,aQ,cN,rfl⟩:=ab;cases qg;exact fin (two:=dr&& !MZ C.P pf) (fun hh=>by simpa[ch.iJ]using hh) (Wq hop aq aS h hf cN hv)
   ·split at ab
    ·simp only[Kaa]at ab;obtain⟨_,_,rfl⟩:=ab;exact absurd rfl h0
    ·simp only[Kab,Kaa]at ab;obtain⟨_,_,_,_,rfl⟩:=ab;exact absurd rfl h0
   ·simp only[Kab,Kaa]at ab;obtain⟨_,_,_,_,rfl⟩:=ab;exact absurd rfl h0
   ·simp only[Kab,Kaa]at ab;obtain⟨_,_,_,_,rfl⟩:=ab;exact absurd rfl h0
   ·rename_i s x t u d qg cN lC hd;simp only[Kab]at ab;obtain⟨ps,hs,px,hx,e,he,ab⟩:=ab;split at ab
    ·rename_i Kf;subst Kf;simp only[Kab]at ab;obtain⟨⟨n,by_,z⟩,hz,ab⟩:=ab;split at ab
     ·rename_i jZ;simp only[Kaz]at ab;subst ab;obtain rfl:args= #[s,x]:=tC cN;obtain rfl:ts= #[t,t]:=tC lC;cases qg;exact fin (by simp[ch.iJ]) (Wg hop hd (aq d hd) aS h (zP he) hz jZ (cn h hs) (cn h hx) hv)
     ·cases ab
    ·cases ab
   ·rename_i s x t u d qg cN lC hd;simp only[Kab]at ab;obtain⟨ps,hs,px,hx,e,he,ab⟩:=ab;split at ab
    ·rename_i Kf;subst Kf;simp only[Kaa]at ab;obtain⟨n,hn,rfl⟩:=ab;obtain rfl:args= #[s,x]:=tC cN;obtain rfl:ts= #[t,t]:=tC lC;cases qg;exact fin (by simp[ch.iJ]) (XE hop hd (aq d hd) aS h (zP he) hn (cn h hs) (cn h hx) hv)
    ·cases ab
   ·cases ab
  all_goals exfalso
  case h_1=>simp only[Kaa]at ab;obtain⟨_,_,rfl⟩:=ab;exact h0 rfl
  case h_2=>simp only[Kaa]at ab;obtain⟨_,_,rfl⟩:=ab;exact h0 rfl
  case h_3=>simp only[Kab,Kaa]at ab;obtain⟨_,_,_,_,_,_,rfl⟩:=ab;exact h0 rfl
  case h_4=>simp only[Kab,Kaa]at ab;obtain⟨_,_,_,_,rfl⟩:=ab;exact h0 (by unfold y3;split<;>first|rfl|(split<;>rfl))
  case h_5=>simp only[Kaa]at ab;obtain⟨_,_,rfl⟩:=ab;exact h0 rfl
  case h_6=>split at ab<;>first|(cases ab;done)|(simp only[Kaa]at ab;obtain⟨_,_,rfl⟩:=ab;exact h0 rfl)
  case h_7=>
   simp only[Kab]at ab;obtain⟨_,_,_,_,ab⟩:=ab;split at ab<;>first|(cases ab;done)|(simp only[Kaa]at ab;obtain⟨_,_,rfl⟩:=ab;exact h0 rfl)
  case h_8=>
   simp only[Kab]at ab;obtain⟨_,_,_,_,ab⟩:=ab;split at ab<;>first|(cases ab;done)|(simp only[Kab,Kaa]at ab;obtain⟨_,_,_,_,rfl⟩:=ab;exact h0 rfl)|(cases ab;exact h0 rfl)
  case h_9=>
   simp only[Kab]at ab;obtain⟨_,_,ab⟩:=ab;split at ab
   ·simp only[Kab]at ab;obtain⟨_,_,_,_,ab⟩:=ab;split at ab<;>first|(cases ab;done)|(simp only[Kaz]at ab;subst ab;exact h0 rfl)
   ·cases ab
  case h_10=>
   simp only[Kab]at ab;obtain⟨_,_,ab⟩:=ab;split at ab<;>first|(cases ab;done)|(simp only[Kab,Kaa]at ab;obtain⟨_,_,_,_,_,_,rfl⟩:=ab;exact h0 rfl)
  case h_11=>simp only[Kab,Kaa]at ab;obtain⟨_,_,_,_,_,_,rfl⟩:=ab;exact h1 rfl
  case h_17=>simp only[Kab,Kaa]at ab;obtain⟨_,_,_,_,rfl⟩:=ab;exact h0 rfl
  case h_18=>simp only[Kab,Kaa]at ab;obtain⟨_,_,_,_,_,_,_,_,_,_,_,_,rfl⟩:=ab;exact h0 rfl
  case h_19=>simp only[Kaa]at ab;obtain⟨_,_,rfl⟩:=ab;exact h0 rfl
  case h_20=>simp only[Kab,Kaa]at ab;obtain⟨_,_,_,_,rfl⟩:=ab;exact h0 rfl
  case h_21=>simp only[Kaa]at ab;obtain⟨_,_,rfl⟩:=ab;exact h0 rfl
  case h_23=>cases ab
end Go.FW
namespace Go.FW
open Go
variable {C : Ctx} {ρ : Nat -> Option Nat} {fr : Fr} {hp : HP} {w : World} {a : Act} {K : Qh}
theorem aax(h:Qr C ρ fr hp a.tmps w){s:Nat}(hs:s<C.N):a.tmps[s]? =some (a.tmps.getD s undef):=by
 have:s<a.tmps.size:=by rw[h.sz];exact hs
 simp[Array.getD,this]
theorem Og{dr:Bool}{ops:Array Oper}{o:Oper}{g:mJ}(h:Qr C ρ fr hp a.tmps w)(hc:kq C.P C.N dr ops o=some g)(hv:hZ C g.g g.o fr hp K):
  (∀d,o.dst=some d->d<C.N)/\g.o=fg C.P dr o/\
  ((Region.wanted o (yielded ops a.tmps)=true/\bh C g.o fr hp K)∨(Region.wanted o (yielded ops a.tmps)=false/\jk g.o fr hp K)):=by
 unfold kq at hc;split at hc
 ·rename_i aW;have aq:∀d,o.dst=some d->d<C.N:=fun d hd=>by rw[hd]at aW;simpa using aW
  cases hg:o.guard with
  |none=>rw[hg]at hc;cases hc;exact⟨aq,rfl,.inl ⟨by simp[Region.wanted,hg],hv⟩⟩
  | some jw=>
   obtain⟨j,want⟩:=jw;rw[hg]at hc;simp only at hc;split at hc
   ·rename_i s hs;split at hc
    ·rename_i hsN;cases hc;refine⟨aq,rfl,?_⟩;have ht:=aax h hsN;have hr:=h.cH s;simp only[hZ]at hv;split at hv
     ·rename_i t oh;rw[oh]at hr;have hb:=hr.yh;have hy:yielded ops a.tmps j=some t:=by simp only[yielded,hs,Kch,ht,hb]
      have wy:∀b,t=b->ae fr s (.bool b)=fr:=fun b ax=>by
       funext i;unfold ae;split
       ·rename_i hi;subst hi;subst ax;exact oh.symm
       ·rfl
      by_cases hw:t=want
      ·refine .inl ⟨by simp[Region.wanted,hg,hy,hw],?_⟩;have:=hv.1 hw
       rwa[wy want hw]at this
      ·have rO:t= !want:=by cases t<;>cases want<;>simp_all
       refine .inr ⟨by simp[Region.wanted,hg,hy,hw],?_⟩;have:=hv.2 rO
       rwa[wy _ rO]at this
     ·rename_i oh;rw[oh]at hr;obtain⟨vs,ev,eE,_⟩:=hr;have wA:vs= #[]:=KbN (by simpa using eE);have hy:yielded ops a.tmps j=none:=by simp only[yielded,hs,Kch,ht,ev]
      exact .inr ⟨by simp[Region.wanted,hg,hy],hv⟩
     ·exact hv.elim
    ·cases hc
   ·cases hc
 ·cases hc
theorem M0{dr:Bool}{o:Oper}:(fg C.P dr o).dst=o.dst:=by
 unfold fg;cases ab:mM C.P dr o with
 |none=>rfl
 | some so=>
  simp only[Kbd];unfold mM at ab;split at ab
  case h_1 hd=>simp only[Kaa]at ab;obtain⟨_,_,rfl⟩:=ab;exact hd.symm
  case h_2 hd=>simp only[Kaa]at ab;obtain⟨_,_,rfl⟩:=ab;exact hd.symm
  case h_3 hd=>simp only[Kab,Kaa]at ab;obtain⟨_,_,_,_,_,_,rfl⟩:=ab;exact hd.symm
  case h_4 hd=>simp only[Kab,Kaa]at ab;obtain⟨_,_,_,_,rfl⟩:=ab;unfold y3;split<;>first|exact hd.symm|(split<;>exact hd.symm)
  case h_5 hd=>simp only[Kaa]at ab;obtain⟨_,_,rfl⟩:=ab;exact hd.symm
  case h_6 hd=>split at ab<;>first|(cases ab;done)|(simp only[Kaa]at ab;obtain⟨_,_,rfl⟩:=ab;exact hd.symm)
  case h_7 hd=>
   simp only[Kab]at ab;obtain⟨_,_,_,_,ab⟩:=ab;split at ab<;>first|(cases ab;done)|(simp only[Kaa]at ab;obtain⟨_,_,rfl⟩:=ab;exact hd.symm)
  case h_8 hd=>
   simp only[Kab]at ab;obtain⟨_,_,_,_,ab⟩:=ab;split at ab<;>first|(cases ab;done)|(simp only[Kab,Kaa]at ab;obtain⟨_,_,_,_,rfl⟩:=ab;exact hd.symm)|(cases ab;exact hd.symm)
  case h_9 hd=>
   simp only[Kab]at ab;obtain⟨_,_,ab⟩:=ab;split at ab
   ·simp only[Kab]at ab;obtain⟨_,_,_,_,ab⟩:=ab;split at ab<;>first|(cases ab;done)|(simp only[Kaz]at ab;subst ab;exact hd.symm)
   ·cases ab
  case h_10 hd=>
   simp only[Kab]at ab;obtain⟨_,_,ab⟩:=ab;split at ab<;>first|(cases ab;done)|(simp only[Kab,Kaa]at ab;obtain⟨_,_,_,_,_,_,rfl⟩:=ab;exact hd.symm)
  case h_11 hd=>simp only[Kab,Kaa]at ab;obtain⟨_,_,_,_,_,_,rfl⟩:=ab;exact hd.symm
  case h_12 hd=>simp only[Kab,Kaa]at ab;obtain⟨_,_,_,_,_,_,rfl⟩:=ab;exact hd.symm
  case h_13 hd=>simp only[Kab,Kaa]at ab;obtain⟨_,_,_,_,rfl⟩:=ab;exact hd.symm
  case h_14 hd=>simp only[Kaa]at ab;obtain⟨_,_,rfl⟩:=ab;exact hd.symm
  case h_15 hd=>simp only[Kab,Kaa]at ab;obtain⟨_,_,_,_,_,_,_,_,rfl⟩:=ab;exact hd.symm
  case h_16 hd=>
   simp only[Kab]at ab;obtain⟨_,_,_,_,ab⟩:=ab;split at ab
   ·simp only[Kaa]at ab;obtain⟨_,_,rfl⟩:=ab;exact hd.symm
   ·cases ab
  case h_17 hd=>simp only[Kab,Kaa]at ab;obtain⟨_,_,_,_,rfl⟩:=ab;exact hd.symm
  case h_18 hd=>simp only[Kab,Kaa]at ab;obtain⟨_,_,_,_,_,_,_,_,_,_,_,_,rfl⟩:=ab;exact hd.symm
  case h_19 hd=>simp only[Kaa]at ab;obtain⟨_,_,rfl⟩:=ab;exact hd.symm
  case h_20 hd=>simp only[Kab,Kaa]at ab;obtain⟨_,_,_,_,rfl⟩:=ab;exact hd.symm
  case h_21=>simp only[Kaa]at ab;obtain⟨_,_,rfl⟩:=ab;rfl
  case h_22=>
   split at ab
   ·simp only[Kab,Kaa]at ab;obtain⟨_,_,_,_,rfl⟩:=ab;rfl
   ·rename_i hd;split at ab
    ·simp only[Kaa]at ab;obtain⟨_,_,rfl⟩:=ab;exact hd.symm
    ·simp only[Kab,Kaa]at ab;obtain⟨_,_,_,_,rfl⟩:=ab;exact hd.symm
   ·rename_i hd;simp only[Kab,Kaa]at ab;obtain⟨_,_,_,_,rfl⟩:=ab;exact hd.symm
   ·rename_i hd;simp only[Kab,Kaa]at ab;obtain⟨_,_,_,_,rfl⟩:=ab;exact hd.symm
   ·rename_i hd;simp only[Kab]at ab;obtain⟨_,_,_,_,_,_,ab⟩:=ab;split at ab
    ·simp only[Kab]at ab;obtain⟨_,_,ab⟩:=ab;split at ab
     ·cases ab;exact hd.symm
     ·cases ab
    ·cases ab
   ·rename_i hd;simp only[Kab]at ab;obtain⟨_,_,_,_,_,_,ab⟩:=ab;split at ab
    ·simp only[Kaa]at ab;obtain⟨_,_,rfl⟩:=ab;exact hd.symm
    ·cases ab
   ·cases ab
  case h_23=>cases ab
theorem Wr{dr two:Bool}{o:Oper}(aq:∀d,o.dst=some d->d<C.N)(aS:a.defers=[])(h:Qr C ρ fr hp a.tmps w)(hv:jk (fg C.P dr o) fr hp K):cy C two w K (a.put o.dst undef) w:=by
 unfold jk at hv;rw[M0]at hv;cases hd:o.dst with
 |some d=>rw[hd]at hv;exact⟨aS,⟨_,hp,⟨ρ,h.ae Qm.Uh (aq d hd)⟩,hv⟩,fun _=>Ext.refl _ _⟩
 |none=>rw[hd]at hv;exact⟨aS,⟨fr,hp,⟨ρ,h⟩,hv⟩,fun _=>Ext.refl _ _⟩
theorem Hf{dr:Bool}{ops:Array Oper}{i:Nat}{o:Oper}{g:mJ}{Q:Exit->Act->World->Prop}(hi:ops[i]? =some o)(aS:a.defers=[])(h:Qr C ρ fr hp a.tmps w)(hc:kq C.P C.N dr ops o=some g)(hv:hZ C g.g g.o fr hp K):
  wpOp C.P ops Q i (cy C (!(fg C.P dr o).iJ) w K) a w:=by
 obtain⟨aq,jX,Bd⟩:=Og h hc hv;rw[jX]at Bd;unfold wpOp;simp only[hi];rcases Bd with⟨hw,hv⟩|⟨hw,hv⟩
 ·rw[if_pos hw];exact .inl (aaw aq aS h hv)
 ·rw[hw];simp only[Kbj,if_false];exact Wr aq aS h hv
def Ck(C:Ctx)(K:Qh)(Q:Exit->Act->World->Prop):Prop:=∀fr hp (a:Act) w,a.defers=[]->dB C fr hp a.tmps w->K fr hp->Q .normal a w
theorem Ah{C:Ctx}{R:Qh}{sk:List It}{fr:Fr}{hp:HP}:vc C R (.o .nil::sk) fr hp=vc C R sk fr hp:=by rw[vc]
theorem Au{C:Ctx}{R:Qh}{sk:List It}{g:Option (Nat×Bool)}{o:ch}{r:RT}{fr:Fr}{hp:HP}:vc C R (.o (.o g o r)::sk) fr hp=hZ C g o fr hp (vc C R (.o r::sk)):=by rw[vc]
theorem NK{C:Ctx}{R:Qh}{sk:List It}{x y:RT}{fr:Fr}{hp:HP}:vc C R (.o (.br x y)::sk) fr hp=(vc C R (.o x::sk) fr hp/\vc C R (.o y::sk) fr hp):=by rw[vc]
theorem Eh{C:Ctx}{R:Qh}{sk:List It}{r:RT}{fr:Fr}{hp:HP}:vc C R (.o (.wk r)::sk) fr hp=∃aJ aw,Wk fr hp aJ aw/\vc C R (.o r::sk) aJ aw:=by rw[vc]
theorem xu{C:Ctx}{R:Qh}{sk:List It}{tmps:Array Value}{w:World}:∀(r:RT)(fr:Fr)(hp:HP),dB C fr hp tmps w->vc C R (.o r::sk) fr hp->
  ∃r' aA hp',r'.strip=r.strip/\(∀x,r'≠ .wk x)/\dB C aA hp' tmps w/\vc C R (.o r'::sk) aA hp':=by
 intro r;induction r with
 |wk r ih=>intro fr hp hs hv;rw[Eh]at hv;obtain⟨aJ,aw,hw,hv⟩:=hv;exact ih aJ aw (hw _ _ _ hs) hv
 |nil=>exact fun fr hp hs hv=>⟨_,fr,hp,rfl,(fun x h=>by cases h),hs,hv⟩
 |o=>exact fun fr hp hs hv=>⟨_,fr,hp,rfl,(fun x h=>by cases h),hs,hv⟩
 |br=>exact fun fr hp hs hv=>⟨_,fr,hp,rfl,(fun x h=>by cases h),hs,hv⟩
theorem P2{r:RT}(h:r.strip= .nil)(hn:∀x,r≠ .wk x):r= .nil:=by
 cases r with
 |nil=>rfl
 |wk x=>exact absurd rfl (hn x)
 |_=>simp[RT.strip]at h
theorem Ip{r s:RT}{g:Option (Nat×Bool)}{o:ch}(h:r.strip= .o g o s)(hn:∀x,r≠ .wk x):∃r',r= .o g o r'/\r'.strip=s:=by
 cases r with
 |o g' o' r'=>simp only[RT.strip,RT.o.injEq]at h;obtain⟨rfl,rfl,h⟩:=h;exact⟨r',rfl,h⟩
 |wk x=>exact absurd rfl (hn x)
 |_=>simp[RT.strip]at h
theorem aay{r a b:RT}(h:r.strip= .br a b)(hn:∀x,r≠ .wk x):∃a' b',r= .br a' b'/\a'.strip=a/\b'.strip=b:=by
 cases r with
 |br a' b'=>simp only[RT.strip,RT.br.injEq]at h;exact⟨a',b',rfl,h.1,h.2⟩
 |wk x=>exact absurd rfl (hn x)
 |_=>simp[RT.strip]at h
theorem OO{R:Qh}{sk:List It}{ops:Array Oper}{Q:Exit->Act->World->Prop}(hQ:Ck C (vc C R sk) Q):∀(gs:List mJ)(is:List Nat)(r:RT)(fr:Fr)(hp:HP)(a:Act)(w:World),
  is.length=gs.length->(∀(k i:Nat)(g:mJ),is[k]? =some i->gs[k]? =some g->∃o,ops[i]? =some o/\kq C.P C.N false ops o=some g)->
  a.defers=[]->dB C fr hp a.tmps w->r.strip=xO gs->vc C R (.o r::sk) fr hp->wpOps C.P ops Q is a w
 | [],[],r,fr,hp,a,w,_,_,aS,hs,hr,hv=>by obtain⟨r',aA,hp',h1,h2,hs,hv⟩:=xu r fr hp hs hv;obtain rfl:=P2 (h1.trans hr) h2;rw[Ah]at hv;exact hQ aA hp' a w aS hs hv
 | [],i::is,_,_,_,_,_,hl,_,_,_,_,_=>by simp at hl
 |g::gs,[],_,_,_,_,_,hl,_,_,_,_,_=>by simp at hl
 |g::gs,i::is,r,fr,hp,a,w,hl,hc,aS,hs,hr,hv=>by obtain⟨o,ho,ab⟩:=hc 0 i g rfl rfl;obtain⟨r',aA,hp',h1,h2,⟨ρ,hs⟩,hv⟩:=xu r fr hp hs hv;obtain⟨r2,rfl,my⟩:=Ip (h1.trans hr) h2;rw[Au]at hv;rw[wpOps_cons];refine wpOp_mono (fun a' w' hA=>?_) (Hf ho aS hs ab hv);obtain⟨sY,⟨aA,hp',dZ,oz⟩,_⟩:=hA;exact OO hQ gs is r2 aA hp' a' w' (by simpa using hl) (fun k j g' h1 h2=>hc (k+1) j g' (by simpa using h1) (by simpa using h2)) sY dZ my oz
end Go.FW
namespace Go.FW
open Go
section
variable {P : Program} {ops : Array Oper} {Q : Exit -> Act -> World -> Prop}
def vj(P:Program)(ops:Array Oper)(Q:Exit->Act->World->Prop)(iJ:Nat->Bool):Nat->Array Bool->Act->World->Prop
 |0,a9,a,w=>Region.ready .any ops a9=[]/\Q .normal a w
 |fuel+1,a9,a,w=>
  (Region.ready .any ops a9=[]->Q .normal a w)/\
  ∀i∈Region.ready .any ops a9,wpOp P ops Q i (fun a' w'=>(iJ i=false->Ext cg w w')/\vj P ops Q iJ fuel (a9.setIfInBounds i true) a' w') a w
theorem Hg(iJ:Nat->Bool):∀(fuel:Nat)(a9:Array Bool)(a:Act)(w:World),vj P ops Q iJ fuel a9 a w->wpAny P .any ops Q fuel a9 a w
 |0,_,_,_,h=>h
 |fuel+1,_,_,_,h=>⟨h.1,fun i hi=>wpOp_mono (fun a' w' h'=>Hg iJ fuel _ a' w' h'.2) (h.2 i hi)⟩
def YF(P:Program)(ops:Array Oper)(all:Bool)(o:Oper)(v:Value)(a:Act)(w:World):Prop:=
 (Region.wanted o (yielded ops a.tmps)=true/\∀w',(all=true∨Ext cg w w')->(execOp a.eval o).run P w'= .ok (.value v) w')∨
 (Region.wanted o (yielded ops a.tmps)=false/\v=undef)
theorem YF.step{all:Bool}{o:Oper}{v:Value}{a a':Act}{w w':World}(hy:YF P ops all o v a w)(he:execOp a'.eval o=execOp a.eval o)
  (hw:Region.wanted o (yielded ops a'.tmps)=Region.wanted o (yielded ops a.tmps)) (hx:all=true∨Ext cg w w'):YF P ops all o v a' w':=by
 unfold YF at *
 rw[he,hw];rcases hy with⟨h1,h2⟩|h
 ·refine .inl ⟨h1,fun w2 h3=>h2 w2 ?_⟩;rcases hx with hx|hx
  ·exact .inl hx
  ·rcases h3 with h3|h3
   ·exact .inl h3
   ·exact .inr (hx.trans h3)
 ·exact .inr h
theorem YF.wpOp{all:Bool}{i:Nat}{o:Oper}{v:Value}{a:Act}{w:World}(hi:ops[i]? =some o)(hy:YF P ops all o v a w)
  {K:Act->World->Prop} (h:K (a.put o.dst v) w):Go.wpOp P ops Q i K a w:=by
 unfold Go.wpOp;simp only[hi];rcases hy with⟨hw,hv⟩|⟨hw,rfl⟩
 ·simp only[hw,if_true,Oper.wp,hv w (.inr (Ext.refl _ _)),Oper.upon];exact .inl h
 ·simp only[hw,Kbj,if_false];exact h
theorem XH{j:Nat}{oi oj:Oper}{v:Value}(hj:ops[j]? =some oj)(hap:oi.apart ops oj=true)
  (To:∀cs b,oi.op≠ .select cs b) (Tp:∀cs b,oj.op≠ .select cs b)
  (hQ:∀c a w,Q (.panic c) (a.put oi.dst v) w->Q (.panic c) a w) {K:Act->World->Prop} {a:Act} {w:World}
  (h:Go.wpOp P ops Q j K (a.put oi.dst v) w):
  Go.wpOp P ops Q j (fun a' w'=>(execOp a'.eval oi=execOp a.eval oi/\Region.wanted oi (yielded ops a'.tmps)=Region.wanted oi (yielded ops a.tmps))/\K (a'.put oi.dst v) w') a w:=by
 obtain⟨h1,h2,h3⟩:=Oper.apart_spec hap;have eG:∀u,execOp (a.put oj.dst u).eval oi=execOp a.eval oi/\Region.wanted oi (yielded ops (a.put oj.dst u).tmps)=Region.wanted oi (yielded ops a.tmps):=fun u=>
  ⟨execOp_put oi To a oj.dst u h3,wanted_put oi a oj.dst u h3⟩
 have apK:∀d u,execOp (({ a with defers:=d::a.defers }:Act).put oj.dst u).eval oi=execOp a.eval oi/\Region.wanted oi (yielded ops (({ a with defers:=d::a.defers }:Act).put oj.dst u).tmps)=Region.wanted oi (yielded ops a.tmps):=fun d u=>
  ⟨(execOp_put oi To ({ a with defers:=d::a.defers }:Act) oj.dst u h3).trans rfl,(wanted_put oi ({ a with defers:=d::a.defers }:Act) oj.dst u h3).trans rfl⟩
 unfold Go.wpOp at *
 simp only[hj]at *
 rw[wanted_put oj a oi.dst v h1]at h;split
 ·rename_i hw;simp only[hw,if_true]at h;rcases h with h|⟨Se,aox⟩
  case inr=>exact .inr ⟨by unfold Oper.asks at *;rw[execOp_put oj Tp a oi.dst v h1]at Se;exact Se,aox⟩
  refine .inl ?_;unfold Oper.wp at *
  rw[execOp_put oj Tp a oi.dst v h1]at h;generalize(execOp a.eval oj).run P w=r at *
  cases r with
  | ok n w'=>
   cases n<;>simp only[Oper.upon]at h⊢
   case value u=>exact⟨eG u,by rw[<-Act.put_comm a v u h2];exact h⟩
   case skip=>exact⟨eG _,by rw[<-Act.put_comm a v undef h2];exact h⟩
   case defer d=>
    refine⟨apK d _,?_⟩;rw[<-Act.put_comm _ v undef h2,<-Act.put_defers];exact h
   case enter f args=>
    refine Calls.mono h fun e w'' he=>?_;cases e with
    |returned u=>exact⟨eG u,by rw[<-Act.put_comm a v u h2];exact he⟩
    |panicked c=>exact hQ _ _ _ he
    |outgrown=>exact he
   case row row args=>exact Rows.mono h fun u w'' he=>⟨eG u,by rw[<-Act.put_comm a v u h2];exact he⟩
  |halt x w'=>
   cases x<;>simp only[Oper.upon]at h⊢
   case panic u=>exact hQ _ _ _ h
 ·rename_i hw;simp only[hw]at h;exact⟨eG _,by rw[<-Act.put_comm a v undef h2];exact h⟩
def lY(ops:Array Oper)(a9:Array Bool):Prop:=∀(j:Nat)(o:Oper),ops[j]? =some o->a9.getD j false=true->∀e∈o.after,Region.binds .any e=true->a9.getD e.on false=true
theorem lY.step{a9:Array Bool}{i:Nat}(h:lY ops a9)(hi:i∈Region.ready .any ops a9):lY ops (a9.setIfInBounds i true):=by
 intro j o hj hl e he hb;obtain⟨h0,oi,qq,aW⟩:=mem_ready.1 hi;by_cases Fm:i=j
 ·subst Fm;rw[hj]at qq;cases qq;exact getD_set_true (aW e he hb)
 ·rw[getD_set_ne false Fm]at hl;exact getD_set_true (h j o hj hl e he hb)
theorem NO{a9:Array Bool}{i:Nat}(hd:lY ops a9):∀(n k:Nat),a9.getD k false=true->qI ops n i k=true->a9.getD i false=true
 |0,_,_,h=>by simp[qI]at h
 | n+1,k,hk,h=>by
  unfold qI at h;cases ho:ops[k]? with
  |none=>simp[ho]at h
  |some o=>
   simp only[ho,KaW,Kav,KbC,beq_iff_eq]at h;obtain⟨e,he,hb,h⟩:=h;have hl:=hd k o ho hk e (by simpa using he) hb;rcases h with h|h
   ·rw[<-h];exact hl
   ·exact NO hd n e.on hl h
theorem Qxi{a9:Array Bool}{i j n:Nat}(hd:lY ops a9)(hj:j∈Region.ready .any ops a9)(h:qI ops n i j=true):a9.getD i false=true:=by
 obtain⟨_,o,ho,aW⟩:=mem_ready.1 hj;cases n with
 |zero=>simp[qI]at h
 |succ n=>
  unfold qI at h;simp only[ho,KaW,Kav,KbC,beq_iff_eq]at h;obtain⟨e,he,hb,h⟩:=h;have hl:=aW e (by simpa using he) hb;rcases h with h|h
  ·rw[<-h];exact hl
  ·exact NO hd n e.on hl h
theorem P3{a9:Array Bool}{i:Nat}(h0:a9.getD i true=false):¬a9.getD i false=true:=by
 intro h1;rcases KcR i a9.size with h'|h'
 ·simp[h']at h0 h1;rw[h0]at h1;cases h1
 ·simp[Kcz h']at h1
theorem UH{iJ:Nat->Bool}{all:Bool}{i:Nat}{oi:Oper}{v:Value}(hi:ops[i]? =some oi)(Tn:∀(j:Nat)(o:Oper) cs b,ops[j]? =some o->o.op≠ .select cs b)
  (hQ:∀c a w,Q (.panic c) (a.put oi.dst v) w->Q (.panic c) a w)
  (yE:all=true∨∀j,iJ j=true->j<ops.size->qI ops ops.size i j=true∨j=i):
  ∀(fuel:Nat)(a9:Array Bool)(a:Act)(w:World),lY ops a9->
   (∀j oj,ops[j]? =some oj->j≠i->a9.getD j true=false->(∀e∈oj.after,Region.binds .any e=true->e.on≠i)->oi.apart ops oj=true)->
   i∈Region.ready .any ops a9->YF P ops all oi v a w->
   vj P ops Q iJ fuel (a9.setIfInBounds i true) (a.put oi.dst v) w->vj P ops Q iJ (fuel+1) a9 a w:=by
 intro fuel;induction fuel with
 | zero=>
  intro a9 a w _ _ hr hy H;refine⟨fun h=>(by rw[h]at hr;cases hr),fun j hj=>?_⟩;by_cases gP:j=i
  ·subst gP;exact hy.wpOp hi ⟨fun _=>Ext.refl _ _,H⟩
  ·have:=ready_mono hj gP;rw[H.1]at this;cases this
 | succ fuel ih=>
  intro a9 a w Ss Bi hr hy H;refine⟨fun h=>(by rw[h]at hr;cases hr),fun j hj=>?_⟩;by_cases gP:j=i
  ·subst gP;exact hy.wpOp hi ⟨fun _=>Ext.refl _ _,H⟩
  ·have h1:=H.2 j (ready_mono hj gP);obtain⟨SJ,oj,FA,aW⟩:=mem_ready.1 hj;have SE:¬a9.getD i false=true:=P3 (mem_ready.1 hr).1;have aoH:∀e∈oj.after,Region.binds .any e=true->e.on≠i:=fun e he hb heq=>SE (heq▸aW e he hb);have h2:=XH FA (Bi j oj FA gP SJ aoH) (fun cs b=>Tn i oi cs b hi) (fun cs b=>Tn j oj cs b FA) hQ h1;have anK:all=true∨iJ j=false:=by
    rcases yE with h|h
    ·exact .inl h
    ·cases hb:iJ j with
     |false=>exact .inr rfl
     |true=>
      have aom:j<ops.size:=(Kbm.1 FA).1;rcases h j hb aom with h|h
      ·exact absurd (Qxi Ss hj h) SE
      ·exact absurd h gP
   have an9:∀k ok,ops[k]? =some ok->k≠i->(a9.setIfInBounds j true).getD k true=false->
     (∀e∈ok.after,Region.binds .any e=true->e.on≠i)->oi.apart ops ok=true:=fun k ok hk v7 oy oq=>by
    refine Bi k ok hk v7 ?_ oq;by_cases SF:j=k
    ·subst SF;exact SJ
    ·rw[getD_set_ne true SF]at oy;exact oy
   refine wpOp_mono (fun a' w' h3=>?_) h2;obtain⟨⟨he,hw⟩,hx,wq⟩:=h3;refine⟨hx,ih (a9.setIfInBounds j true) a' w' (Ss.step hj) an9 (ready_mono hr (Ne.symm gP)) (hy.step he hw ?_) ?_⟩
   ·rcases anK with h|h
    ·exact .inl h
    ·exact .inr (hx h)
   ·rw[Array.setIfInBounds_comm _ _ gP];exact wq
end
section
variable {C : Ctx} {ρ : Nat -> Option Nat} {fr : Fr} {hp : HP} {w : World} {a : Act} {K : Qh}
theorem NU{dr:Bool}{o:Oper}(aq:∀d,o.dst=some d->d<C.N)(h:Qr C ρ fr hp a.tmps w)(hv:jk (fg C.P dr o) fr hp K):∃aA hp',Qr C ρ aA hp' (a.put o.dst undef).tmps w/\K aA hp':=by
 unfold jk at hv;rw[M0]at hv;cases hd:o.dst with
 |some d=>rw[hd]at hv;exact⟨_,hp,h.ae Qm.Uh (aq d hd),hv⟩
 |none=>rw[hd]at hv;exact⟨fr,hp,h,hv⟩
theorem afu{P:Program}{dr:Bool}{o:Oper}:(fg P dr o).cls=(fg P true o).cls:=by
 cases dr with
 |true=>rfl
 | false=>
  have h0:(mM P false o).map ch.cls=(mM P true o).map ch.cls:=by
   unfold mM;split<;>first|rfl|skip
   split<;>first|rfl|skip
   rename_i f _;cases h1:bJ f with
   |none=>simp
   |some pf=>simp only[Kch,Option.map_map];congr 1
  unfold fg;cases h1:mM P false o<;>cases h2:mM P true o<;>simp_all[ch.cls]
theorem NV {dr:Bool} {R:Qh} {sk:List It} {ops:Array Oper} {Q:Exit->Act->World->Prop} (Fy:Region.noSelect ops=true) (hQ:Ck C (vc C R sk) Q):∀(n:Nat) (a9:Array Bool) (r:RT) (fr:Fr) (hp:HP) (a:Act) (w:World),
  pM C.P C.N dr ops n a9=some r.strip->lY ops a9->a.defers=[]->dB C fr hp a.tmps w->vc C R (.o r::sk) fr hp->
  vj C.P ops (NoPanic Q) (xH C.P dr ops) n a9 a w:=by
 intro n;have done:∀(n:Nat)(a9:Array Bool)(r:RT)(fr:Fr)(hp:HP)(a:Act)(w:World),Region.ready .any ops a9=[]->a.defers=[]->dB C fr hp a.tmps w->r.strip= .nil->vc C R (.o r::sk) fr hp->vj C.P ops (NoPanic Q) (xH C.P dr ops) n a9 a w:=by
  intro n a9 r fr hp a w hr aS hs Bv hv;obtain⟨r',fr,hp,h1,h2,hs,hv⟩:=xu r fr hp hs hv;obtain rfl:=P2 (h1.trans Bv) h2;rw[Ah]at hv;have hq:NoPanic Q .normal a w:=hQ fr hp a w aS hs hv;cases n with
  |zero=>exact⟨hr,hq⟩
  |succ n=>exact⟨fun _=>hq,by rw[hr];simp⟩
 induction n with
 | zero=>
  intro a9 r fr hp a w ho hd aS hs hv;unfold pM at ho;split at ho
  ·rename_i hr;exact done 0 a9 r fr hp a w (by simpa using hr) aS hs (Kac ho).symm hv
  ·cases ho
 | succ n ih=>
  intro a9 r fr hp a w ho hd aS hs hv;unfold pM at ho;split at ho
  ·rename_i hr;exact done (n+1) a9 r fr hp a w (by simpa using hr) aS hs (Kac ho).symm hv
  ·rename_i hr;obtain⟨r',fr,hp,e1,e2,hs,hv⟩:=xu r fr hp hs hv;rw[<-e1]at ho;split at ho
   ·rename_i i an8;have mz:=List.find?_some an8;simp only[Kab,Kaa]at ho;obtain⟨g,⟨o,qq,Jx⟩,r0,dP,vX⟩:=ho;obtain⟨r',rfl,rfl⟩:=Ip vX.symm e2;unfold Gg at mz;simp only[Kav,List.contains_iff_mem]at mz;obtain⟨⟨FE,Bi⟩,cm⟩:=mz;have Sn:tM C.P ops i=(fg C.P dr o).cls:=by rw[afu];simp[tM,qq]
    rw[Au]at hv;obtain⟨ρ,ow⟩:=hs;obtain⟨aq,jX,Bd⟩:=Og ow Jx hv;rw[jX]at Bd;have yE:∀all:Bool,(all=false->tM C.P ops i=1)->all=true∨∀j,xH C.P dr ops j=true->j<ops.size->qI ops ops.size i j=true∨j=i:=by
     intro all aW;cases all with
     |true=>exact .inl rfl
     |false=>
      refine .inr fun j hj qm=>?_;rw[aW rfl]at cm;have:=Kaq.1 cm j (by simpa using qm);simp only[KbC,Bool.not_eq_true']at this;rcases this with h|h
      ·rw[hj]at h;cases h
      ·exact .inl h
    have fin:∀(all:Bool)(v:Value),(all=false->tM C.P ops i=1)->YF C.P ops all o v a w->(∃aA hp',Qr C ρ aA hp' (a.put o.dst v).tmps w/\vc C R (.o r'::sk) aA hp')->vj C.P ops (NoPanic Q) (xH C.P dr ops) (n+1) a9 a w:=by
     intro all v aW hy ⟨aA,hp',dZ,oz⟩;exact UH qq (Region.noSelect_spec Fy) (fun _ _ _ h=>h) (yE all aW) n a9 a w hd (Region.free_spec qq Bi) FE hy
      (ih _ r' aA hp' _ w dP (hd.step FE) (by rw[vb];exact aS) ⟨ρ,dZ⟩ oz)
    rcases Bd with⟨hw,hv⟩|⟨hw,hv⟩
    ·by_cases h0:tM C.P ops i=0
     ·obtain⟨v,bS,wq⟩:=OX (by rw[<-Sn];exact h0) aq ow hv;exact fin true v (by simp) (.inl ⟨hw,fun w' _=>bS w'⟩) wq
     ·by_cases h1:tM C.P ops i=1
      ·obtain⟨v,b,hb,bS,wq⟩:=OY (by rw[<-Sn];exact h1) aq ow hv;exact fin false v (fun _=>h1) (.inl ⟨hw,fun w' rO=>bS w' (rO.elim (fun h=>by cases h) (fun h=>h.block b hb (fun h=>h)))⟩) wq
      ·split at cm
       ·rename_i h;exact absurd h h0
       ·rename_i h;exact absurd h h1
       ·cases cm
    ·by_cases h1:tM C.P ops i=1
     ·exact fin false undef (fun _=>h1) (.inr ⟨hw,rfl⟩) (NU aq ow hv)
     ·exact fin true undef (by simp) (.inr ⟨hw,rfl⟩) (NU aq ow hv)
   ·
    simp only[Kaa]at ho;obtain⟨rs,cG,vX⟩:=ho;obtain⟨m1,m2⟩:=lJ cG;have hbr:∀(rs:List RT) (r':RT) (fr:Fr) (hp:HP),r'.strip=ug rs->dB C fr hp a.tmps w->vc C R (.o r'::sk) fr hp->∀r∈rs,∃r2 fc bI,r2.strip=r/\(∀x,r2≠ .wk x)/\dB C fc bI a.tmps w/\vc C R (.o r2::sk) fc bI:=by
     intro rs;induction rs with
     |nil=>intro _ _ _ _ _ _ r hr;cases hr
     | cons x xs kK=>
      intro r' fr hp dP hs hv r hr;obtain⟨r2,fc,bI,f1,f2,hs,hv⟩:=xu r' fr hp hs hv;cases xs with
      |nil=>simp at hr;subst hr;exact⟨r2,fc,bI,f1.trans dP,f2,hs,hv⟩
      | cons y ys=>
       rw[ug]at dP
       ·obtain⟨a',b',rfl,g1,g2⟩:=aay (f1.trans dP) f2;rw[NK]at hv;rcases KaC.1 hr with rfl|hr
        ·obtain⟨r3,EN,ot,k1,k2,k3,k4⟩:=xu a' fc bI hs hv.1;exact⟨r3,EN,ot,k1.trans g1,k2,k3,k4⟩
        ·exact kK b' fc bI g2 hs hv.2 r hr
       ·simp
    refine⟨fun h0=>absurd (by rw[h0];rfl) hr,fun i hi=>?_⟩;obtain⟨k,hk⟩:=KaB hi;have yy:k<rs.length:=by rw[m1];exact(Kaf.1 hk).1
    obtain⟨i',az,hf⟩:=m2 k _ (Kag yy);rw[hk]at az;cases az;simp only[Kab,Kaa]at hf;obtain⟨g,⟨o,qq,Jx⟩,r0,dP,he⟩:=hf;obtain⟨r2,fc,bI,f1,f2,hs,oz⟩:=hbr rs r' fr hp vX.symm hs hv _ (Kah yy);obtain⟨r',rfl,rfl⟩:=Ip (f1.trans he.symm) f2;rw[Au]at oz;obtain⟨ρ,ow⟩:=hs;refine wpOp_mono (fun a' w' hA=>?_) (Hf qq aS ow Jx oz);obtain⟨sY,⟨aA,hp',dZ,tg⟩,hx⟩:=hA;refine⟨fun hb=>hx ?_,ih _ r' aA hp' a' w' dP (hd.step hi) sY dZ tg⟩;simpa[xH,qq]using hb
theorem dB.drew{tmps:Array Value}(h:dB C fr hp tmps w):dB C fr hp tmps { w with drawn:=w.drawn+1 }:=by obtain⟨ρ,hs⟩:=h;exact⟨ρ,hs.grow (Ext.drew w _)⟩
theorem lY.start(ops:Array Oper):lY ops (Array.replicate ops.size false):=by intro j o _ hl;exfalso;simp[Array.getD]at hl
theorem HS{s:SC}{r:RT}(h:s.strip= .rg r):∃r',s= .rg r'/\r'.strip=r:=by
 cases s with
 |rg r'=>simp only[SC.strip,SC.rg.injEq]at h;exact⟨r',rfl,h⟩
 |_=>simp[SC.strip]at h
theorem UI{R:Qh}{sk:List It}{ops:Array Oper}{draw:Bool}{id:Nat}{s:SC}{Q:Exit->Act->World->Prop}(hm:C.P.follows .mixedOrders=true)(hQ:Ck C (vc C R sk) Q)
  (hc:zO C.P C.N ops draw=some s.strip) (aS:a.defers=[]) (hs:dB C fr hp a.tmps w) (hv:vc C R (.c s::sk) fr hp):(Code.region id ops draw).wp C.P Q a w:=by
 unfold zO at hc;split at hc
 ·rename_i hd;subst hd;split at hc
  ·rename_i Fy;have key:∀(dr:Bool)(wK:Nat)(s:SC),zN C.P C.N ops dr wK=some s.strip->vc C R (.c s::sk) fr hp->(Code.region id ops true).wp C.P Q a w:=by
    intro dr wK s hc hv;unfold zN at hc;split at hc
    ·cases hc
    split at hc
    ·rename_i r0 hr;split at hc
     ·obtain⟨r,rfl,rfl⟩:=HS (Kac hc).symm;rw[vc]at hv;exact wp_region_noPanic (wp_region_any hm (Hg _ _ _ _ _ (NV Fy hQ _ _ r fr hp a _ hr (lY.start ops) aS hs.drew hv)))
     ·cases hc
    ·cases hc
   split at hc
   ·rename_i s' dZ;cases hc;split at dZ
    ·simp only[Kaa]at dZ;obtain⟨r0,hr,he⟩:=dZ;obtain⟨r,rfl,rfl⟩:=HS he.symm;rw[vc]at hv;exact wp_region_noPanic (wp_region_any hm (Hg _ _ _ _ _ (NV Fy hQ _ _ r fr hp a _ (Cr _ _ _ hr) (lY.start ops) aS hs.drew hv)))
    ·cases dZ
   ·exact key _ _ _ hc hv
  ·cases hc
 ·rename_i hd;have hdf:draw=false:=by simpa using hd
  subst hdf;simp only[Kaa]at hc;obtain⟨gs,hgs,he⟩:=hc;obtain⟨r,rfl,hr⟩:=HS he.symm;rw[vc]at hv;obtain⟨m1,m2⟩:=lJ hgs;refine wp_region (OO hQ gs (List.range ops.size) r fr hp a w (by simp[m1]) (fun k i g hk hg=>?_) aS hs hr hv);obtain⟨o,ho,ab⟩:=m2 k g hg;have yy:k<ops.size:=by have:=(Kaf.1 hk).1;simpa using this
  rw[KcN yy]at hk;cases hk;exact⟨o,by simpa using ho,ab⟩
end
end Go.FW
