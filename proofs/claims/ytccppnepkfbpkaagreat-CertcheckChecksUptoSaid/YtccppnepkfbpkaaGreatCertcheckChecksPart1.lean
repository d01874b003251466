/- Part 1 of the proof of CertcheckChecks: FwA, FwB, FwC, FwD, FwE, FwF, FwG, FwH, FwI, FwJ, FwK, FwL, FwLN, FwM, FwN, FwO. Own lemmas; no conditions. -/
import Derived.Test.YtccppnepkfbpkaaGreatCertcheckChecksPart0
import Derived.WalkKit
import Derived.Orders
import Derived.Laws.StructEq
import Derived.Deep.RegionHeld3
set_option maxHeartbeats 1000000
set_option linter.unusedSimpArgs false
set_option linter.unusedVariables false
set_option linter.unnecessarySimpa false
set_option maxRecDepth 100000
namespace Go.FW
open Go
inductive PV where
 |undef
 |int (k:IntKind) (n:Int)
 |bool (b:Bool)
 |aa
 |sl (e:Nat) (xs:List PV)
 |agg (cs:List PV)
 |aI (vs:List PV)
 |fn (f:FuncId) (first cap:List PV)
 |pt (cs:List PV)
 |mp (β i o:Nat)
 |aw (β o n:Nat)
 |rb (β o n:Nat)
 |aG (γ o n:Nat)
 |np (γ i o:Nat)
 |aM (cs:List PV)
 |dZ (cs:List PV)
 |aF (γ e ty:Nat) (xs:List PV)
 |str (s:ByteArray)
 |cP (cs:List PV) (q:PV)
 deriving Inhabited
abbrev PV.ms(β n:Nat):PV:=.aw β 0 n
def PV.cells:PV->List PV
 |.agg cs=>cs
 |x=>[x]
def PV.aW:PV->List PV
 |.aM cs=>cs
 |x=>x.cells
def PV.gF:PV->Bool
 |.undef=>false
 |_=>true
def PV.aD:PV->Bool
 |.int .. | .bool _| .aa| .sl .. | .agg _| .pt _| .str _=>true
 |.fn _ first cap=>first.all PV.gF&&cap.all PV.gF
 |_=>false
inductive Qp(w:World)(X:Nat->Prop):PV->Value->Prop
 |int (k:IntKind) (n:Int):Qp w X (.int k n) (.int k n)
 |bool (b:Bool):Qp w X (.bool b) (.bool b)
 |str (s:ByteArray):Qp w X (.str s) (.string s)
 |aa:Qp w X .aa (.slice none 0 0)
 |mE (e:Nat) (a:Option Addr) (cap:Nat) (hc:cap<=maxLen):Qp w X (.sl e []) (.slice a 0 cap)
 | sl (e:Nat) (xs:List PV) (b off cap:Nat) (vs:Nat->Nat->Value) (hX:¬X b) (hb:b<w.heap.size) (hl:xs.length<=cap) (hc:cap<=maxLen)
   (he:∀(i:Nat)(x:PV),xs[i]? =some x->x.cells.length=e)
   (hv:∀i,i<xs.length->∀j,j<e->w.cell? ⟨b,off+i*e+j,none⟩=some (vs i j))
   (hr:∀(i:Nat)(x:PV),xs[i]? =some x->∀(j:Nat)(y:PV),x.cells[j]? =some y->Qp w X y (vs i j)):
   Qp w X (.sl e xs) (.slice (some ⟨b,off,none⟩) xs.length cap)
 | pt (cs:List PV) (b off:Nat) (vs:Nat->Value) (hX:¬X b) (hb:b<w.heap.size)
   (hv:∀j,j<cs.length->w.cell? ⟨b,off+j,none⟩=some (vs j))
   (hr:∀(j:Nat)(y:PV),cs[j]? =some y->Qp w X y (vs j)):
   Qp w X (.pt cs) (.pointer (some ⟨b,off,none⟩))
 | fn (f:FuncId) (first cap:List PV) (fv cv:Array Value) (h1:fv.size=first.length) (h2:cv.size=cap.length)
   (qv:∀(i:Nat)(x:PV),first[i]? =some x->Qp w X x (fv.getD i undef)) (mz:∀(i:Nat)(x:PV),cap[i]? =some x->Qp w X x (cv.getD i undef)):
   Qp w X (.fn f first cap) (.func (.func f) fv cv)
structure Ext(Y:Nat->Prop)(w w':World):Prop where
 os:w'.os=w.os
 tape:w'.tape=w.tape
 output:w'.output=w.output
 size:w.heap.size<=w'.heap.size
 block:∀b,b<w.heap.size->¬Y b->w'.heap[b]? =w.heap[b]?
theorem Ext.refl(Y:Nat->Prop)(w:World):Ext Y w w:=⟨rfl,rfl,rfl,Nat.le_refl _,fun _ _ _=>rfl⟩
theorem Ext.trans{Y:Nat->Prop}{a b c:World}(h:Ext Y a b)(k:Ext Y b c):Ext Y a c:=
  ⟨k.os.trans h.os,k.tape.trans h.tape,k.output.trans h.output,Nat.le_trans h.size k.size,
   fun i hi hY=>(k.block i (Nat.lt_of_lt_of_le hi h.size) hY).trans (h.block i hi hY)⟩
theorem Ext.mono{Y Y':Nat->Prop}{a b:World}(h:Ext Y a b)(hY:∀i,i<a.heap.size->Y i->Y' i):Ext Y' a b:=
 ⟨h.os,h.tape,h.output,h.size,fun i hi hn=>h.block i hi (fun hy=>hn (hY i hi hy))⟩
theorem Ext.trans'{Y Y':Nat->Prop}{a b c:World}(h:Ext Y a b)(k:Ext Y' b c)(hY:∀i,i<a.heap.size->Y' i->Y i):Ext Y a c:=
  ⟨k.os.trans h.os,k.tape.trans h.tape,k.output.trans h.output,Nat.le_trans h.size k.size,
   fun i hi hn=>(k.block i (Nat.lt_of_lt_of_le hi h.size) (fun hy=>hn (hY i hi hy))).trans (h.block i hi hn)⟩
def ca:Nat->Prop:=fun _=>False
theorem u5{w w':World}{a:Addr}(h:w'.heap[a.block]? =w.heap[a.block]?):w'.cell? a=w.cell? a:=by simp[World.cell?,h]
theorem VO{w:World}{b o:Nat}{v:Value}(h:w.cell? ⟨b,o,none⟩=some v):b<w.heap.size:=by
 rcases Nat.lt_or_ge b w.heap.size with h'|h'
 ·exact h'
 ·simp[World.cell?,Array.getElem?_eq_none h']at h
theorem Qp.mono{w w':World}{X X':Nat->Prop}{p:PV}{v:Value}(h:Qp w X p v)
  (hb:∀b,b<w.heap.size->¬X b->w'.heap[b]? =w.heap[b]?) (hx:∀b,b<w.heap.size->¬X b->¬X' b) (hs:w.heap.size<=w'.heap.size):Qp w' X' p v:=by
 induction h with
 |int k n=>exact .int k n
 |bool b=>exact .bool b
 |str s=>exact .str s
 |aa=>exact .aa
 |mE e a cap hc=>exact .mE e a cap hc
 | sl e xs b off cap vs hX au hl hc he hv hr ih=>
  exact .sl e xs b off cap vs (hx b au hX) (Nat.lt_of_lt_of_le au hs) hl hc he
   (fun i hi j hj=>by rw[u5 (hb b au hX)];exact hv i hi j hj) (fun i x aS j y hy=>ih i x aS j y hy)
 |pt cs b off vs hX au hv hr ih=>exact .pt cs b off vs (hx b au hX) (Nat.lt_of_lt_of_le au hs) (fun j hj=>by rw[u5 (hb b au hX)];exact hv j hj) (fun j y hy=>ih j y hy)
 |fn f first cap fv cv h1 h2 qv mz ih1 J9=>exact .fn f first cap fv cv h1 h2 ih1 J9
theorem Qp.rT{w:World}{X:Nat->Prop}{p:PV}{v:Value}(h:Qp w X p v):v.oneCell'=true/\v.cells= #[v]/\p.cells=[p]:=by cases h<;>exact⟨rfl,rfl,rfl⟩
def Q6(w:World)(X:Nat->Prop):PV->Value->Prop
 |.agg cs,v=>∃vs:Array Value,v= .agg vs/\vs.size=cs.length/\∀i x,cs[i]? =some x->Qp w X x (vs.getD i undef)
 |p,v=>Qp w X p v
def eD(w:World)(X:Nat->Prop):PV->Value->Prop
 |.aI ps,v=>∃vs:Array Value,v= .tuple vs/\vs.size=ps.length/\∀i x,ps[i]? =some x->Q6 w X x (vs.getD i undef)
 |p,v=>Q6 w X p v
theorem Q6.mono{w w':World}{X X':Nat->Prop}{p:PV}{v:Value}(h:Q6 w X p v)
  (hb:∀b,b<w.heap.size->¬X b->w'.heap[b]? =w.heap[b]?) (hx:∀b,b<w.heap.size->¬X b->¬X' b) (hs:w.heap.size<=w'.heap.size):Q6 w' X' p v:=by
 cases p with
 |agg cs=>obtain⟨vs,rfl,h1,h2⟩:=h;exact⟨vs,rfl,h1,fun i x hi=>(h2 i x hi).mono hb hx hs⟩
 |_=>exact Qp.mono h hb hx hs
theorem eD.mono{w w':World}{X X':Nat->Prop}{p:PV}{v:Value}(h:eD w X p v)
  (hb:∀b,b<w.heap.size->¬X b->w'.heap[b]? =w.heap[b]?) (hx:∀b,b<w.heap.size->¬X b->¬X' b) (hs:w.heap.size<=w'.heap.size):eD w' X' p v:=by
 cases p with
 |aI ps=>obtain⟨vs,rfl,h1,h2⟩:=h;exact⟨vs,rfl,h1,fun i x hi=>(h2 i x hi).mono hb hx hs⟩
 |agg cs=>exact Q6.mono (p:=.agg cs) h hb hx hs
 |_=>exact Qp.mono h hb hx hs
theorem eD.Ty{w:World}{X:Nat->Prop}{p:PV}{v:Value}(h:Q6 w X p v):eD w X p v:=by
 cases p with
 |aI ps=>cases h
 |_=>exact h
theorem Q6.data{w:World}{X:Nat->Prop}{p:PV}{v:Value}(h:Q6 w X p v):p.aD=true:=by
 have hu:∀(x:PV)(u:Value),Qp w X x u->x.gF=true:=fun x u hx=>by cases hx<;>rfl
 have aP:∀(l:List PV)(vs:Array Value),(∀(i:Nat)(x:PV),l[i]? =some x->Qp w X x (vs.getD i undef))->l.all PV.gF=true:=fun l vs hl=>by rw[List.all_eq_true];intro x hx;obtain⟨i,hi⟩:=List.getElem?_of_mem hx;exact hu x _ (hl i x hi)
 cases p with
 |agg cs=>rfl
 |fn f first cap=>
  have h':Qp w X (.fn f first cap) v:=h;cases h' with
  |fn _ _ _ fv cv h1 h2 h3 h4=>simp[PV.aD,aP _ _ h3,aP _ _ h4]
 |_=>cases h<;>rfl
theorem Q6.cells{w:World}{X:Nat->Prop}{p:PV}{v:Value}(h:Q6 w X p v):
  v.cells.size=p.cells.length/\∀j y,p.cells[j]? =some y->Qp w X y (v.cells.getD j undef):=by
 by_cases ha:∃cs,p= .agg cs
 ·obtain⟨cs,rfl⟩:=ha;obtain⟨vs,rfl,h1,h2⟩:=h;exact⟨h1,h2⟩
 ·have hc:Qp w X p v:=by
   cases p with
   |agg cs=>exact absurd ⟨cs,rfl⟩ ha
   |_=>exact h
  obtain⟨_,h2,h3⟩:=hc.rT;rw[h2,h3];refine⟨rfl,fun j y hy=>?_⟩
  match j,hy with
  |0,hy=>simp at hy;subst hy;exact hc
  |j+1,hy=>simp at hy
theorem Q6.qD{w:World}{X:Nat->Prop}{p:PV}{v:Value}(h:Qp w X p v):Q6 w X p v:=by
 cases p with
 |agg cs=>cases h
 |_=>exact h
theorem Q6.TF{w:World}{X:Nat->Prop}{p:PV}{v:Value}(h:Q6 w X p v):∀u∈v.cells.toList,u.oneCell'=true:=by
 intro u hu;obtain⟨h1,h2⟩:=h.cells;obtain⟨j,hj,rfl⟩:=List.getElem_of_mem hu;have cg:j<v.cells.size:=by simpa using hj
 have hp:j<p.cells.length:=by omega
 have:=(h2 j p.cells[j] (List.getElem?_eq_getElem hp)).rT.1;simpa[Array.getD,cg]using this
abbrev Ka0:=@List.getElem?_append
abbrev Ka1:=@List.map_congr_left
abbrev Ka2:=@List.getElem?_drop
abbrev Ka3:=@List.replicate_zero
abbrev Ka4:=@List.mem_of_mem_take
abbrev Ka5:=@Nat.zero_add
abbrev Ka6:=@Nat.pos_of_ne_zero
abbrev Ka7:=@Int.natAbs_natCast
abbrev Ka8:=@Bool.false_eq_true
abbrev Ka9:=@Nat.mul_le_mul_left
abbrev KaA:=@Option.some.injEq
abbrev KaB:=@List.getElem?_of_mem
abbrev KaC:=@List.mem_cons
abbrev KaD:=@Nat.add_mul
abbrev KaE:=@List.mem_map
abbrev KaF:=@List.getElem?_take_of_lt
abbrev KaG:=@List.mem_append
abbrev KaH:=@List.nil_append
abbrev KaI:=@Nat.mod_eq_of_lt
abbrev KaJ:=@List.cons_append
abbrev KaK:=@List.contains_cons
abbrev KaL:=@Array.getD_eq_getD_getElem?
abbrev KaM:=@Nat.add_zero
abbrev KaN:=@List.flatMap_cons
abbrev KaO:=@Nat.le_trans
abbrev KaP:=@List.flatMap_nil
abbrev KaQ:=@List.length_cons
abbrev KaR:=@List.contains_nil
abbrev KaS:=@List.any_eq_true
abbrev KaT:=@List.take_length
abbrev KaU:=@Sem.run_pure
abbrev KaV:=@List.length_map
abbrev KaW:=@Nat.mul_add
abbrev KaX:=@Nat.mul_comm
abbrev KaY:=@List.length_drop
abbrev KaZ:=@List.mem_cons_of_mem
abbrev Kaa:=@Option.map_eq_some_iff
abbrev Kab:=@Option.bind_eq_some_iff
abbrev Kac:=@Option.some.inj
abbrev Kad:=@List.getD_eq_getElem?_getD
abbrev Kae:=@Nat.le_refl
abbrev Kaf:=@List.getElem?_eq_some_iff
abbrev Kag:=@List.getElem?_eq_getElem
abbrev Kah:=@List.getElem_mem
abbrev Kai:=@List.take_of_length_le
abbrev Kaj:=@List.mem_of_getElem?
abbrev Kak:=@Result.andThen_ok
abbrev Kal:=@List.drop_of_length_le
abbrev Kam:=@Nat.mul_le_mul_right
abbrev Kan:=@Sem.run_bind
abbrev Kao:=@List.take_succ_eq_append_getElem
abbrev Kap:=@List.all_eq_true
abbrev Kaq:=@List.mem_flatMap
abbrev Kar:=@List.append_nil
abbrev Kas:=@List.getElem?_map
abbrev Kat:=@List.length_eq_zero_iff
abbrev Kau:=@List.drop_eq_getElem_cons
abbrev Kav:=@Bool.and_eq_true
abbrev Kaw:=@List.mem_singleton
abbrev Kax:=@List.length_append
abbrev Kay:=@List.length_take
abbrev Kaz:=@List.getElem_of_mem
abbrev Kb0:=@List.mem_filterMap
abbrev Kb1:=@List.getElem_map
abbrev Kb2:=@List.eq_nil_of_length_eq_zero
abbrev Kb3:=@List.mem_append_left
abbrev Kb4:=@List.mapM_cons
abbrev Kb5:=@List.take_zero
abbrev Kb6:=@Array.size_append
abbrev Kb7:=@Option.pure_def
abbrev Kb8:=@Array.length_toList
abbrev Kb9:=@Option.bind_some
abbrev KbA:=@Nat.eq_of_mul_eq_mul_right
abbrev KbB:=@List.replicate_succ
abbrev KbC:=@Bool.or_eq_true
abbrev KbD:=@List.not_mem_nil
abbrev KbE:=@Nat.mul_left_comm
abbrev KbF:=@List.headD_eq_head?_getD
abbrev KbG:=@Nat.zero_mul
abbrev KbH:=@List.append_cons
abbrev KbI:=@Addr.add_lit
abbrev KbJ:=@Array.eq_empty_of_size_eq_zero
abbrev KbK:=@Option.bind_eq_bind
abbrev KbL:=@Nat.zero_le
abbrev KbM:=@Nat.pow_pos
abbrev KbN:=@List.size_toArray
abbrev KbO:=@Nat.mul_le_mul
abbrev KbP:=@Nat.min_eq_left
abbrev KbQ:=@List.map_append
abbrev KbR:=@Nat.add_comm
abbrev KbS:=@Nat.mul_zero
abbrev KbT:=@List.getElem?_append_right
abbrev KbU:=@Rat.intCast_le_intCast
abbrev KbV:=@Nat.mul_one
abbrev KbW:=@List.all_eq_false
abbrev KbX:=@Nat.add_assoc
abbrev KbY:=@Option.map_some
abbrev KbZ:=@Rat.mul_le_mul_of_nonneg_right
abbrev Kba:=@Option.getD_some
abbrev Kbb:=@Nat.mul_assoc
abbrev Kbc:=@Rat.intCast_eq_zero_iff
abbrev Kbd:=@Nat.div_lt_iff_lt_mul
abbrev Kbe:=@List.take_append_drop
abbrev Kbf:=@List.getLast?_eq_getElem?
abbrev Kbg:=@Int.toNat_natCast
abbrev Kbh:=@Nat.lt_of_lt_of_le
abbrev Kbi:=@Nat.div_add_mod
abbrev Kbj:=@Rat.intCast_natCast
abbrev Kbk:=@List.map_cons
abbrev Kbl:=@Array.getElem?_eq_some_iff
abbrev Kbm:=@Option.ne_none_iff_exists'
abbrev Kbn:=@List.length_nil
abbrev Kbo:=@List.mem_append_right
abbrev Kbp:=@List.mem_cons_self
abbrev Kbq:=@Array.getElem?_eq_getElem
abbrev Kbr:=@Array.mapM_eq_mapM_toList
abbrev Kbs:=@Nat.mod_lt
abbrev Kbt:=@List.mem_of_mem_drop
abbrev Kbu:=@Nat.pow_le_pow_right
abbrev Kbv:=@List.append_assoc
abbrev Kbw:=@List.drop_zero
abbrev Kbx:=@Nat.sub_self
abbrev Kby:=@List.map_nil
abbrev Kbz:=@Nat.pow_succ
abbrev KcA:=@Int.fdiv_eq_ediv_of_nonneg
abbrev KcB:=@List.getElem?_range
abbrev KcC:=@List.length_pos_iff
abbrev KcD:=@List.filterMap_cons
abbrev KcE:=@ByteArray.toList_eq
abbrev KcF:=@Nat.lt_or_ge
abbrev KcG:=@List.getElem_append_left
abbrev KcH:=@Bool.true_and
abbrev KcI:=@Nat.gcd_zero_right
abbrev KcJ:=@Rat.natCast_mul
abbrev KcK:=@List.length_zip
abbrev KcL:=@List.mem_filter
abbrev KcM:=@Nat.mul_pos
abbrev KcN:=@List.getElem_take
abbrev KcO:=@Rat.mkRat_self
abbrev KcP:=@Nat.gcd_dvd_left
abbrev KcQ:=@Nat.min_eq_right
abbrev KcR:=@Nat.gcd_le_right
abbrev KcS:=@List.getElem_zip
abbrev KcT:=@List.mapM_nil
abbrev KcU:=@List.sum_cons
abbrev Kca:=@Nat.sub_zero
abbrev Kcb:=@List.getElem?_take
abbrev Kcc:=@List.getElem?_append_left
abbrev Kcd:=@Nat.add_mul_mod_self_left
abbrev Kce:=@Nat.add_mul_div_left
abbrev Kcf:=@Array.getElem?_setIfInBounds_ne
abbrev Kcg:=@List.head?_drop
abbrev Kch:=@List.cons.injEq
abbrev Kci:=@List.mem_map_of_mem
abbrev Kcj:=@Nat.le_mul_of_pos_right
abbrev Kck:=@Nat.lt_succ_self
abbrev Kcl:=@Nat.div_eq_of_lt
abbrev Kcm:=@Rat.mkRat_eq_div
abbrev Kcn:=@Rat.mul_le_mul_of_nonneg_left
abbrev Kco:=@List.mem_range
abbrev Kcp:=@Rat.mul_nonneg
abbrev Kcq:=@Array.getElem?_eq_none
abbrev Kcr:=@List.length_eq_one_iff
abbrev Kcs:=@Nat.lt_of_le_of_lt
abbrev Kct:=@List.getLast?_cons
abbrev Kcu:=@Nat.one_mul
abbrev Kcv:=@Nat.div_le_self
abbrev Kcw:=@List.getElem?_eq_none
abbrev Kcx:=@Nat.gcd_comm
abbrev Kcy:=@List.any_eq_false
abbrev Kcz:=@List.foldl_append
attribute [go_sem_proc ↓] reduceIte
inductive aJ where
 |t (n:Nat)
 |c (p:PV)
 deriving Inhabited
inductive cc where
 |mv (d:Nat) (x:aJ)
 |pick (d:Nat) (c a b:aJ)
 |bin (d:Nat) (op:BinOp) (bt:Bool) (x y:aJ)
 |eqs (d:Nat) (ng:Bool) (x y:aJ)
 |wN (d:Nat) (ng:Bool) (x y:aJ)
 |BN (d:Nat) (x:aJ)
 |BM (d:Nat) (x i:aJ)
 |un (d:Nat) (op:UnOp) (x:aJ)
 |conv (d:Nat) (k:IntKind) (x:aJ)
 |len (d:Nat) (x:aJ)
 |mx (d:Nat) (x y:aJ)
 |mn (d:Nat) (x y:aJ)
 |idx (d e:Nat) (x i:aJ)
 |wB (d n e:Nat) (x i:aJ)
 |Bx (d n e:Nat) (ag:Bool) (x i:aJ)
 |bY (d off:Nat) (x:aJ)
 |ye (d off n:Nat) (ag:Bool) (x:aJ)
 |ld (d n:Nat) (ag:Bool) (x:aJ)
 |st (n:Nat) (x v:aJ)
 |box (d n ty:Nat) (v:aJ)
 |alloc (d n ty:Nat) (z:PV)
 |mk (d e bytes ty:Nat) (z:PV) (l c:aJ)
 |bs (d e ty:Nat) (parts:List aJ)
 |app (d e bytes ty:Nat) (s x:aJ)
 |uk (d e:Nat) (s x:aJ)
 |sl (d e:Nat) (x:aJ) (lo hi mx:Option aJ)
 |ext (d:Nat) (x:aJ) (i:Nat)
 |ej (d:Nat) (zero:List PV) (parts:List (Nat×Nat×aJ))
 |fn (d f:Nat) (first cap:List aJ)
 |call (d:Option Nat) (pr:Bool) (f:aJ) (args:List aJ)
 |BE (d:Option Nat) (x:aJ)
 |bad (d:Option Nat)
 deriving Inhabited
def cc.dst:cc->Option Nat
 |.mv d _| .pick d _ _ _| .bin d _ _ _ _| .eqs d _ _ _| .wN d _ _ _| .BN d _| .BM d _ _| .un d _ _| .conv d _ _| .len d _| .mx d _ _| .mn d _ _| .idx d _ _ _| .wB d _ _ _ _| .Bx d _ _ _ _ _| .bY d _ _| .ye d _ _ _ _
 |.ld d _ _ _| .box d _ _ _| .alloc d _ _ _| .mk d _ _ _ _ _ _| .bs d _ _ _| .app d _ _ _ _ _| .uk d _ _ _| .sl d _ _ _ _ _| .ext d _ _| .ej d _ _| .fn d _ _ _=>some d
 |.st _ _ _=>none
 |.call d _ _ _| .BE d _| .bad d=>d
structure mJ where
 g:Option (Nat×Bool)
 o:cc
 deriving Inhabited
inductive RT where
 |nil
 |o (g:Option (Nat×Bool)) (o:cc) (r:RT)
 |br (a b:RT)
 |wk (r:RT)
 deriving Inhabited
inductive SC where
 |skip
 |rg (r:RT)
 |raw (id:Nat) (ops:Array Oper)
 |seq (a b:SC)
 |cond (c:aJ) (a b:SC)
 |block (id:Nat) (a:SC)
 |loop (a:SC)
 |exit (id:Nat)
 |ret
 deriving Inhabited
def zF:Value->Option PV
 |.int k n=>some (.int k n)
 |.bool b=>some (.bool b)
 |.string s=>some (.str s)
 |.slice none 0 0=>some .aa
 |_=>none
def sj:Value->Option PV
 |.agg cs=>(cs.toList.mapM zF).map .agg
 |v=>zF v
def bJ:Operand->Option aJ
 |.tmp t=>some (.t t)
 |.const v=>(sj v).map .c
 |.func f=>some (.c (.fn f [] []))
 |.global _=>none
def dR(P:Program)(t:TypeId):Option Nat:=(P.info? t).map (·.size)
def lX(P:Program)(t:TypeId):Option Bool:=(P.underlying t).map fun d=>match d with| .struct _| .array _ _=>true|_=>false
def sB(P:Program)(t:TypeId):Option TypeId:=match P.underlying t with|some (.slice e)=>some e|_=>none
def jK(P:Program)(t:TypeId):Option (Nat×Nat×PV):=(P.info? t).bind fun i=>i.zero.bind fun z=>(sj z).map fun p=>(i.size,i.bytes,p)
def nU:Option Operand->Option (Option aJ)
 |none=>some none
 |some x=>(bJ x).map some
def z6(P:Program)(t:TypeId)(parts:List (Nat×Operand)):Option (List (Nat×Nat×aJ)):=
 match P.underlying t with
 |some (.struct fs)=>(fs.toList.mapM fun f=>(P.info? f.type).map fun i=>(f.offset,i.size)).bind fun pl=>parts.mapM fun p=>(pl[p.1]?).bind fun q=>(bJ p.2).map fun y=>(q.1,q.2,y)
 |some (.array _ e)=>(dR P e).bind fun n=>parts.mapM fun p=>(bJ p.2).map fun y=>(p.1*n,n,y)
 |_=>none
def FM(P:Program)(t:TypeId):Bool:=match P.underlying t with
 |some (.struct fs)=>match fs.toList with
  | [f, g] => f.name != "_" && g.name != "_" && f.offset == 0 && g.offset == 1 && (match P.underlying f.type with | some (.int _) => true | _ => false) && (match P.underlying g.type with | some (.int _) => true | _ => false) && !(P.stoodInHeld t) && !(P.eqGuardType P.depth t)
  |_=>false
 |_=>false
def B8:BinOp->Option Bool
 |.eql=>some false
 |.neq=>some true
 |_=>none
def xH(P:Program)(t:TypeId):Bool:=match P.underlying t with|some .string=>true|_=>false
def yR(P:Program)(op:BinOp)(t:TypeId)(d:Nat)(x y:aJ):cc:=
 match(if FM P t then B8 op else none)with
 |some ng=>.eqs d ng x y
 |none=>match(if xH P t then B8 op else none)with
  |some ng=>.wN d ng x y
  |none=>.bin d op (match P.underlying t with|some .bool=>true|_=>false) x y
def acq : List String := ["geoprover/matrix.reduce", "geoprover/matrix.subtract", "geoprover/geoproverref09.echelon"]
def My(P:Program)(f:aJ):Bool:=match f with
 |.c (.fn g _ _)=>(P.funcs[g]?).any fun fn=>acq.contains fn.name
 |_=>false
def mO(P:Program)(draw:Bool)(o:Oper):Option cc:=
 match o.op,o.dst with
 |.move x,some d| .assign x,some d=>(bJ x).map (.mv d)
 |.pick c a b,some d=>(bJ c).bind fun c=>(bJ a).bind fun a=>(bJ b).map fun b=>.pick d c a b
 |.binOp op t x y _,some d=>(bJ x).bind fun x=>(bJ y).map fun y=>yR P op t d x y
 |.unOp op _ x,some d=>(bJ x).map (.un d op)
 |.convert s t x,some d=>match P.underlying s,P.underlying t with
  |some _,some (.int k)=>(bJ x).map (.conv d k)
  |_,_=>none
 |.indexAddr t x i,some d=>(bJ x).bind fun x=>(bJ i).bind fun i=>match P.underlying t with
  |some (.slice e)=>(dR P e).map fun n=>.idx d n x i
  |some (.array len e)=>(dR P e).map fun n=>.wB d len n x i
  |_=>none
 |.index t x i,some d=>(bJ x).bind fun x=>(bJ i).bind fun i=>match P.underlying t with
  |some (.array len e)=>(dR P e).bind fun n=>(lX P e).map fun ag=>.Bx d len n ag x i
  |some .string=>some (.BM d x i)
  |_=>none
 |.fieldAddr t x j,some d=>(bJ x).bind fun x=>match P.underlying t with
  |some (.struct fs)=>(fs[j]?).bind fun f=>(dR P f.type).bind fun n=>if n=0 then none else some (.bY d f.offset x)
  |_=>none
 |.field t x j,some d=>(bJ x).bind fun x=>match P.underlying t with
  |some (.struct fs)=>(fs[j]?).bind fun f=>(dR P f.type).bind fun n=>(lX P f.type).map fun ag=>.ye d f.offset n ag x
  |_=>none
 |.load t x,some d=>(bJ x).bind fun x=>(dR P t).bind fun n=>(lX P t).map fun ag=>.ld d n ag x
 |.store t x v,none=>(bJ x).bind fun x=>(bJ v).bind fun v=>(dR P t).map fun n=>.st n x v
 |.box t v,some d=>(bJ v).bind fun v=>(dR P t).map fun n=>.box d n t v
 |.alloc t,some d=>(jK P t).map fun(n,_,z)=>.alloc d n t z
 |.makeSlice t l c,some d=>(bJ l).bind fun l=>(bJ c).bind fun c=>(sB P t).bind fun e=>(jK P e).map fun(n,by_,z)=>.mk d n by_ e z l c
 |.buildSlice t len parts,some d=>(sB P t).bind fun e=>(jK P e).bind fun r=>
   if parts.toList.map (·.1)=List.range len/\len*r.1<=16777216/\r.2.2.cells.length=r.1 then(parts.toList.mapM fun p=>bJ p.2).map fun ps=>.bs d r.1 e ps else none
 |.build t parts,some d=>(jK P t).bind fun(_,_,z)=>(z6 P t parts.toList).map fun ps=>.ej d z.cells ps
 |.slice t x lo hi m,some d=>(bJ x).bind fun x=>(nU lo).bind fun lo=>(nU hi).bind fun hi=>(nU m).bind fun m=>(sB P t).bind fun e=>(dR P e).map fun n=>.sl d n x lo hi m
 |.extract x i,some d=>(bJ x).map fun x=>.ext d x i
 |.makeFunc (.func f) first cap,some d=>(first.toList.mapM bJ).bind fun first=>(cap.toList.mapM bJ).map fun cap=>.fn d f first cap
 |.nilCheck x,d=>(bJ x).map fun x=>.BE d x
 |.call c,d=>match c.callee,c.args.toList,c.argTypes.toList,d with
  |.value f,args,_,d=>(bJ f).bind fun f=>(args.mapM bJ).map fun args=>.call d (draw&& !My P f) f args
  |.builtin .len,[x],[t],some d=>if xH P t then(bJ x).map fun x=>.BN d x else(sB P t).bind fun _=>(bJ x).map fun x=>.len d x
  |.builtin .max,[x,y],_,some d=>(bJ x).bind fun x=>(bJ y).map fun y=>.mx d x y
  |.builtin .min,[x,y],_,some d=>(bJ x).bind fun x=>(bJ y).map fun y=>.mn d x y
  |.builtin .append,[s,x],[t,u],some d=>(bJ s).bind fun s=>(bJ x).bind fun x=>(sB P t).bind fun e=>if t=u then(jK P e).bind fun r=>if r.2.2.cells.length=r.1 then some (.app d r.1 r.2.1 e s x)else none else none
  |.builtin .copy,[s,x],[t,u],some d=>(bJ s).bind fun s=>(bJ x).bind fun x=>(sB P t).bind fun e=>if t=u then(dR P e).map fun n=>.uk d n s x else none
  |_,_,_,_=>none
 |_,_=>none
def fm(P:Program)(draw:Bool)(o:Oper):cc:=(mO P draw o).getD (.bad o.dst)
def kp(P:Program)(n:Nat)(draw:Bool)(ops:Array Oper)(o:Oper):Option mJ:=
 if o.dst.all (· <n)then
  match o.guard with
  |none=>some ⟨none,fm P draw o⟩
  |some (j,want)=>match(ops[j]?).bind (·.dst)with
   |some s=>if s<n then some ⟨some (s,want),fm P draw o⟩else none
   |none=>none
 else none
def cc.cls:cc->Nat
 |.ld .. =>1
 |.box .. | .alloc .. | .mk .. | .bs .. | .call .. | .bad _=>2
 |.st .. | .app .. | .uk .. =>3
 |_=>0
def cc.iQ:cc->Bool
 |.st .. | .app .. | .uk .. =>true
 |.call _ pr _ _=> !pr
 |_=>false
def cc.apb:cc->Bool
 |.call .. =>true
 |_=>false
def qK(ops:Array Oper):Nat->Nat->Nat->Bool
 |0,_,_=>false
 |n+1,i,j=>match ops[j]? with
  |none=>false
  |some o=>o.after.toList.any fun e=>Region.binds .any e&&(e.on==i||qK ops n i e.on)
def tP(P:Program)(ops:Array Oper)(i:Nat):Nat:=((ops[i]?).map fun o=>(fm P true o).cls).getD 9
def xB(P:Program)(dr:Bool)(ops:Array Oper)(i:Nat):Bool:=((ops[i]?).map fun o=>(fm P dr o).iQ).getD false
def FT(P:Program)(dr:Bool)(ops:Array Oper)(aY:Array Bool)(i:Nat):Bool:=
  (Region.ready .any ops aY).contains i&&Region.free .any ops aY i&&
  (match tP P ops i with
   |0=>true
   |1=>(List.range ops.size).all fun j=> !xB P dr ops j||qK ops ops.size i j
   |_=>false)
def uh:List RT->RT
 | []=>.nil
 | [r]=>r
 |r::rs=>.br r (uh rs)
def pO(P:Program)(N:Nat)(dr:Bool)(ops:Array Oper):Nat->Array Bool->Option RT
 |0,aY=>if Region.ready .any ops aY==[]then some .nil else none
 |n+1,aY=>
  if Region.ready .any ops aY==[]then some .nil else
  match(List.range ops.size).find? (FT P dr ops aY)with
  |some i=>((ops[i]?).bind (kp P N dr ops)).bind fun g=>(pO P N dr ops n (aY.setIfInBounds i true)).map fun r=>.o g.g g.o r
  |none=>((Region.ready .any ops aY).mapM fun i=>((ops[i]?).bind (kp P N dr ops)).bind fun g=>(pO P N dr ops n (aY.setIfInBounds i true)).map fun r=>RT.o g.g g.o r).map uh
def zR(P:Program)(N:Nat)(dr:Bool)(ops:Array Oper):Nat->Array Bool->Option RT
 |0,aY=>if Region.ready .any ops aY==[]then some .nil else none
 | n+1,aY=>
  if Region.ready .any ops aY==[]then some .nil else
  match(List.range ops.size).find? (FT P dr ops aY)with
  |some i=>((ops[i]?).bind (kp P N dr ops)).bind fun g=>(zR P N dr ops n (aY.setIfInBounds i true)).map fun r=>.o g.g g.o r
  |none=>match Region.ready .any ops aY with
   | [i]=>((ops[i]?).bind (kp P N dr ops)).bind fun g=>(zR P N dr ops n (aY.setIfInBounds i true)).map fun r=>.o g.g g.o r
   |_=>none
theorem Cn{P:Program}{N:Nat}{dr:Bool}{ops:Array Oper}:∀(n:Nat)(aY:Array Bool)(r:RT),zR P N dr ops n aY=some r->pO P N dr ops n aY=some r
 |0,aY,r,h=>h
 | n +1,aY,r,h=>by
  unfold zR at h;unfold pO;split
  ·rename_i hr;rw[if_pos hr]at h;exact h
  ·rename_i hr;rw[if_neg hr]at h;split at h
   ·rename_i i hf;simp only[Kab,Kaa]at h⊢;obtain⟨g,hg,r',du,rfl⟩:=h;exact⟨g,hg,r',Cn n _ _ du,rfl⟩
   ·rename_i hf;split at h
    ·rename_i i Fj;simp only[Kab,Kaa]at h;obtain⟨g,⟨o,ho,hg⟩,r',du,rfl⟩:=h;simp[Fj,ho,hg,Cn n _ _ du,uh]
    ·cases h
def RT.count:RT->Nat
 |.nil=>1
 |.o _ _ r=>r.count
 |.br a b=>a.count+b.count
 |.wk r=>r.count
def xI:List mJ->RT
 | []=>.nil
 |g::gs=>.o g.g g.o (xI gs)
def acr(P:Program)(ops:Array Oper):Bool:=decide (ops.size<=100)&&ops.toList.any fun o=>(fm P false o).apb
def acs(P:Program)(ops:Array Oper):Bool:=
 let cs:=ops.toList.map (fm P true)
 decide (100<ops.size)||4<=(cs.filter fun o=>match o with| .app .. =>true|_=>false).length||
  (3<=(cs.filter fun o=>match o with| .box .. | .alloc .. =>true|_=>false).length&&3<=(cs.filter fun o=>match o with| .st .. =>true|_=>false).length)
def zG(P:Program)(N:Nat)(ops:Array Oper)(dr:Bool)(wH:Nat):Option SC:=
 if acs P ops then none else
 match pO P N dr ops ops.size (Array.replicate ops.size false)with
 |some r=>if r.count<=wH then some (.rg r)else none
 |none=>none
def zA(P:Program)(N:Nat)(ops:Array Oper)(draw:Bool):Option SC:=
 if draw then
  if Region.noSelect ops then
   match(if acr P ops then(zR P N false ops ops.size (Array.replicate ops.size false)).map .rg else none)with
   |some s=>some s
   |none=>zG P N ops true 100
  else none
 else(ops.toList.mapM (kp P N false ops)).map fun l=>.rg (xI l)
def fe(P:Program)(N:Nat):Code->Option SC
 |.skip=>some .skip
 |.region id ops draw=>match zA P N ops draw with
  |some s=>some s
  |none=>if draw then some (.raw id ops)else none
 |.seq a b=>(fe P N a).bind fun a=>(fe P N b).map fun b=>.seq a b
 |.cond c a b=>(bJ c).bind fun c=>(fe P N a).bind fun a=>(fe P N b).map fun b=>.cond c a b
 |.block id a=>(fe P N a).map (.block id)
 |.loop a=>(fe P N a).map .loop
 |.exit id=>some (.exit id)
 |.ret=>some .ret
 |_=>none
inductive RV where
 |t (s:Nat)
 |cell (s n:Nat) (ag:Bool)
 deriving Inhabited
def gu(P:Program)(r:ResultVar):Option RV:=
 match r with
 |.tmp t=>some (.t t)
 |.cell a t=>(dR P t).bind fun n=>(lX P t).map fun ag=>.cell a n ag
def RT.strip:RT->RT
 |.nil=>.nil
 |.o g p r=>.o g p r.strip
 |.br a b=>.br a.strip b.strip
 |.wk r=>r.strip
def SC.strip:SC->SC
 |.rg r=>.rg r.strip
 |.seq a b=>.seq a.strip b.strip
 |.cond c a b=>.cond c a.strip b.strip
 |.block id a=>.block id a.strip
 |.loop a=>.loop a.strip
 |s=>s
theorem OH:∀l:List mJ,(xI l).strip=xI l
 | []=>rfl
 |g::gs=>by simp only[xI,RT.strip,OH gs]
theorem Pt:∀l:List RT,(∀r∈l,r.strip=r)->(uh l).strip=uh l
 | [],_=>rfl
 | [r],h=>h r (by simp)
 |r::s::l,h=>by have:=Pt (s::l) fun x hx=>h x (KaZ _ hx);simp only[uh,RT.strip,h r (by simp),this]
theorem KN{α β:Type}{f:α->Option β}{Q:β->Prop}(hf:∀a b,f a=some b->Q b):∀(l:List α)(rs:List β),l.mapM f=some rs->∀r∈rs,Q r
 | [],rs,h=>by simp at h;subst h;simp
 |a::l,rs,h=>by
  simp only[Kb4,KbK,Kb7,Kab,KaA]at h;obtain⟨b,h1,bs,h2,rfl⟩:=h;intro r hr;rcases KaC.1 hr with rfl|hr
  ·exact hf _ _ h1
  ·exact KN hf l bs h2 r hr
theorem Cv{P:Program}{N:Nat}{dr:Bool}{ops:Array Oper}:∀(n:Nat)(aY:Array Bool)(r:RT),pO P N dr ops n aY=some r->r.strip=r
 |0,aY,r,h=>by
  unfold pO at h;split at h
  ·cases h;rfl
  ·cases h
 | n+1,aY,r,h=>by
  unfold pO at h;split at h
  ·cases h;rfl
  ·split at h
   ·simp only[Kab,Kaa]at h;obtain⟨g,_,r',du,rfl⟩:=h;simp only[RT.strip,Cv n _ _ du]
   ·simp only[Kaa]at h;obtain⟨rs,cN,rfl⟩:=h;refine Pt rs (KN (fun i b hb=>?_) _ rs cN);simp only[Kab,Kaa]at hb;obtain⟨g,_,r',du,rfl⟩:=hb;simp only[RT.strip,Cv n _ _ du]
theorem Qwt{P:Program}{N:Nat}{ops:Array Oper}{draw:Bool}{s:SC}(h:zA P N ops draw=some s):s.strip=s:=by
 unfold zA at h;split at h
 ·split at h
  ·have key:∀(dr:Bool) (wH:Nat) (s:SC),zG P N ops dr wH=some s->s.strip=s:=fun dr wH s hc=>by
    unfold zG at hc;split at hc
    ·cases hc
    split at hc
    ·rename_i r hr;split at hc
     ·cases hc;simp only[SC.strip,Cv _ _ _ hr]
     ·cases hc
    ·cases hc
   split at h
   ·rename_i s' ek;cases h;split at ek
    ·simp only[Kaa]at ek;obtain⟨r,hr,rfl⟩:=ek;simp only[SC.strip,Cv _ _ _ (Cn _ _ _ hr)]
    ·cases ek
   ·exact key _ _ _ h
  ·cases h
 ·simp only[Kaa]at h;obtain⟨gs,_,rfl⟩:=h;simp only[SC.strip,OH]
theorem NG{P:Program}{N:Nat}:∀(c:Code)(s:SC),fe P N c=some s->s.strip=s:=by
 intro c;induction c with
 |skip=>intro s h;simp[fe]at h;subst h;rfl
 | region id ops draw=>
  intro s h;simp only[fe]at h;split at h
  ·rename_i s' ek;cases h;exact Qwt ek
  ·split at h
   ·cases h;rfl
   ·cases h
 |seq x y kM wC=>intro s h;simp only[fe,Kab,Kaa]at h;obtain⟨sx,hx,sy,hy,rfl⟩:=h;simp only[SC.strip,kM _ hx,wC _ hy]
 |cond c x y kM wC=>intro s h;simp only[fe,Kab,Kaa]at h;obtain⟨pc,fC,sx,hx,sy,hy,rfl⟩:=h;simp only[SC.strip,kM _ hx,wC _ hy]
 |block id x kM=>intro s h;simp only[fe,Kaa]at h;obtain⟨sx,hx,rfl⟩:=h;simp only[SC.strip,kM _ hx]
 |loop x kM=>intro s h;simp only[fe,Kaa]at h;obtain⟨sx,hx,rfl⟩:=h;simp only[SC.strip,kM _ hx]
 |exit id=>intro s h;simp[fe]at h;subst h;rfl
 |ret=>intro s h;simp[fe]at h;subst h;rfl
 |_=>intro s h;simp[fe]at h
structure ay where
 n:Nat
 rs:List RV
 body:SC
 deriving Inhabited
def Qe(P:Program)(f:Func):Option ay:=
 f.body.bind fun c=>(fe P f.ntmps c).bind fun b=>(f.results.toList.mapM (gu P)).map fun rs=>⟨f.ntmps,rs,b⟩
def ay.strip(s:ay):ay:=⟨s.n,s.rs,s.body.strip⟩
theorem Gs{P:Program}{f:Func}{s:ay}(h:Qe P f=some s):Qe P f=some s.strip:=by have h0:=h;simp only[Qe,Kab,Kaa]at h;obtain⟨c,hb,sb,jk,rs,cN,rfl⟩:=h;rw[h0,ay.strip,NG _ _ jk]
abbrev Zo(o:cc)(r:RT):RT:=.o none o r
abbrev Zg(g:Nat)(b:Bool)(o:cc)(r:RT):RT:=.o (some (g,b)) o r
abbrev Zm(d x:Nat)(r:RT):RT:=.o none (.mv d (.t x)) r
abbrev Zc(d:Nat)(n:Int)(r:RT):RT:=.o none (.mv d (.c (.int .i64 n))) r
abbrev Zf(d o x:Nat)(r:RT):RT:=.o none (.bY d o (.t x)) r
abbrev Zl(d n x:Nat)(r:RT):RT:=.o none (.ld d n false (.t x)) r
abbrev Zh(d n x:Nat)(r:RT):RT:=.o none (.ld d n true (.t x)) r
abbrev Zs(n x v:Nat)(r:RT):RT:=.o none (.st n (.t x) (.t v)) r
abbrev Zi(d e x i:Nat)(r:RT):RT:=.o none (.idx d e (.t x) (.t i)) r
abbrev Zb(d:Nat)(o:BinOp)(x y:Nat)(r:RT):RT:=.o none (.bin d o false (.t x) (.t y)) r
abbrev Zk(d:Nat)(o:BinOp)(x:Nat)(n:Int)(r:RT):RT:=.o none (.bin d o false (.t x) (.c (.int .i64 n))) r
abbrev Zn(d x:Nat)(r:RT):RT:=.o none (.len d (.t x)) r
abbrev Zu(d x:Nat)(r:RT):RT:=.o none (.un d .not (.t x)) r
abbrev Zq(d:Nat)(p:Bool)(f:Nat)(l:List aJ)(r:RT):RT:=.o none (.call (some d) p (.c (.fn f [] [])) l) r
abbrev Zr(r:RT)(y:SC):SC:=.seq (.rg r) y
abbrev Zz(n:Int):PV:=.int .i64 n
theorem D0{p:Prop}(h:p:=by first|omega|rfl|(simp+decide only[go_sem]<;>rfl)|fail):p:=h
theorem D1{p A0:Prop}(x0:A0)(h:A0->p:=by intro x0;first|omega|rfl|(simp+decide only[go_sem,x0]<;>rfl)|fail):p:=h x0
theorem D2{p A0 A1:Prop}(x0:A0)(x1:A1)(h:A0->A1->p:=by intro x0 x1;first|omega|rfl|(simp+decide only[go_sem,x0,x1]<;>rfl)|fail):p:=h x0 x1
theorem D3{p A0 A1 A2:Prop}(x0:A0)(x1:A1)(x2:A2)(h:A0->A1->A2->p:=by intro x0 x1 x2;first|omega|rfl|(simp+decide only[go_sem,x0,x1,x2]<;>rfl)|fail):p:=h x0 x1 x2
theorem D4{p A0 A1 A2 A3:Prop}(x0:A0)(x1:A1)(x2:A2)(x3:A3)(h:A0->A1->A2->A3->p:=by intro x0 x1 x2 x3;first|omega|rfl|(simp+decide only[go_sem,x0,x1,x2,x3]<;>rfl)|fail):p:=h x0 x1 x2 x3
theorem D5{p A0 A1 A2 A3 A4:Prop}(x0:A0)(x1:A1)(x2:A2)(x3:A3)(x4:A4)(h:A0->A1->A2->A3->A4->p:=by intro x0 x1 x2 x3 x4;first|omega|rfl|(simp+decide only[go_sem,x0,x1,x2,x3,x4]<;>rfl)|fail):p:=h x0 x1 x2 x3 x4
theorem D6{p A0 A1 A2 A3 A4 A5:Prop}(x0:A0)(x1:A1)(x2:A2)(x3:A3)(x4:A4)(x5:A5)(h:A0->A1->A2->A3->A4->A5->p:=by intro x0 x1 x2 x3 x4 x5;first|omega|rfl|(simp+decide only[go_sem,x0,x1,x2,x3,x4,x5]<;>rfl)|fail):p:=h x0 x1 x2 x3 x4 x5
theorem E0{p:Prop}(h:p:=by first|omega|rfl|(simp+decide only[go_sem,ia,KaK,KaR,KaN,KaP,Kar]<;>rfl)|fail):p:=h
theorem E1{p A0:Prop}(x0:A0)(h:A0->p:=by intro x0;first|omega|rfl|(simp+decide only[go_sem,ia,KaK,KaR,KaN,KaP,Kar,x0]<;>rfl)|fail):p:=h x0
abbrev Ya(t:Nat)(r:RT):RT:=Zl t 1 57<|Zo (.conv (t+1) .u64 (.t t))<|Zb (t+2) .rem 53 (t+1) r
abbrev Yb(t:Nat)(a b:Nat)(r:RT):RT:=Zf t a b<|Zl (t+1) 1 t r
abbrev Yc(t:Nat)(a:Nat)  :RT:=Zm t a .nil
abbrev Yd(t:Nat)  :RT:=Zo (.mv t (.c (.bool false))) .nil
abbrev Ye(t:Nat)(a:Nat)(r:RT):RT:=Zo (.ext t (.t a) 0)<|Zo (.ext (t+1) (.t a) 1) r
abbrev Yf(t:Nat)(a b:Nat)(r:RT):RT:=Zo (.pick t (.t a) (.c (.bool true)) (.t b)) r
abbrev Yh(t:Nat)(a b:Nat)(r:RT):RT:=Zm t a<|Zm (t+1) b r
abbrev Yi(t:Nat)(a:Int)  :RT:=Zc t a .nil
abbrev Yj(t:Nat)(r:RT):RT:=Zo (.mv t (.c .aa)) r
abbrev Yk(t:Nat)(a b:Nat)(r:RT):RT:=Zo (.pick t (.t a) (.t b) (.c (.bool false))) r
abbrev Yl(t:Nat)(a b c:Nat)(r:RT):RT:=Zq t false a [.t b,.t c] r
abbrev Ym(t:Nat)(a b:Nat)(r:RT):RT:=Zi t 1 a b<|Zl (t+1) 1 t r
abbrev Yn(t:Nat)(a b:Nat)(r:RT):RT:=Zq t false a [.t b] r
abbrev Yo(t:Nat)(a:Nat)(r:RT):RT:=Zm t a<|Zn (t+1) t r
abbrev Yp(t:Nat)(a b c:Nat)(r:RT):RT:=Zq t true a [.t b,.t c] r
abbrev Yq(t:Nat)(r:RT):RT:=Zo (.alloc t 1 88 (.int .u64 0)) r
abbrev Yr(t:Nat)(a b c:Nat)(r:RT):RT:=Zm t a<|Zg t false (.bY (t+1) b (.t c))<|Zg t false (.ld (t+2) 1 false (.t (t+1))) r
abbrev Ys(t:Nat)(a b:Nat)  :RT:=Zb t .lss a b .nil
abbrev Yu(t:Nat)(a:Nat)(b:Int)(c:Nat)  :RT:=Zk t .eql a b<|Zm c t .nil
abbrev Yv(t:Nat)(a b:Nat)(r:RT):RT:=Zm t a<|Zg t false (.mv (t+1) (.t b)) r
abbrev Yw(t:Nat)(a:Nat)(b:Int)(r:RT):RT:=Zo (.idx t 1 (.t a) (.c (Zz b)))<|Zl (t+1) 1 t r
abbrev Yx(t:Nat)  :RT:=Zs t (t+9) 60 .nil
abbrev Yy(t:Nat)(r:RT):RT:=Zo (.alloc t 3 53 (.agg [.bool false,.aa,.aa])) r
abbrev Yz(t:Nat)(a b:Nat)  :RT:=Zk t .add a 1<|Yc b t
abbrev YA(t:Nat)(a b:Nat)(r:RT):RT:=Zm t a<|Zk (t+1) .gtr t 0<|Zm (t+2) (t+1)<|Zg (t+2) true (.mv (t+3) (.t 0))<|Zg (t+2) true (.mv (t+4) (.t a))<|Zg (t+2) true (.bin (t+5) .sub false (.t (t+4)) (.c (Zz 1)))<|Zg (t+2) true (.idx (t+6) b (.t (t+3)) (.t (t+5))) r
abbrev YB(t:Nat)(a b c d e:Nat)(r:RT):RT:=Zo (.bs t a b [.t c])<|Zo (.app (t+1) a d b (.t e) (.t t)) r
abbrev YC(t:Nat)(a b:Nat)  :RT:=Zk t .add a 1<|Zm b t .nil
abbrev YD(t:Nat)(a b c:Nat)(r:RT):RT:=Zh t 3 a<|Yn (t+1) 58 t<|Zm b (t+1)<|Ye (t+2) b<|Zo (.alloc c 2 51 (.agg [.bool false,.aa]))<|Zs 2 c (t+2) r
abbrev YE(t:Nat)(r:RT):RT:=Zl t 1 5<|Zk (t+1) .sub t 1<|Zi (t+2) 1 54 (t+1) r
abbrev YG(t:Nat)  :RT:=Zo (.mv t (.c (.bool true))) .nil
abbrev YH(t:Nat)  :RT:=Yj t .nil
abbrev YI(t:Nat)(a b:Nat)  :RT:=Yh t a b<|Zn (t+2) (t+1)<|Ys (t+3) t (t+2)
abbrev YJ(t:Nat)(a b:Nat)(r:RT):RT:=Zg t true (.bY (t+1) a (.t b))<|Zg t true (.ld (t+2) 1 false (.t (t+1))) r
abbrev YK(t:Nat)(a b:Nat)(r:RT):RT:=Zm t a<|Yn (t+1) b t r
abbrev YL(t:Nat)(a b:Nat)(r:RT):RT:=Zm t a<|Zg t true (.mv (t+1) (.t b)) r
abbrev YM(t:Nat)(a b:Nat)(r:RT):RT:=Zo (.box t 2 a (.t b)) r
abbrev YN(t:Nat)(a b c:Nat)(r:RT):RT:=Zi t a b c<|Zh (t+1) a t r
abbrev YO(t:Nat)(a b:Nat)(r:RT):RT:=Zh t 2 a<|Zh (t+1) 2 b r
abbrev YP(t:Nat)(a b:Nat)(r:RT):RT:=Yb t a b<|Zn (t+2) (t+1) r
abbrev YQ(t:Nat)(a:Int)(r:RT):RT:=Zm t 11<|Zo (.idx (t+1) 2 (.t t) (.c (Zz a))) r
abbrev YS(t:Nat)  :RT:=Zs t (t+8) 52<|Yx t
abbrev YT(t:Nat)(a:Nat)  :RT:=Zm t a<|Zk (t+1) .neq t 0 .nil
abbrev YU(t:Nat)(a:Nat)(r:RT):RT:=Zo (.alloc t 2 a (.agg [.aa,.aa])) r
abbrev YV(t:Nat)(a:Nat)  :RT:=Zm t a<|Yz (t+1) t a
abbrev YW(t:Nat)  :RT:=Zs t (t+8) 52<|Ya 58<|Yx t
abbrev YX(t:Nat)(a b c:Nat)(r:RT):RT:=Yh t a b<|Yl (t+2) c t (t+1) r
abbrev YY(t:Nat)(a b c:Nat)  :RT:=Zo (.conv t .u16 (.t a))<|Zi (t+1) 1 b c<|Zs 1 (t+1) t .nil
abbrev YZ(t:Nat)(a b:Nat)(r:RT):RT:=Zo (.box t (t+1) a (.t b)) r
abbrev xX(t:Nat)(a b c d:Nat)(r:RT):RT:=Yv t a b<|Zg t false (.bY (t+2) c (.t d))<|Zg t false (.ld (t+3) 1 false (.t (t+2)))<|Zg t false (.len (t+4) (.t (t+3)))<|Zg t false (.bin (t+5) .geq false (.t (t+1)) (.t (t+4)))<|Yf (t+6) t (t+5) r
abbrev nh(t:Nat)(a b c:Nat)(r:RT):RT:=Yv t a b<|Zg t false (.mv (t+2) (.t c)) r
abbrev dN(t:Nat)(a b c:Nat)(r:RT):RT:=Yb t a b<|Zm (t+2) c r
abbrev ma(t:Nat)(a b c d e f:Nat)  :RT:=Yl t a b c<|Zm d t<|Ye (t+1) d<|Zm e (t+1)<|Yc f (t+2)
abbrev rk(t:Nat)(a b:Nat)(r:RT):RT:=Zo (.ej t [.bool false,.aa,.aa,.aa] [(0,3,.t a),(3,1,.t b)]) r
abbrev qa(t:Nat)(r:RT):RT:=Zo (.alloc t 4 77 (.agg [.bool false,.aa,.aa,.aa])) r
abbrev cA(t:Nat)(a b c d:Nat)(r:RT):RT:=Yb t a b<|Yb (t+2) c d r
abbrev vI(t:Nat)(a:Nat)(r:RT):RT:=Zg t false (.call (some (t+2)) false (.c (.fn a [] [])) [.t (t+1)])<|Zg t false (.un (t+3) .not (.t (t+2)))<|Yf (t+4) t (t+3) r
abbrev eY(t:Nat)(a b:Nat)(r:RT):RT:=Yh t a b<|Ym (t+2) t (t+1) r
abbrev cW(t:Nat)(a b c:Nat)(r:RT):RT:=Yh t a b<|Zm (t+2) c r
abbrev o8(t:Nat)(a:Int)(r:RT):RT:=Zm t 8<|Yb (t+1) 1 3<|Yw (t+3) (t+2) a<|YN (t+5) 2 t (t+4) r
abbrev dh(t:Nat)(a b:Nat)  :RT:=Zm t a<|Yc b t
abbrev eF(t:Nat)(a b:Nat)(r:RT):RT:=Zf t 0 a<|Zh (t+1) b t r
abbrev iP(t:Nat)(r:RT):RT:=Zl t 1 3<|Zi (t+3) 1 t (t+2) r
abbrev Au(t:Nat)(a b:Nat)(r:RT):RT:=Zg t false (.bY (t+5) a (.t (t+4)))<|Zg t false (.bY (t+6) b (.t (t+5)))<|Zg t false (.ld (t+7) 1 false (.t (t+6)))<|Zg t false (.len (t+8) (.t (t+7)))<|Zg t false (.bin (t+9) .gtr false (.t (t+8)) (.c (Zz 2)))<|Yf (t+10) t (t+9) r
abbrev Av(t:Nat)(r:RT):RT:=Zm t 0<|YL (t+1) t 1<|Zg (t+1) true (.len (t+3) (.t (t+2)))<|Zg (t+1) true (.bin (t+4) .gtr false (.t (t+3)) (.c (Zz 0)))<|Yk (t+5) (t+1) (t+4)<|Zm (t+6) 1<|Zo (.ej (t+7) [.bool false,.aa] [(0,1,.t (t+5)),(1,1,.t (t+6))]) r
abbrev rm(t:Nat)(a:Nat)(b:Nat)(c:Int)(r:RT):RT:=Yv t a b<|Zg t false (.bin (t+2) .gtr false (.t (t+1)) (.c (Zz c))) r
abbrev xY(t:Nat)(a b:Nat)  :RT:=Zm t (t+2)<|Ye (t+3) t<|Zo (.alloc a 7 34 (.agg [.aa,.aa,.aa,.aa,.aa,.aa,.aa]))<|Zs 7 a (t+3)<|Zm b (t+4) .nil
abbrev rp(t:Nat)  :RT:=Zo (.alloc t 2 51 (.agg [.bool false,.aa])) .nil
abbrev vJ(t:Nat)(a:Int)(b:Nat)(c:Nat)  :RT:=Zo (.ej t [Zz 0,.aa,Zz 0] [(0,1,.c (Zz a)),(1,1,.t b),(2,1,.t c)])<|Zs 3 4 t<|YG 5
abbrev eG(t:Nat)(a b c d e:Nat)(r:RT):RT:=Yp t a b c<|Yp (t+1) d e t r
abbrev fJ(t:Nat)(a b:Nat)(r:RT):RT:=Zo (.box t t a (.t b)) r
abbrev eZ(t:Nat)(a:Nat)  :RT:=Yo t a<|Yi (t+2) 0
abbrev fu(t:Nat)(a:Nat)(b:Int)  :RT:=Zk t .gtr a b .nil
abbrev jd(t:Nat)(a:Nat)(r:RT):RT:=Zm t a<|Zk (t+1) .lss t 0 r
abbrev vG(t:Nat)(a b:Nat)(r:RT):RT:=nh t a 0 3<|Zg t false (.idx (t+3) 4 (.t (t+1)) (.t (t+2)))<|Zg t false (.bY (t+4) b (.t (t+3))) r
abbrev dm(t:Nat)(a b:Nat)  :RT:=Yf t a b .nil
abbrev eu(t:Nat)(a b:Nat)(r:RT):RT:=Zq t true a [.t b] r
abbrev dU(t:Nat)(a:Int)  :RT:=Yj t<|Yi (t+1) a
abbrev sO(t:Nat)  :RT:=Zo (.alloc t t 51 (.agg [.bool false,.aa])) .nil
abbrev At(t:Nat)(a b c:Nat)(r:RT):RT:=Zg t true (.bY (t+1) a (.t b))<|Zg t true (.ld (t+2) 3 true (.t (t+1)))<|Zg t true (.call (some (t+3)) false (.c (.fn c [] [])) [.t (t+2)])<|Zg t true (.un (t+4) .not (.t (t+3))) r
abbrev pZ(t:Nat)(a b:Nat)(r:RT):RT:=Zo (.mk t 1 2 128 (.int .u16 0) (.t a) (.t b)) r
abbrev n8(t:Nat)(a b c d:Nat)  :RT:=Zm t a<|Ym (t+1) b a<|Zm c t<|Yc d (t+2)
abbrev l9(t:Nat)(a b c:Nat)  :RT:=Zm t a<|YP (t+1) b c<|Ys (t+4) t (t+3)
abbrev xU(t:Nat)(a b c d:Nat)  :RT:=cW t a b c<|Zo (.sl (t+3) 4 (.t (t+1)) (some (.t (t+2))) none none)<|Zo (.app (t+4) 4 80 77 (.t t) (.t (t+3)))<|Yc d (t+4)
abbrev ue(t:Nat)(a:Nat)(r:RT):RT:=Zm t a<|Zo (.bin (t+1) .shr false (.t t) (.c (.int .u64 16))) r
abbrev jc(t:Nat)(a b c:Nat)(r:RT):RT:=dN t a b c<|Ym (t+3) (t+1) (t+2) r
abbrev o7(t:Nat)(r:RT):RT:=Zg t false (.len (t+3) (.t (t+2))) r
abbrev nf(t:Nat)(r:RT):RT:=Zg t true (.len (t+3) (.t (t+2))) r
abbrev kD(t:Nat)(a:Nat)(r:RT):RT:=Zo (.conv t .u32 (.t a)) r
abbrev xV(t:Nat)(a b:Nat)(r:RT):RT:=Yv t a b<|Zg t false (.len (t+2) (.t (t+1)))<|Zg t false (.bin (t+3) .eql false (.t (t+2)) (.c (Zz 0))) r
abbrev ir(t:Nat)(a:Nat)(b:Int)  :RT:=Zk t .eql a b .nil
abbrev gf(t:Nat)(a b c:Nat)(r:RT):RT:=Zh t a b<|Yn (t+1) c t r
abbrev iO(t:Nat)(r:RT):RT:=Yo t 0<|Yo (t+2) 1 r
abbrev n9(t:Nat)(a:Nat)(b:Nat)(c:Int)(r:RT):RT:=Zo (.wB t a 2 (.t b) (.c (Zz c))) r
abbrev kE(t:Nat)(a b:Nat)(r:RT):RT:=Yh t a b<|Zi (t+2) 4 t (t+1) r
abbrev vH(t:Nat)(r:RT):RT:=Zo (.ej t [.aa,.aa,.aa,.aa,.aa,.aa,.aa] []) r
abbrev lj(t:Nat)(a:Nat)(r:RT):RT:=Zo (.conv t .u64 (.t a)) r
abbrev xW(t:Nat)(a b c:Nat)(r:RT):RT:=YN t 6 a b<|Zo (.alloc c 6 133 (.agg [Zz 0,.str ⟨#[]⟩,.aa,.bool false,.aa,.aa])) r
abbrev uf(t:Nat)(a b:Nat)(r:RT):RT:=Zg t true (.mv (t+1) (.t a))<|Zg t true (.mv (t+2) (.t b)) r
abbrev cT(t:Nat)(a b:Nat)(r:RT):RT:=Zb t .add a b r
abbrev fK(t:Nat)  :RT:=Ya t<|YS 1
abbrev je(t:Nat)(a b:Nat)  :RT:=Zb t .neq a b .nil
abbrev ug(t:Nat)(a:Int)(r:RT):RT:=Zg t false (.bin (t+3) .gtr false (.t (t+2)) (.c (Zz a))) r
abbrev xZ(t:Nat)(a b c:Nat)  :RT:=Zo (.ej t [.bool false,.aa,.aa] [(0,2,.t a),(2,1,.t b)])<|Zs 3 c t .nil
abbrev fL(t:Nat)(a b c:Nat)(r:RT):RT:=Zh t a b<|Zm (t+1) c r
abbrev rq(t:Nat)(a:Nat)  :RT:=Zm t a<|Zk (t+1) .sub t 1<|Yc a (t+1)
abbrev ru(t:Nat)(r:RT):RT:=Zg t true (.ld (t+6) 1 false (.t (t+5))) r
abbrev vK(t:Nat)(a:Nat)(r:RT):RT:=Zg t true (.call (some (t+2)) false (.c (.fn a [] [])) [.t (t+1)]) r
abbrev jS(t:Nat)  :RT:=Zc t (-1) .nil
abbrev Aw(t:Nat)(a b:Nat)(r:RT):RT:=Yh t a 0<|Zn (t+2) (t+1)<|Zb (t+3) .lss t (t+2)<|nh (t+4) (t+3) b 1<|o7 (t+4)<|Zg (t+4) false (.bin (t+8) .lss false (.t (t+5)) (.t (t+7))) r
abbrev ry(t:Nat)(a b c:Nat)  :RT:=Zo (.bs t 1 43 [.t a,.t b])<|Yc c t
abbrev Fr:=Nat->PV
structure HB where
 e:Nat
 ty:TypeId
 xs:List PV
 fz:Bool
abbrev HP:=Nat->Option HB
def ab(f:Fr)(a:Nat)(v:PV):Fr:=fun b=>if b=a then v else f b
def Qk(h:HP)(a:Nat)(v:HB):HP:=fun b=>if b=a then some v else h b
def aK:Fr:=fun _=>.undef
def ax:HP:=fun _=>none
def bC(β:Nat):Bool:=decide (1000000<=β)
def aO(β:Nat):Bool:=decide (1000000<=β)&&decide (β<2000000)
def eI(β:Nat):Bool:=decide (1500000<=β)&&decide (β<2000000)
theorem xu{β:Nat}(h:aO β=false):eI β=false:=by simp[aO]at h;simp[eI];omega
theorem xv{β:Nat}(h:bC β=false):aO β=false:=by simp[bC]at h;simp[aO];omega
def PV.bw:PV->List Nat
 |.mp β _ _=>[β]
 |.aw β _ _| .rb β _ _=>[β]
 |_=>[]
def PV.refs:PV->List Nat
 |.mp β _ _=>[β]
 |.aw β _ _| .rb β _ _=>[β]
 |.fn _ first cap=>first.flatMap PV.bw++cap.flatMap PV.bw
 |_=>[]
def PV.kN:PV->Bool
 |.mp .. | .aw .. | .rb .. | .int .. | .bool _| .aa| .sl .. | .pt _| .np .. | .aG .. =>true
 |_=>false
def PV.dj:PV->List Nat
 |.aw β _ _=>[β]
 |.aG γ _ _| .np γ _ _=>[γ]
 |_=>[]
def PV.dY:PV->List Nat
 |.aG γ _ _| .np γ _ _=>[γ]
 |_=>[]
def PV.aR:PV->List Nat
 |.aG γ _ _| .np γ _ _=>[γ]
 |.aM cs=>cs.flatMap PV.dj
 |.dZ cs=>cs.flatMap PV.dj
 |.cP cs _=>cs.flatMap PV.dj
 |.aF γ _ _ xs=>γ::xs.flatMap fun x=>x.aW.flatMap PV.dj
 |.fn _ first cap=>first.flatMap PV.dY++cap.flatMap PV.dY
 |_=>[]
def bx(β:Nat)(p:PV):PV:=if p.refs.contains β then .undef else p
def bE(β:Nat)(fr:Fr):Fr:=fun i=>bx β (fr i)
def cj(hp:HP):PV->PV
 |.mp β i o=>if aO β then .undef else match hp β with
  |some hb=>match hb.xs[i]? with
   |some x=>.pt (x.cells.drop o)
   |none=>.undef
  |none=>.undef
 |.aw β o n=>if aO β then .undef else match hp β with
  |some hb=>.sl hb.e ((hb.xs.drop o).take n)
  |none=>.undef
 |.rb _ _ _| .aG _ _ _| .np _ _ _| .aM _| .dZ _| .cP _ _| .aF _ _ _ _=>.undef
 |p=>p
def Qt(hp:HP):PV->PV
 |.fn f first cap=>.fn f (first.map (cj hp)) (cap.map (cj hp))
 |p=>cj hp p
def Qy(hp:HP)(l:List Nat):HP:=fun β=>if l.contains β then(hp β).map fun hb=>{ hb with fz:=true }else hp β
def ev(fr:Fr):aJ->PV
 |.t n=>fr n
 |.c p=>p
def dQ:Bool->Nat->Nat->PV->PV
 |true,n,o,x=>.agg ((x.cells.drop o).take n)
 |false,_,o,x=>(x.cells.drop o).headD .undef
def rW(x:PV)(o:Nat)(v:PV):PV:=.agg (x.cells.take o++v.cells++x.cells.drop (o+v.cells.length))
def PV.oA:PV->Bool
 |.aw .. | .aG .. | .undef=>true
 |_=>false
def nQ(cs:List PV):PV:=if cs.any PV.oA then .aM cs else .agg cs
def ft:List PV->PV
 | [c]=>c
 |cs=>nQ cs
def rR(ag:Bool)(n o:Nat)(x:PV):PV:=if ag then nQ ((x.aW.drop o).take n)else(x.aW.drop o).headD .undef
def eT:PV->Option (List PV)
 |.aM cs=>if cs.all PV.gF then some cs else none
 |.aG γ o n=>some [.aG γ o n]
 |.aw β o n=>if bC β then some [.aw β o n]else none
 |.int k n=>some [.int k n]
 |.bool b=>some [.bool b]
 |.aa=>some [.aa]
 |.sl e xs=>some [.sl e xs]
 |.pt cs=>some [.pt cs]
 |.agg cs=>some cs
 |_=>none
def pT(l:List PV)(o:Nat)(cs:List PV):List PV:=l.take o++cs++l.drop (o+cs.length)
def iX(γ:Nat):PV->PV
 |.aF aZ e ty xs=>if aZ=γ then .undef else .aF aZ e ty xs
 |p=>p
def iJ(γ:Nat)(fr:Fr):Fr:=fun i=>iX γ (fr i)
def ij(β:Nat):PV->PV
 |.aw bB o n=>if bB=β then .undef else .aw bB o n
 |.aG γ o n=>if γ=β then .undef else .aG γ o n
 |p=>p
def cS(β:Nat):PV->PV
 |.aF γ e ty xs=>if γ=β then .undef else .aF γ e ty (xs.map fun x=>ft (x.aW.map (ij β)))
 |.aM cs=>.aM (cs.map (ij β))
 |.dZ cs=>.dZ (cs.map (ij β))
 |.cP cs q=>.cP (cs.map (ij β)) q
 |.aG γ o n=>if γ=β then .undef else .aG γ o n
 |.np γ i o=>if γ=β then .undef else .np γ i o
 |.fn f first cap=>if(first.flatMap PV.dY++cap.flatMap PV.dY).contains β then .undef else bx β (.fn f first cap)
 |p=>bx β p
def ff(β:Nat)(fr:Fr):Fr:=fun i=>cS β (fr i)
abbrev Qi:=Fr->HP->Prop
def bQ(op:BinOp)(bt:Bool)(a b:PV)(d:Nat)(fr:Fr)(hp:HP)(K:Qi):Prop:=
 match a,b with
 |.int k x,.int k' y=>
  match op with
  |.shl=>0<=y/\K (ab fr d (.int k (k.wrap (x*2^(min y.toNat k.bits))))) hp
  |.shr=>0<=y/\K (ab fr d (.int k (x.fdiv (2^(min y.toNat k.bits))))) hp
  |.add=>k=k'/\K (ab fr d (.int k (k.wrap (x+y)))) hp
  |.sub=>k=k'/\K (ab fr d (.int k (k.wrap (x-y)))) hp
  |.mul=>k=k'/\K (ab fr d (.int k (k.wrap (x*y)))) hp
  |.quo=>k=k'/\y≠0/\K (ab fr d (.int k (k.wrap (x.tdiv y)))) hp
  |.rem=>k=k'/\y≠0/\K (ab fr d (.int k (x.tmod y))) hp
  |.and=>k=k'/\K (ab fr d (.int k (k.wrap (BitVec.ofInt k.bits x&&&BitVec.ofInt k.bits y).toNat))) hp
  |.or=>k=k'/\K (ab fr d (.int k (k.wrap (BitVec.ofInt k.bits x|||BitVec.ofInt k.bits y).toNat))) hp
  |.xor=>k=k'/\K (ab fr d (.int k (k.wrap (BitVec.ofInt k.bits x^^^BitVec.ofInt k.bits y).toNat))) hp
  |.andNot=>False
  |.eql=>k=k'/\K (ab fr d (.bool (decide (x=y)))) hp
  |.neq=>k=k'/\K (ab fr d (.bool (!decide (x=y)))) hp
  |.lss=>k=k'/\K (ab fr d (.bool (decide (x<y)))) hp
  |.leq=>k=k'/\K (ab fr d (.bool (decide (x<=y)))) hp
  |.gtr=>k=k'/\K (ab fr d (.bool (decide (y<x)))) hp
  |.geq=>k=k'/\K (ab fr d (.bool (decide (y<=x)))) hp
 |.bool x,.bool y=>
  match op with
  |.eql=>bt=true/\K (ab fr d (.bool (x==y))) hp
  |.neq=>bt=true/\K (ab fr d (.bool (!(x==y)))) hp
  |_=>False
 |_,_=>False
def ra(ng:Bool)(a b:PV)(d:Nat)(fr:Fr)(hp:HP)(K:Qi):Prop:=
 match a,b with
 |.agg [.int k x,.int l y],.agg [.int k' x',.int l' y']=>k=k'/\l=l'/\K (ab fr d (.bool (ng !=(decide (x=x')&&decide (y=y'))))) hp
 |_,_=>False
def re(ng:Bool)(a b:PV)(d:Nat)(fr:Fr)(hp:HP)(K:Qi):Prop:=
 match a,b with
 |.str x,.str y=>K (ab fr d (.bool (ng !=decide (x=y)))) hp
 |_,_=>False
def vA(a:PV)(d:Nat)(fr:Fr)(hp:HP)(K:Qi):Prop:=
 match a with
 |.str s=>K (ab fr d (.int .i64 s.size)) hp
 |_=>False
def tU(a i:PV)(d:Nat)(fr:Fr)(hp:HP)(K:Qi):Prop:=
 match a,i with
 |.str s,.int _ n=>0<=n/\n<s.size/\K (ab fr d (.int .u8 (s.get! n.toNat).toNat)) hp
 |_,_=>False
def sC(c a b:PV)(d:Nat)(fr:Fr)(hp:HP)(K:Qi):Prop:=
 match c with
 |.bool t=>(t=true->K (ab fr d a) hp)/\(t=false->K (ab fr d b) hp)
 |_=>False
def uU(op:UnOp)(a:PV)(d:Nat)(fr:Fr)(hp:HP)(K:Qi):Prop:=
 match op,a with
 |.not,.bool b=>K (ab fr d (.bool !b)) hp
 |.neg,.int k n=>K (ab fr d (.int k (k.wrap (0-n)))) hp
 |_,_=>False
def vp(k:IntKind)(a:PV)(d:Nat)(fr:Fr)(hp:HP)(K:Qi):Prop:=
 match a with
 |.int _ n=>K (ab fr d (.int k (k.wrap n))) hp
 |_=>False
def oY(a:PV)(d:Nat)(fr:Fr)(hp:HP)(K:Qi):Prop:=
 match a with
 |.aa=>K (ab fr d (.int .i64 0)) hp
 |.sl _ xs=>K (ab fr d (.int .i64 xs.length)) hp
 |.aw _ _ n=>K (ab fr d (.int .i64 n)) hp
 |.aG _ _ n=>K (ab fr d (.int .i64 n)) hp
 |_=>False
def wI(a b:PV)(d:Nat)(fr:Fr)(hp:HP)(K:Qi):Prop:=
 match a,b with
 |.int k x,.int _ y=>K (ab fr d (.int k (max x y))) hp
 |_,_=>False
def wG(a b:PV)(d:Nat)(fr:Fr)(hp:HP)(K:Qi):Prop:=
 match a,b with
 |.int k x,.int _ y=>K (ab fr d (.int k (min x y))) hp
 |_,_=>False
def Q7(e:Nat)(a i:PV)(d:Nat)(fr:Fr)(hp:HP)(K:Qi):Prop:=
 match a,i with
 |.sl e' xs,.int _ n=>e=e'/\0<=n/\∃h:n.toNat<xs.length,K (ab fr d (.pt (xs[n.toNat]'h).cells)) hp
 |.aw β o m,.int _ n=>0<=n/\n.toNat<m/\(hp β).map (·.e)=some e/\K (ab fr d (.mp β (o+n.toNat) 0)) hp
 |.aG γ o m,.int _ n=>0<=n/\n.toNat<m/\(hp γ).map (·.e)=some e/\K (ab fr d (.np γ (o+n.toNat) 0)) hp
 |_,_=>False
def jI(len e:Nat)(a i:PV)(d:Nat)(fr:Fr)(hp:HP)(K:Qi):Prop:=
 match a,i with
 |.mp β j o,.int _ n=>0<=n/\n<len/\K (ab fr d (.mp β j (o+n.toNat*e))) hp
 |.pt cs,.int _ n=>0<=n/\n<len/\n.toNat*e<=cs.length/\K (ab fr d (.pt (cs.drop (n.toNat*e)))) hp
 |_,_=>False
def xJ(len e:Nat)(ag:Bool)(a i:PV)(d:Nat)(fr:Fr)(hp:HP)(K:Qi):Prop:=
 match a,i with
 |.agg cs,.int _ n=>0<=n/\n<len/\n.toNat*e+e<=cs.length/\(ag=false->e=1)/\K (ab fr d (dQ ag e (n.toNat*e) (.agg cs))) hp
 |_,_=>False
def rf(off:Nat)(a:PV)(d:Nat)(fr:Fr)(hp:HP)(K:Qi):Prop:=
 match a with
 |.mp β i o=>K (ab fr d (.mp β i (o+off))) hp
 |.np γ i o=>K (ab fr d (.np γ i (o+off))) hp
 |.pt cs=>off<=cs.length/\K (ab fr d (.pt (cs.drop off))) hp
 |_=>False
def qV(off n:Nat)(ag:Bool)(a:PV)(d:Nat)(fr:Fr)(hp:HP)(K:Qi):Prop:=
 match a with
 |.agg cs=>off+n<=cs.length/\(ag=false->n=1)/\K (ab fr d (dQ ag n off (.agg cs))) hp
 |.aM cs=>off+n<=cs.length/\(ag=false->n=1)/\K (ab fr d (rR ag n off (.aM cs))) hp
 |_=>False
def bo(n:Nat)(ag:Bool)(a:PV)(d:Nat)(fr:Fr)(hp:HP)(K:Qi):Prop:=
 match a with
 |.mp β i o=>match hp β with
  |some hb=>∃h:i<hb.xs.length,o+n<=hb.e/\(ag=false->n=1)/\K (ab fr d (dQ ag n o (hb.xs[i]'h))) hp
  |none=>False
 |.pt cs=>n<=cs.length/\(ag=false->n=1)/\K (ab fr d (dQ ag n 0 (.agg cs))) hp
 |.rb β o m=>n=1/\ag=false/\K (ab fr d (.aw β o m)) hp
 |.np γ i o=>match fr γ with
  |.aF aZ e _ xs=>aZ=γ/\∃h:i<xs.length,o+n<=e/\(ag=false->n=1)/\K (ab fr d (rR ag n o (xs[i]'h))) hp
  |_=>False
 |_=>False
def nH (n:Nat) (a v:PV) (fr:Fr) (hp:HP) (K:Qi):Prop:=
 match a with
 |.mp β i o=>match Qy hp v.refs β with
  | some hb=>hb.fz=false/\(Qt hp v).aD=true/\(Qt hp v).cells.length=n/\∃h:i<hb.xs.length,o+n<=hb.e/\
    K fr (Qk (Qy hp v.refs) β { hb with xs:=hb.xs.set i (if n=hb.e then Qt hp v else rW (hb.xs[i]'h) o (Qt hp v)) })
  |none=>False
 |.np γ i o=>match fr γ with
  |.aF aZ e ty xs=>aZ=γ/\(∃hb,hp γ=some hb/\hb.fz=false)/\∃h:i<xs.length,o+n<=e/\match eT v with
   |some cs=>cs.length=n/\K (ab (iJ γ fr) γ (.aF γ e ty (xs.set i (ft (pT (xs[i]'h).aW o cs))))) hp
   |none=>False
  |_=>False
 |_=>False
def cR(d:Nat):Nat:=4000000+d
def tV(n ty:Nat)(cs:List PV)(d:Nat)(fr:Fr)(hp:HP)(K:Qi):Prop:=
 (cs.length=n/\0<n/\cs.all PV.gF=true/\cs.all (fun x=> !(x.dj.contains (cR d)))=true)/\
  K (ab (ab (ff (cR d) fr) (cR d) (.aF (cR d) n ty [.aM cs])) d (.np (cR d) 0 0)) (Qk hp (cR d) ⟨n,ty,[],false⟩)
def eU(n ty:Nat)(v:PV)(d:Nat)(fr:Fr)(hp:HP)(K:Qi):Prop:=
 match v with
 |.aM cs=>tV n ty cs d fr hp K
 |v=>match(match v with| .aw β o m=>if aO β then some (β,o,m)else none|_=>none)with
 |some (β,o,m)=>K (ab fr d (.rb β o m)) hp
 |none=>
 (Qt hp v).aD=true/\(Qt hp v).cells.length=n/\0<n/\K (ab (bE d fr) d (.mp d 0 0)) (Qk (Qy hp v.refs) d ⟨n,ty,[Qt hp v],false⟩)
def nD(e by_ ty:Nat)(z l c:PV)(d:Nat)(fr:Fr)(hp:HP)(K:Qi):Prop:=
 match l,c with
 |.int _ L,.int _ C=>0<e/\z.cells.length=e/\0<=L/\L<=C/\by_*C<=281474976710656/\C<=9223372036854775807/\
   K (ab (bE d fr) d (.ms d L.toNat)) (Qk hp d ⟨e,ty,List.replicate L.toNat z,false⟩)
 |_,_=>False
def zL(hp:HP)(e:Nat)(ps:List PV):Prop:=∀p∈ps,(Qt hp p).aD=true/\(Qt hp p).cells.length=e
def lR:PV->Bool
 |.aw β 0 _=>decide (5000000<=β)
 |_=>false
def mY:List PV->Bool
 | [x]=>lR x
 |_=>false
def Rg(e ty:Nat)(ps:List PV)(d:Nat)(fr:Fr)(hp:HP)(K:Qi):Prop:=
 e=1/\K (ab (ab (ff (cR d) fr) (cR d) (.aF (cR d) 1 ty ps)) d (.aG (cR d) 0 1)) (Qk hp (cR d) ⟨1,ty,[],false⟩)
def xK (e by_ ty:Nat) (s x:PV) (d:Nat) (fr:Fr) (hp:HP) (K:Qi):Prop:=
 match x with
 |.aG δ 0 1=>match fr δ with
  |.aF KA 1 _ [y]=>KA=δ/\lR y=true/\e=1/\
   match s with
   |.aa=>by_<=140737488355328/\K (ab (ab (ff (cR d) fr) (cR d) (.aF (cR d) 1 ty [y])) d (.aG (cR d) 0 1)) (Qk hp (cR d) ⟨1,ty,[],false⟩)
   |.aG γ 0 k=>match fr γ with
    |.aF aZ 1 oE xs=>(aZ=γ/\γ<5000000/\aO γ=false/\oE=ty/\k=xs.length/\xs.all lR=true/\(k+1)*by_<=140737488355328/\k+1<=9223372036854775807)/\(∃hb,hp γ=some hb/\hb.fz=false)/\
      K (ab (ab (ff γ fr) γ (.aF γ 1 ty (xs++[y]))) d (.aG γ 0 (k+1))) (Qk hp γ ⟨1,ty,[],false⟩)
    |_=>False
   |_=>False
  |_=>False
 |_=>False
def Ax(e ty:Nat)(ps:List PV)(d:Nat)(fr:Fr)(hp:HP)(K:Qi):Prop:=
 0<e/\zL hp e ps/\K (ab (bE d fr) d (.ms d ps.length)) (Qk (Qy hp (ps.flatMap PV.refs)) d ⟨e,ty,ps.map (Qt hp),false⟩)
def kF(e ty:Nat)(ps:List PV)(d:Nat)(fr:Fr)(hp:HP)(K:Qi):Prop:=if mY ps=true then Rg e ty ps d fr hp K else Ax e ty ps d fr hp K
def ju(hp:HP):PV->Option (Nat×List PV)
 |.aa=>some (0,[])
 |.sl e xs=>some (e,xs)
 |.aw β o n=>(hp β).map fun hb=>(hb.e,(hb.xs.drop o).take n)
 |_=>none
def iL (e by_ ty:Nat) (s x:PV) (d:Nat) (fr:Fr) (hp:HP) (K:Qi):Prop:=
 match ju hp x with
 |none=>xK e by_ ty s x d fr hp K
 | some (e',ys)=>0<e/\(e'=e∨ys=[])/\
  match s with
  |.aa=>ys.length*by_<=140737488355328/\ys.length<=9223372036854775807/\
    K (ab (bE d fr) d (.ms d ys.length)) (Qk hp d ⟨e,ty,ys,false⟩)
  |.aw β 0 n=>match hp β with
   | some hb=>(bC β=false/\hb.fz=false/\hb.e=e/\hb.ty=ty/\n<=hb.xs.length/\(n+ys.length)*by_<=140737488355328/\n+ys.length<=9223372036854775807/\
     K (ab (bE β fr) d (.ms β (n+ys.length))) (Qk hp β ⟨e,ty,hb.xs.take n++ys,false⟩))∨
    (bC β=true/\aO β=false/\(ys≠[]/\hb.fz=false/\hb.e=e/\hb.ty=ty/\n<=hb.xs.length/\(n+ys.length)*by_<=140737488355328/\n+ys.length<=9223372036854775807)/\
     K (ab (ff β fr) d (.ms β (n+ys.length))) (Qk hp β ⟨e,ty,hb.xs.take n++ys,false⟩))
   |none=>False
  |_=>False
def tW (e:Nat) (s x:PV) (d:Nat) (fr:Fr) (hp:HP) (K:Qi):Prop:=
 match ju hp x,s with
 |some (e',ys),.aw β 0 n=>match hp β with
  | some hb=>0<e/\hb.fz=false/\hb.e=e/\(e'=e∨ys=[])/\n=hb.xs.length/\
    K (ab fr d (.int .i64 (min (ys.length:Int) n))) (Qk hp β { hb with xs:=ys.take n++hb.xs.drop ys.length })
  |none=>False
 |_,_=>False
def gZ(d:Int):Option PV->Option Int
 |none=>some d
 |some (.int _ n)=>some n
 |some _=>none
def iE(e:Nat)(a:PV)(lo hi mx:Option PV)(d:Nat)(fr:Fr)(hp:HP)(K:Qi):Prop:=
 match a with
 |.aa=>match gZ 0 lo,gZ 0 hi,gZ 0 mx with
  |some L,some H,some M=>L=0/\H=0/\M=0/\(mx.isSome->hi.isSome)/\K (ab fr d .aa) hp
  |_,_,_=>False
 |.sl e' xs=>match gZ 0 lo,gZ xs.length hi,gZ xs.length mx with
  |some L,some H,some M=>e'=e/\0<=L/\L<=H/\H<=M/\M<=xs.length/\(mx.isSome->hi.isSome)/\K (ab fr d (.sl e ((xs.take H.toNat).drop L.toNat))) hp
  |_,_,_=>False
 |.aw β o n=>match gZ 0 lo,gZ n hi,mx with
  |some L,some H,none=>(hp β).map (·.e)=some e/\0<=L/\L<=H/\H<=n/\(L=0∨L<n)/\K (ab fr d (.aw β (o+L.toNat) (H.toNat-L.toNat))) hp
  |_,_,_=>False
 |_=>False
def lY(a:PV)(i:Nat)(d:Nat)(fr:Fr)(hp:HP)(K:Qi):Prop:=
 match a with
 |.aI ps=>match ps[i]? with
  |some p=>p.aD=true/\K (ab fr d p) hp
  |none=>False
 |.dZ ps=>match ps[i]? with
  |some p=>K (ab fr d p) hp
  |none=>False
 |.cP cs q=>match i with
  |0=>K (ab fr d (.aM cs)) hp
  |1=>K (ab fr d q) hp
  |_=>False
 |_=>False
def gL(cells:List PV):List (Nat×List PV)->List PV
 | []=>cells
 |(o,xs)::r=>gL (cells.take o++xs++cells.drop (o+xs.length)) r
def FU(hp:HP)(len:Nat)(ps:List (Nat×Nat×PV)):Prop:=∀p∈ps,(Qt hp p.2.2).aD=true/\(Qt hp p.2.2).cells.length=p.2.1/\p.1+p.2.1<=len
def Al(zero:List PV)(ps:List (Nat×Nat×PV))(d:Nat)(fr:Fr)(hp:HP)(K:Qi):Prop:=
 FU hp zero.length ps/\K (ab fr d (.agg (gL zero (ps.map fun p=>(p.1,(Qt hp p.2.2).cells))))) (Qy hp (ps.flatMap fun p=>p.2.2.refs))
def PV.nB:PV->Bool
 |.aG .. | .aM _=>true
 |.aw β _ _=>decide (2000000<=β)
 |_=>false
def tI(len:Nat)(ps:List (Nat×Nat×PV)):Prop:=∀p∈ps,∃cs,eT p.2.2=some cs/\cs.length=p.2.1/\p.1+p.2.1<=len
def ky(zero:List PV)(ps:List (Nat×Nat×PV))(d:Nat)(fr:Fr)(hp:HP)(K:Qi):Prop:=
 if ps.any (fun p=>p.2.2.nB)then tI zero.length ps/\K (ab fr d (.aM (gL zero (ps.map fun p=>(p.1,(eT p.2.2).getD []))))) hp
 else Al zero ps d fr hp K
def Am(a:PV)(d:Option Nat)(fr:Fr)(hp:HP)(K:Qi):Prop:=
 match a,d with
 |.mp _ _ _,some d| .pt _,some d| .fn _ _ _,some d=>K (ab fr d a) hp
 |.mp _ _ _,none| .pt _,none| .fn _ _ _,none=>K fr hp
 |_,_=>False
structure Ctx where
 P:Program
 N:Nat
 w0:World
 X0:Nat->Prop
 AL:∀b,X0 b->b<w0.heap.size
 hN:N<=1000000
 fx:Nat->Option Nat
 oh:∀β b,fx β=some b->b<w0.heap.size/\(eI β=false->¬X0 b)
 Z0:Nat->Prop
 EG:∀b,Z0 b->b<w0.heap.size/\¬X0 b/\∀β,fx β≠some b
@[reducible] def Ctx.plain (P : Program) (N : Nat) (w : World) (X : Nat -> Prop) (hX : ∀ b, X b -> b < w.heap.size) (hN : N <= 1000000) : Ctx :=
 ⟨P, N, w, X, hX, hN, fun _ => none, (fun _ _ h => nomatch h), ca, fun _ h => h.elim⟩
def Ctx.Y0(C:Ctx):Nat->Prop:=fun b=>(∃β,eI β=false/\C.fx β=some b)∨C.Z0 b
theorem Ctx.hY0(C:Ctx):∀b,C.Y0 b->b<C.w0.heap.size/\¬C.X0 b
 |b,.inl ⟨β,hr,h⟩=>⟨(C.oh β b h).1,(C.oh β b h).2 hr⟩
 |b,.inr h=>⟨(C.EG b h).1,(C.EG b h).2.1⟩
theorem Ctx.Kp{P:Program}{N:Nat}{w w':World}{X:Nat->Prop}{hX:∀b,X b->b<w.heap.size}{hN:N<=1000000}(h:Ext (Ctx.plain P N w X hX hN).Y0 w w'):Ext ca w w':=
 h.mono fun b _ hb=>by
  rcases hb with⟨β,_,hb⟩|hb
  ·cases hb
  ·exact hb
def Ctx.cls(C:Ctx)(β b:Nat):Prop:=if aO β=true then C.fx β=some b else C.w0.heap.size<=b∨C.Z0 b
theorem Ctx.El{C:Ctx}{β b:Nat}(h:C.cls β b)(hr:eI β=false):C.w0.heap.size<=b∨C.Y0 b:=by
 unfold Ctx.cls at h;split at h
 ·exact .inr (.inl ⟨β,hr,h⟩)
 ·exact h.imp id .inr
theorem Ctx.uj{C:Ctx}{β b:Nat}(h:C.cls β b)(hB:aO β=false):C.w0.heap.size<=b∨C.Z0 b:=by
 unfold Ctx.cls at h
 rwa[if_neg (by simp[hB])]at h
theorem Ctx.Ry{C:Ctx}{β b:Nat}(h:C.w0.heap.size<=b∨C.Z0 b)(hB:aO β=false):C.cls β b:=by
 unfold Ctx.cls
 rwa[if_neg (by simp[hB])]
theorem Ctx.Uc{C:Ctx}{b:Nat}(h:C.w0.heap.size<=b∨C.Z0 b):C.w0.heap.size<=b∨C.Y0 b:=h.imp id .inr
theorem Ctx.KC{C:Ctx}{β b:Nat}(h:C.w0.heap.size<=b∨C.Z0 b):C.fx β≠some b:=fun e=>by
 rcases h with h|h
 ·have:=(C.oh β b e).1;omega
 ·exact(C.EG b h).2.2 β e
theorem Ctx.Ek{C:Ctx}{β b:Nat}(h:C.cls β b)(hr:eI β=false):¬C.X0 b:=fun hx=>by
 rcases Ctx.El h hr with h|h
 ·have:=C.AL b hx;omega
 ·exact(C.hY0 b h).2 hx
def aE(C:Ctx)(ρ:Nat->Option Nat)(hp:HP):Nat->Prop:=fun b=>C.X0 b∨∃β hb,hp β=some hb/\hb.fz=false/\ρ β=some b
def cV(w:World)(b e cap:Nat):Prop:=∃cur ty,w.heap[b]? =some (.cells cur ty (0,0))/\cur.size=cap*e
def xL(w:World)(X:Nat->Prop)(b:Nat)(hb:HB):Prop:=
 ∃(cur:Array Value)(cap:Nat),w.heap[b]? =some (.cells cur hb.ty (0,0))/\cur.size=cap*hb.e/\hb.xs.length<=cap/\cap<=maxLen/\
  ∀(i:Nat)(x:PV),hb.xs[i]? =some x->∀(j:Nat)(y:PV),x.cells[j]? =some y->Qp w X y (cur.getD (i*hb.e+j) undef)
structure sF(C:Ctx)(ρ:Nat->Option Nat)(hp:HP)(w:World)(β:Nat)(hb:HB):Prop where
 jU:0<hb.e
 len:∀(i:Nat)(x:PV),hb.xs[i]? =some x->x.cells.length=hb.e/\x.aD=true
 cB:match ρ β with
  |none=>hb.xs=[]
  |some b=>C.cls β b/\b<w.heap.size/\xL w (aE C ρ hp) b hb
 fix:aO β=true->ρ β=C.fx β
 ro:eI β=true->hb.fz=true
def et(ρ:Nat->Option Nat)(hp:HP)(w:World)(β o n:Nat)(v:Value):Prop:=
 ∃ hb,hp β=some hb/\o+n<=hb.xs.length/\((ρ β=none/\v= .slice none 0 0/\n=0/\o=0)∨
   ∃b cap,ρ β=some b/\v= .slice (some ⟨b,o*hb.e,none⟩) n cap/\cV w b hb.e (o+cap)/\o+cap<=maxLen)
def nV(ρ:Nat->Option Nat)(hp:HP)(w:World)(γ o n:Nat)(v:Value):Prop:=
 bC γ=true/\∃hb b cap,hp γ=some hb/\ρ γ=some b/\v= .slice (some ⟨b,o*hb.e,none⟩) n cap/\cV w b hb.e (o+cap)/\o+cap<=maxLen/\n<=cap
def cx(C:Ctx)(ρ:Nat->Option Nat)(hp:HP)(w:World):PV->Value->Prop
 |.undef,_=>True
 |.aw β o n,v=>bC β=true/\et ρ hp w β o n v
 |.aG γ o n,v=>nV ρ hp w γ o n v
 |p,v=>Qp w (aE C ρ hp) p v
def cF(C:Ctx)(ρ:Nat->Option Nat)(hp:HP)(w:World):PV->Value->Prop
 |.mp β i o,v=>∃b hb,ρ β=some b/\hp β=some hb/\v= .pointer (some ⟨b,i*hb.e+o,none⟩)
 |.aw β o n,v=>et ρ hp w β o n v
 |.rb β o n,v=>∃b u,v= .pointer (some ⟨b,0,none⟩)/\b<w.heap.size/\¬aE C ρ hp b/\w.cell? ⟨b,0,none⟩=some u/\et ρ hp w β o n u
 |.np γ i o,v=>bC γ=true/\∃b hb,ρ γ=some b/\hp γ=some hb/\v= .pointer (some ⟨b,i*hb.e+o,none⟩)
 |.aG γ o n,v=>nV ρ hp w γ o n v
 |p,v=>Qp w (aE C ρ hp) p v
def Qm(C:Ctx)(ρ:Nat->Option Nat)(hp:HP)(w:World):PV->Value->Prop
 |.undef,_=>True
 |.mp β i o,v=>cF C ρ hp w (.mp β i o) v
 |.aw β o n,v=>cF C ρ hp w (.aw β o n) v
 |.rb β o n,v=>cF C ρ hp w (.rb β o n) v
 |.np γ i o,v=>cF C ρ hp w (.np γ i o) v
 |.aG γ o n,v=>cF C ρ hp w (.aG γ o n) v
 |.aM cs,v=>∃vs:Array Value,v= .agg vs/\vs.size=cs.length/\∀(i:Nat)(x:PV),cs[i]? =some x->cx C ρ hp w x (vs.getD i undef)
 |.dZ cs,v=>∃vs:Array Value,v= .tuple vs/\vs.size=cs.length/\∀(i:Nat)(x:PV),cs[i]? =some x->cx C ρ hp w x (vs.getD i undef)
 |.cP cs q,v=>∃(vs:Array Value)(u:Value),v= .tuple #[.agg vs,u]/\vs.size=cs.length/\(∀(i:Nat)(x:PV),cs[i]? =some x->cx C ρ hp w x (vs.getD i undef))/\Q6 w (aE C ρ hp) q u
 |.aF γ e ty xs,_=>bC γ=true/\0<e/\∃(b:Nat) (hb:HB) (cur:Array Value) (cap:Nat),ρ γ=some b/\hp γ=some hb/\hb.xs=[]/\hb.e=e/\hb.ty=ty/\w.heap[b]? =some (.cells cur ty (0,0))/\cur.size=cap*e/\xs.length<=cap/\cap<=maxLen/\
   (∀(i:Nat)(x:PV),xs[i]? =some x->x.aW.length=e)/\∀(i:Nat)(x:PV),xs[i]? =some x->∀(j:Nat)(y:PV),x.aW[j]? =some y->cx C ρ hp w y (cur.getD (i*e+j) undef)
 |.fn f first cap,v=>∃fv cv:Array Value,v= .func (.func f) fv cv/\fv.size=first.length/\cv.size=cap.length/\
   (∀(i:Nat)(x:PV),first[i]? =some x->cF C ρ hp w x (fv.getD i undef))/\(∀(i:Nat)(x:PV),cap[i]? =some x->cF C ρ hp w x (cv.getD i undef))
 |p,v=>eD w (aE C ρ hp) p v
structure Qr(C:Ctx)(ρ:Nat->Option Nat)(fr:Fr)(hp:HP)(tmps:Array Value)(w:World):Prop where
 sz:tmps.size=C.N
 ext:Ext C.Y0 C.w0 w
 eJ:∀β b,C.fx β=some b->∀e cap,cV C.w0 b e cap->cV w b e cap
 own:∀β hb,hp β=some hb->sF C ρ hp w β hb
 inj:∀β γ b,hp β≠none->hp γ≠none->ρ β=some b->ρ γ=some b->β=γ
 cE:∀i,Qm C ρ hp w (fr i) (tmps.getD i undef)
def dD(C:Ctx)(fr:Fr)(hp:HP)(tmps:Array Value)(w:World):Prop:=∃ρ,Qr C ρ fr hp tmps w
def tX(tmps:Array Value)(d:Option Nat)(v:Value):Array Value:=match d with|some d=>tmps.setIfInBounds d v|none=>tmps
def Wk(fr:Fr)(hp:HP)(aA:Fr)(hp':HP):Prop:=∀(C:Ctx)(tmps:Array Value)(w:World),dD C fr hp tmps w->dD C aA hp' tmps w
def fH(C:Ctx)(pr:Bool)(f:PV)(args:List PV)(d:Option Nat)(fr:Fr)(hp:HP)(K:Qi):Prop:=
 match f with
 |.fn g first cap => (C.P.funcs[g]?).any (fun fn => fn.body.isSome && fn.name != "runtime.NumGoroutine") = true /\
  ∀ρ tmps w (fv cv av:Array Value),(∀x,d=some x->x<C.N)->Qr C ρ fr hp tmps w->
   fv.size=first.length->cv.size=cap.length->av.size=args.length->
   (∀(i:Nat)(x:PV),first[i]? =some x->cF C ρ hp w x (fv.getD i undef))->(∀(i:Nat)(x:PV),cap[i]? =some x->cF C ρ hp w x (cv.getD i undef))->
   (∀(i:Nat)(x:PV),args[i]? =some x->Qm C ρ hp w x (av.getD i undef))->
   Calls C.P g (fv++av++cv) w fun e w'=>∃v aA hp',e= .returned v/\dD C aA hp' (tX tmps d v) w'/\(pr=true->Ext ca w w')/\K aA hp'
 |_=>False
def bg(C:Ctx)(o:cc)(fr:Fr)(hp:HP)(K:Qi):Prop:=
 match o with
 |.mv d x=>K (ab fr d (ev fr x)) hp
 |.pick d c a b=>sC (ev fr c) (ev fr a) (ev fr b) d fr hp K
 |.bin d op bt x y=>bQ op bt (ev fr x) (ev fr y) d fr hp K
 |.eqs d ng x y=>ra ng (ev fr x) (ev fr y) d fr hp K
 |.wN d ng x y=>re ng (ev fr x) (ev fr y) d fr hp K
 |.BN d x=>vA (ev fr x) d fr hp K
 |.BM d x i=>tU (ev fr x) (ev fr i) d fr hp K
 |.un d op x=>uU op (ev fr x) d fr hp K
 |.conv d k x=>vp k (ev fr x) d fr hp K
 |.len d x=>oY (ev fr x) d fr hp K
 |.mx d x y=>wI (ev fr x) (ev fr y) d fr hp K
 |.mn d x y=>wG (ev fr x) (ev fr y) d fr hp K
 |.idx d e x i=>Q7 e (ev fr x) (ev fr i) d fr hp K
 |.wB d n e x i=>jI n e (ev fr x) (ev fr i) d fr hp K
 |.Bx d n e ag x i=>xJ n e ag (ev fr x) (ev fr i) d fr hp K
 |.bY d off x=>rf off (ev fr x) d fr hp K
 |.ye d off n ag x=>qV off n ag (ev fr x) d fr hp K
 |.ld d n ag x=>bo n ag (ev fr x) d fr hp K
 |.st n x v=>nH n (ev fr x) (ev fr v) fr hp K
 |.box d n ty v=>eU n ty (ev fr v) d fr hp K
 |.alloc d n ty z=>eU n ty z d fr hp K
 |.mk d e by_ ty z l c=>nD e by_ ty z (ev fr l) (ev fr c) d fr hp K
 |.bs d e ty ps=>kF e ty (ps.map (ev fr)) d fr hp K
 |.app d e by_ ty s x=>iL e by_ ty (ev fr s) (ev fr x) d fr hp K
 |.uk d e s x=>tW e (ev fr s) (ev fr x) d fr hp K
 |.sl d e x lo hi mx=>iE e (ev fr x) (lo.map (ev fr)) (hi.map (ev fr)) (mx.map (ev fr)) d fr hp K
 |.ext d x i=>lY (ev fr x) i d fr hp K
 |.ej d zero ps=>ky zero (ps.map fun p=>(p.1,p.2.1,ev fr p.2.2)) d fr hp K
 |.fn d f first cap=>(first.map (ev fr)++cap.map (ev fr)).all PV.kN=true/\K (ab fr d (.fn f (first.map (ev fr)) (cap.map (ev fr)))) hp
 |.call d pr f args=>fH C pr (ev fr f) (args.map (ev fr)) d fr hp K
 |.BE d x=>Am (ev fr x) d fr hp K
 |.bad _=>False
def jv(o:cc)(fr:Fr)(hp:HP)(K:Qi):Prop:=
 match o.dst with
 |some d=>K (ab fr d (.aI [])) hp
 |none=>K fr hp
def im(C:Ctx)(g:Option (Nat×Bool))(o:cc)(fr:Fr)(hp:HP)(K:Qi):Prop:=
 match g with
 |none=>bg C o fr hp K
 |some (s,want)=>match fr s with
  |.bool t=>(t=want->bg C o (ab fr s (.bool want)) hp K)/\(t=(!want)->jv o (ab fr s (.bool !want)) hp K)
  |.aI []=>jv o fr hp K
  |_=>False
inductive It where
 |c (s:SC)
 |o (r:RT)
 |eb (id:Nat)
 |el (J:Qi)
def RT.sz:RT->Nat
 |.nil=>1
 |.o _ _ r=>r.sz+1
 |.br a b=>a.sz+b.sz+1
 |.wk r=>r.sz+1
def SC.sz:SC->Nat
 |.rg r=>r.sz+1
 |.seq a b=>a.sz+b.sz+1
 |.cond _ a b=>a.sz+b.sz+1
 |.block _ a=>a.sz+2
 |.loop a=>a.sz+2
 |_=>1
def It.sz:It->Nat
 |.c s=>s.sz
 |.o r=>r.sz
 |_=>1
def bG:List It->Nat
 | []=>0
 |i::is=>i.sz+bG is
def bW(id:Nat):List It->Option (List It)
 | []=>none
 |.eb i::sk=>if i=id then some sk else bW id sk
 |_::sk=>bW id sk
theorem zf(id:Nat):∀(sk ee:List It),FW.bW id sk=some ee->bG ee<=bG sk
 | [],_,h=>by simp[FW.bW]at h
 |.c s::sk,ee,h=>by have:=zf id sk ee (by simpa[FW.bW]using h);simp[bG];omega
 |.o s::sk,ee,h=>by have:=zf id sk ee (by simpa[FW.bW]using h);simp[bG];omega
 |.el s::sk,ee,h=>by have:=zf id sk ee (by simpa[FW.bW]using h);simp[bG];omega
 |.eb i::sk,ee,h=>by
  simp only[FW.bW]at h;split at h
  ·cases h;simp[bG]
  ·have:=zf id sk ee h;simp[bG];omega
theorem RT.yO(r:RT):0<r.sz:=by cases r<;>simp[RT.sz]
theorem SC.yO(s:SC):0<s.sz:=by cases s<;>simp[SC.sz]
def vc(C:Ctx)(R:Qi)(sk:List It)(fr:Fr)(hp:HP):Prop:=
 match sk with
 | []=>R fr hp
 |.el J::_=>J fr hp
 |.eb _::sk=>vc C R sk fr hp
 |.o .nil::sk=>vc C R sk fr hp
 |.o (.o g o r)::sk=>im C g o fr hp (fun fr hp=>vc C R (.o r::sk) fr hp)
 |.o (.br a b)::sk=>vc C R (.o a::sk) fr hp/\vc C R (.o b::sk) fr hp
 |.o (.wk r)::sk=>∃aK ax,Wk fr hp aK ax/\vc C R (.o r::sk) aK ax
 |.c .skip::sk=>vc C R sk fr hp
 |.c (.rg r)::sk=>vc C R (.o r::sk) fr hp
 |.c (.raw id ops)::sk=>∀tmps w Q,dD C fr hp tmps w->(∀aA hp' uT w',dD C aA hp' uT w'->vc C R sk aA hp'->Q .normal { tmps:=uT,defers:=[] } w')->(Code.region id ops true).wp C.P Q { tmps:=tmps,defers:=[] } w
 |.c (.seq a b)::sk=>vc C R (.c a:: .c b::sk) fr hp
 |.c (.cond c a b)::sk=>match ev fr c with
  |.bool t=>(t=true->vc C R (.c a::sk) fr hp)/\(t=false->vc C R (.c b::sk) fr hp)
  |_=>False
 |.c (.block id a)::sk=>vc C R (.c a:: .eb id::sk) fr hp
 |.c (.loop a)::sk=>∃(I:Qi)(μ:Fr->HP->Nat),(∃aK ax,Wk fr hp aK ax/\I aK ax)/\∀fr hp,I fr hp->vc C R (.c a:: .el (fun aA hp'=>∃aK ax,Wk aA hp' aK ax/\I aK ax/\μ aK ax<μ fr hp)::sk) fr hp
 |.c (.exit id)::sk=>match h:FW.bW id sk with
  |some ee=>vc C R ee fr hp
  |none=>False
 |.c .ret::_=>R fr hp
termination_by bG sk
decreasing_by
 all_goals simp only[bG,It.sz,SC.sz,RT.sz]
 all_goals first|omega|(have:=zf _ _ _ h;omega)|skip
variable {C : Ctx} {ρ : Nat -> Option Nat} {fr : Fr} {hp : HP} {tmps : Array Value} {w : World}
theorem et.move{ρ':Nat->Option Nat}{hp':HP}{w':World}{β o n:Nat}{v:Value}(h:et ρ hp w β o n v)
  (hr:ρ' β=ρ β/\∀hb,hp β=some hb->∃au,hp' β=some au/\au.e=hb.e/\hb.xs.length<=au.xs.length/\∀b cap,ρ β=some b->cV w b hb.e cap->cV w' b hb.e cap):et ρ' hp' w' β o n v:=by
 obtain⟨hb,h2,h3,h4⟩:=h;obtain⟨e1,e2⟩:=hr;obtain⟨au,h5,h6,h7,h8⟩:=e2 hb h2;refine⟨au,h5,KaO h3 h7,?_⟩;rcases h4 with⟨g1,g2,g3⟩|⟨b,cap,g1,g2,g3,g4⟩
 ·exact .inl ⟨by rw[e1];exact g1,g2,g3⟩
 ·exact .inr ⟨b,cap,by rw[e1];exact g1,by rw[h6];exact g2,by rw[h6];exact h8 b (o+cap) g1 g3,g4⟩
structure lZ(w w':World)(X X':Nat->Prop):Prop where
 cB:∀b,b<w.heap.size->¬X b->w'.heap[b]? =w.heap[b]?
 out:∀b,b<w.heap.size->¬X b->¬X' b
 size:w.heap.size<=w'.heap.size
theorem lZ.rc{w w':World}{X X':Nat->Prop}(h:lZ w w' X X'):∀q u,Qp w X q u->Qp w' X' q u:=fun _ _ hq=>hq.mono h.cB h.out h.size
structure oH(ρ ρ':Nat->Option Nat)(hp hp':HP)(w w':World)(β:Nat):Prop where
 r:ρ' β=ρ β
 h:∀hb,hp β=some hb->∃au,hp' β=some au/\au.e=hb.e/\hb.xs.length<=au.xs.length/\(∀b cap,ρ β=some b->cV w b hb.e cap->cV w' b hb.e cap)/\(hb.xs=[]->au.xs=[]/\au.ty=hb.ty/\∀b,ρ β=some b->w'.heap[b]? =w.heap[b]?)
theorem oH.o{ρ':Nat->Option Nat}{hp':HP}{w':World}{β:Nat}(h:oH ρ ρ' hp hp' w w' β):ρ' β=ρ β/\∀hb,hp β=some hb->∃au,hp' β=some au/\au.e=hb.e/\hb.xs.length<=au.xs.length/\∀b cap,ρ β=some b->cV w b hb.e cap->cV w' b hb.e cap:=
 ⟨h.r,fun hb aj=>let⟨au,a,b,c,d,_⟩:=h.h hb aj;⟨au,a,b,c,d⟩⟩
structure vB(ρ ρ':Nat->Option Nat)(hp hp':HP)(w w':World)(β:Nat):Prop where
 r:ρ' β=ρ β
 h:∀hb,hp β=some hb->∃au,hp' β=some au/\au.e=hb.e/\hb.xs.length<=au.xs.length/\∀b cap,ρ β=some b->cV w b hb.e cap->cV w' b hb.e cap
theorem oH.yP{ρ':Nat->Option Nat}{hp':HP}{w':World}{β:Nat}(h:oH ρ ρ' hp hp' w w' β):vB ρ ρ' hp hp' w w' β:=⟨h.r,h.o.2⟩
theorem nV.move{ρ':Nat->Option Nat}{hp':HP}{w':World}{γ o n:Nat}{v:Value}(h:nV ρ hp w γ o n v)(hr:vB ρ ρ' hp hp' w w' γ):nV ρ' hp' w' γ o n v:=by obtain⟨h0,hb,b,cap,h1,h2,h3,h4,h5,h6⟩:=h;obtain⟨au,a1,a2,_,a4⟩:=hr.h hb h1;exact⟨h0,au,b,cap,a1,by rw[hr.r];exact h2,by rw[a2];exact h3,by rw[a2];exact a4 b _ h2 h4,h5,h6⟩
theorem cx.move{ρ':Nat->Option Nat}{hp':HP}{w':World}{p:PV}{v:Value}(h:cx C ρ hp w p v)(hc:lZ w w' (aE C ρ hp) (aE C ρ' hp'))(hs:∀β∈p.dj,vB ρ ρ' hp hp' w w' β):cx C ρ' hp' w' p v:=by
 cases p with
 |undef=>trivial
 |aw β o n=>exact⟨h.1,et.move h.2 ⟨(hs β (by simp[PV.dj])).r,(hs β (by simp[PV.dj])).h⟩⟩
 |aG γ o n=>exact nV.move h (hs γ (by simp[PV.dj]))
 |_=>exact hc.rc _ _ h
theorem cF.move{ρ':Nat->Option Nat}{hp':HP}{w':World}{p:PV}{v:Value}(h:cF C ρ hp w p v)
  (hc:lZ w w' (aE C ρ hp) (aE C ρ' hp'))
  (hr:∀β∈p.bw,ρ' β=ρ β/\∀hb,hp β=some hb->∃au,hp' β=some au/\au.e=hb.e/\hb.xs.length<=au.xs.length/\∀b cap,ρ β=some b->cV w b hb.e cap->cV w' b hb.e cap)
  (hs:∀β∈p.dY,vB ρ ρ' hp hp' w w' β):
  cF C ρ' hp' w' p v:=by
 cases p with
 |mp β i o=>obtain⟨b,hb,h1,h2,h3⟩:=h;obtain⟨e1,e2⟩:=hr β (by simp[PV.bw]);obtain⟨au,h4,h5,_,_⟩:=e2 hb h2;exact⟨b,au,by rw[e1];exact h1,h4,by rw[h5];exact h3⟩
 |aw β o n=>exact et.move h (hr β (by simp[PV.bw]))
 |rb β o n=>obtain⟨b,u,h1,h2,h3,h4,h5⟩:=h;exact⟨b,u,h1,Kbh h2 hc.size,hc.out b h2 h3,(u5 (hc.cB b h2 h3)).trans h4,et.move h5 (hr β (by simp[PV.bw]))⟩
 |np γ i o=>obtain⟨h0,b,hb,h1,h2,h3⟩:=h;have hq:=hs γ (by simp[PV.dY]);obtain⟨au,a1,a2,_⟩:=hq.h hb h2;exact⟨h0,b,au,by rw[hq.r];exact h1,a1,by rw[a2];exact h3⟩
 |aG γ o n=>exact nV.move h (hs γ (by simp[PV.dY]))
 |_=>exact hc.rc _ _ h
theorem Gt{f:FuncId}{first cap:List PV}{i:Nat}{x:PV}(h:first[i]? =some x):∀β∈x.bw,β∈(PV.fn f first cap).refs:=by intro β aj;simp only[PV.refs,KaG,Kaq];exact .inl ⟨x,Kaj h,aj⟩
theorem Gz{f:FuncId}{first cap:List PV}{i:Nat}{x:PV}(h:cap[i]? =some x):∀β∈x.bw,β∈(PV.fn f first cap).refs:=by intro β aj;simp only[PV.refs,KaG,Kaq];exact .inr ⟨x,Kaj h,aj⟩
theorem eD.move{w':World}{X X':Nat->Prop}{p:PV}{v:Value}(h:eD w X p v)(hc:∀q u,Qp w X q u->Qp w' X' q u):eD w' X' p v:=by
 have h1:∀p v,Q6 w X p v->Q6 w' X' p v:=by
  intro p v h;cases p with
  |agg cs=>obtain⟨vs,rfl,h1,h2⟩:=h;exact⟨vs,rfl,h1,fun i x hi=>hc _ _ (h2 i x hi)⟩
  |_=>exact hc _ _ h
 cases p with
 |aI ps=>obtain⟨vs,rfl,g1,g2⟩:=h;exact⟨vs,rfl,g1,fun i x hi=>h1 _ _ (g2 i x hi)⟩
 |agg cs=>exact h1 (.agg cs) v h
 |_=>exact hc _ _ h
theorem Qm.move{ρ':Nat->Option Nat}{hp':HP}{w':World}{p:PV}{v:Value}(h:Qm C ρ hp w p v)
  (hc:lZ w w' (aE C ρ hp) (aE C ρ' hp'))
  (hr:∀β∈p.refs,ρ' β=ρ β/\∀hb,hp β=some hb->∃au,hp' β=some au/\au.e=hb.e/\hb.xs.length<=au.xs.length/\∀b cap,ρ β=some b->cV w b hb.e cap->cV w' b hb.e cap)
  (hs:∀β∈p.aR,vB ρ ρ' hp hp' w w' β) (hn:∀γ e ty xs,p= .aF γ e ty xs->oH ρ ρ' hp hp' w w' γ):
  Qm C ρ' hp' w' p v:=by
 cases p with
 |undef=>trivial
 |mp β i o=>exact cF.move (p:=.mp β i o) h hc (fun bB mC=>hr bB mC) (fun β aj=>by cases aj)
 |aw β o n=>exact cF.move (p:=.aw β o n) h hc (fun bB mC=>hr bB mC) (fun β aj=>by cases aj)
 |rb β o n=>exact cF.move (p:=.rb β o n) h hc (fun bB mC=>hr bB mC) (fun β aj=>by cases aj)
 |np γ i o=>exact cF.move (p:=.np γ i o) h hc (fun β aj=>by cases aj) (fun bB mC=>hs bB mC)
 |aG γ o n=>exact cF.move (p:=.aG γ o n) h hc (fun β aj=>by cases aj) (fun bB mC=>hs bB mC)
 |aM cs=>obtain⟨vs,rfl,h1,h2⟩:=h;exact⟨vs,rfl,h1,fun i x hi=>(h2 i x hi).move hc (fun β aj=>hs β (Kaq.2 ⟨x,Kaj hi,aj⟩))⟩
 |dZ cs=>obtain⟨vs,rfl,h1,h2⟩:=h;exact⟨vs,rfl,h1,fun i x hi=>(h2 i x hi).move hc (fun β aj=>hs β (Kaq.2 ⟨x,Kaj hi,aj⟩))⟩
 |cP cs q=>obtain⟨vs,u,rfl,h1,h2,h3⟩:=h;exact⟨vs,u,rfl,h1,fun i x hi=>(h2 i x hi).move hc (fun β aj=>hs β (Kaq.2 ⟨x,Kaj hi,aj⟩)),h3.mono hc.cB hc.out hc.size⟩
 |aF γ e ty xs=>obtain⟨h0,he,b,hb,cur,cap,h1,h2,h3,h4,h5,h6,h7,h8,h9,bh,de⟩:=h;have hq:=hn γ e ty xs rfl;obtain⟨au,a1,a2,_,_,a5⟩:=hq.h hb h2;obtain⟨a5,a6,a7⟩:=a5 h3;refine⟨h0,he,b,au,cur,cap,by rw[hq.r];exact h1,a1,a5,by rw[a2];exact h4,by rw[a6];exact h5,by rw[a7 b h1];exact h6,h7,h8,h9,bh,fun i x hi j y hy=>(de i x hi j y hy).move hc (fun β aj=>hs β ?_)⟩;refine KaZ _ (Kaq.2 ⟨x,Kaj hi,Kaq.2 ⟨y,Kaj hy,aj⟩⟩)
 | fn f first cap=>
  obtain⟨fv,cv,rfl,h1,h2,h3,h4⟩:=h;exact⟨fv,cv,rfl,h1,h2,fun i x hi=>(h3 i x hi).move hc (fun β aj=>hr β (Gt hi β aj)) (fun β aj=>hs β (KaG.2 (.inl (Kaq.2 ⟨x,Kaj hi,aj⟩)))),
   fun i x hi=>(h4 i x hi).move hc (fun β aj=>hr β (Gz hi β aj)) (fun β aj=>hs β (KaG.2 (.inr (Kaq.2 ⟨x,Kaj hi,aj⟩))))⟩
 |agg cs=>exact eD.move (p:=.agg cs) h hc.rc
 |aI cs=>exact eD.move (p:=.aI cs) h hc.rc
 |_=>exact hc.rc _ _ h
theorem Qm.pB{ρ':Nat->Option Nat}{hp':HP}{w':World}{p:PV}{v:Value}(h:Qm C ρ hp w p v)
  (hc:lZ w w' (aE C ρ hp) (aE C ρ' hp'))
  (hr:∀β∈p.refs,ρ' β=ρ β/\∀hb,hp β=some hb->∃au,hp' β=some au/\au.e=hb.e/\hb.xs.length<=au.xs.length/\∀b cap,ρ β=some b->cV w b hb.e cap->cV w' b hb.e cap)
  (hs:∀β∈p.aR,oH ρ ρ' hp hp' w w' β):Qm C ρ' hp' w' p v:=
 h.move hc hr (fun β aj=>(hs β aj).yP) (fun γ e ty xs e1=>hs γ (by rw[e1];simp[PV.aR]))
theorem kV{w w':World}{b e cap:Nat}(h:w'.heap[b]? =w.heap[b]?)(hc:cV w b e cap):cV w' b e cap:=by obtain⟨cur,ty,h1,h2⟩:=hc;exact⟨cur,ty,by rw[h];exact h1,h2⟩
theorem lf{w:World}{b e cap:Nat}(hc:cV w b e cap):b<w.heap.size:=by obtain⟨cur,ty,h1,_⟩:=hc;exact(Kbl.1 h1).1
theorem xL.move{w w':World}{X X':Nat->Prop}{b:Nat}{hb au:HB}(h:xL w X b hb)(hh:w'.heap[b]? =w.heap[b]?)(e1:au.e=hb.e)(e2:au.ty=hb.ty)(e3:au.xs=hb.xs)
  (hc:∀q u,Qp w X q u->Qp w' X' q u):xL w' X' b au:=by
 obtain⟨cur,cap,h1,h2,h3,h4,h5⟩:=h;exact⟨cur,cap,by rw[hh,e2];exact h1,by rw[e1];exact h2,by rw[e3];exact h3,h4,fun i x hi j y hy=>by rw[e1];exact hc _ _ (h5 i x (by rw[<-e3];exact hi) j y hy)⟩
theorem Qr.ab(h:Qr C ρ fr hp tmps w){d:Nat}{p:PV}{v:Value}(hv:Qm C ρ hp w p v)(hd:d<C.N):Qr C ρ (ab fr d p) hp (tmps.setIfInBounds d v) w:=by
 refine⟨by simpa using h.sz,h.ext,h.eJ,h.own,h.inj,fun i=>?_⟩;unfold FW.ab;split
 ·rename_i he;subst he;simpa[Array.getD,h.sz,hd]using hv
 ·rename_i he;have:(tmps.setIfInBounds d v).getD i undef=tmps.getD i undef:=by simp only[KaL];rw[Kcf (fun e=>he e.symm)]
  rw[this];exact h.cE i
theorem G3{l:List Nat}{b:Nat}(h:aE C ρ (Qy hp l) b):aE C ρ hp b:=by
 rcases h with h|⟨β,hb,h1,h2,h3⟩
 ·exact .inl h
 ·refine .inr ⟨β,hb,?_,h2,h3⟩;unfold Qy at h1;split at h1
  ·cases hq:hp β with
   |none=>simp[hq]at h1
   |some jj=>simp[hq]at h1;subst h1;simp at h2
  ·exact h1
theorem Cy{l:List Nat}{β:Nat}{hb:HB}(h:hp β=some hb):∃au,Qy hp l β=some au/\au.e=hb.e/\au.ty=hb.ty/\au.xs=hb.xs/\(au.fz=false->au=hb)/\(au.fz=false->β ∉ l):=by
 unfold Qy;by_cases hl:l.contains β=true
 ·rw[if_pos hl,h];exact⟨_,rfl,rfl,rfl,rfl,by simp,by simp⟩
 ·rw[if_neg hl,h];exact⟨hb,rfl,rfl,rfl,rfl,fun _=>rfl,fun _=>by simpa using hl⟩
theorem y4{l:List Nat}{β:Nat}{au:HB}(h:Qy hp l β=some au):∃hb,hp β=some hb/\au.e=hb.e/\au.ty=hb.ty/\au.xs=hb.xs/\(au.fz=false->au=hb)/\(au.fz=false->β ∉ l):=by
 cases hq:hp β with
 |none=>unfold Qy at h;split at h<;>simp[hq]at h
 |some hb=>obtain⟨dv,g1,g2⟩:=Cy (l:=l) hq;rw[g1]at h;cases h;exact⟨hb,rfl,g2⟩
theorem Qp.freeze{l:List Nat}{q:PV}{u:Value}(h:Qp w (aE C ρ hp) q u):Qp w (aE C ρ (Qy hp l)) q u:=
 h.mono (fun _ _ _=>rfl) (fun _ _ hn hx=>hn (G3 hx)) (Kae _)
theorem Qr.freeze(h:Qr C ρ fr hp tmps w)(l:List Nat):Qr C ρ fr (Qy hp l) tmps w:=by
 refine⟨h.sz,h.ext,h.eJ,fun β au aj=>?_,fun β γ b h1 h2 h3 h4=>?_,fun i=>?_⟩
 ·obtain⟨hb,g1,g2,g3,g4,g5,_⟩:=y4 aj;obtain⟨p1,p2,p3,p4,p5⟩:=h.own β hb g1;refine⟨by rw[g2];exact p1,fun i x hi=>by rw[g2];exact p2 i x (by rw[<-g4];exact hi),?_,p4,fun hq=>by
   cases hz:au.fz with
   |true=>rfl
   |false=>rw[<-g5 hz,hz]at p5;cases p5 hq⟩
  cases bl:ρ β with
  |none=>rw[bl]at p3;simp only at p3 ⊢;rw[g4];exact p3
  |some b=>rw[bl]at p3;simp only at p3 ⊢;exact⟨p3.1,p3.2.1,p3.2.2.move rfl g2 g3 g4 (fun q u hq=>hq.freeze)⟩
 ·have f1:∀γ,FW.Qy hp l γ≠none->hp γ≠none:=fun γ hn=>by
   cases hq:hp γ with
   |none=>unfold FW.Qy at hn;split at hn<;>simp[hq]at hn
   |some _=>simp
  exact h.inj β γ b (f1 β h1) (f1 γ h2) h3 h4
 ·refine(h.cE i).pB ⟨fun _ _ _=>rfl,fun _ _ hn hx=>hn (G3 hx),Kae _⟩ (fun β _=>⟨rfl,fun hb aj=>by
  obtain⟨au,g1,g2,_,g4,_⟩:=Cy (l:=l) aj;exact⟨au,g1,g2,by rw[g4];exact Kae _,fun b cap _ hc=>hc⟩⟩) (fun β _=>⟨rfl,fun hb aj=>by
  obtain⟨au,g1,g2,g3,g4,_⟩:=Cy (l:=l) aj;exact⟨au,g1,g2,by rw[g4];exact Kae _,fun b cap _ hc=>hc,fun he=>⟨by rw[g4];exact he,g3,fun _ _=>rfl⟩⟩⟩)
theorem Qr.grow{w':World}(h:Qr C ρ fr hp tmps w)(hx:Ext ca w w'):Qr C ρ fr hp tmps w':=by
 have iy:lZ w w' (aE C ρ hp) (aE C ρ hp):=⟨fun b hb _=>hx.block b hb (fun h=>h),fun _ _ hn=>hn,hx.size⟩
 have hc:=iy.rc;refine⟨h.sz,h.ext.trans' hx (fun _ _ h=>h.elim),fun b0 b hb e cap hc=>kV (hx.block b (lf (h.eJ b0 b hb e cap hc)) (fun h=>h)) (h.eJ b0 b hb e cap hc),fun β hb aj=>?_,h.inj,fun i=>?_⟩
 ·obtain⟨p1,p2,p3,p4,p5⟩:=h.own β hb aj;refine⟨p1,p2,?_,p4,p5⟩;cases bl:ρ β with
  |none=>rw[bl]at p3;exact p3
  |some b=>rw[bl]at p3;exact⟨p3.1,Kbh p3.2.1 hx.size,p3.2.2.move (hx.block b p3.2.1 (fun h=>h)) rfl rfl rfl hc⟩
 ·exact(h.cE i).pB iy (fun β _=>⟨rfl,fun hb aj=>⟨hb,aj,rfl,Kae _,fun b cap _ dw=>kV (hx.block b (lf dw) (fun h=>h)) dw⟩⟩)
   (fun β _=>⟨rfl,fun hb aj=>⟨hb,aj,rfl,Kae _,fun b cap _ dw=>kV (hx.block b (lf dw) (fun h=>h)) dw,fun he=>⟨he,rfl,fun b bl=>hx.block b (by have:=(h.own β hb aj).cB;rw[bl]at this;exact this.2.1) (fun h=>h)⟩⟩⟩)
theorem OI{β:Nat}{p:PV}:∀γ∈(bx β p).refs,γ≠β/\γ∈p.refs:=by
 intro γ ah;unfold bx at ah;split at ah
 ·simp[PV.refs]at ah
 ·rename_i hn;refine⟨fun he=>hn (by subst he;simpa using ah),ah⟩
theorem Qm.kill{β:Nat}{p:PV}{v:Value}(h:Qm C ρ hp w p v):Qm C ρ hp w (bx β p) v:=by
 unfold bx;split
 ·trivial
 ·exact h
theorem cx.yM{p:PV}{v:Value}(h:cx C ρ hp w p v):∀γ∈p.dj,bC γ=true:=by
 intro γ ah;cases p with
 |aw β o n=>simp[PV.dj]at ah;subst ah;exact h.1
 |aG β o n=>simp[PV.dj]at ah;subst ah;exact h.1
 |np β o n=>cases h
 |_=>cases ah
theorem cF.Tx{p:PV}{v:Value}(h:cF C ρ hp w p v):∀γ∈p.dY,bC γ=true:=by
 intro γ ah;cases p with
 |aG β o n=>simp[PV.dY]at ah;subst ah;exact h.1
 |np β o n=>simp[PV.dY]at ah;subst ah;exact h.1
 |_=>cases ah
theorem Qm.yM{p:PV}{v:Value}(h:Qm C ρ hp w p v):∀γ∈p.aR,bC γ=true:=by
 intro γ ah;cases p with
 |aG β o n=>simp[PV.aR]at ah;subst ah;exact h.1
 |np β o n=>simp[PV.aR]at ah;subst ah;exact h.1
 |aM cs=>obtain⟨vs,_,_,h2⟩:=h;obtain⟨x,hx,ah⟩:=Kaq.1 ah;obtain⟨i,hi⟩:=KaB hx;exact(h2 i x hi).yM γ ah
 |dZ cs=>obtain⟨vs,_,_,h2⟩:=h;obtain⟨x,hx,ah⟩:=Kaq.1 ah;obtain⟨i,hi⟩:=KaB hx;exact(h2 i x hi).yM γ ah
 |cP cs q=>obtain⟨vs,u,_,_,h2,_⟩:=h;obtain⟨x,hx,ah⟩:=Kaq.1 ah;obtain⟨i,hi⟩:=KaB hx;exact(h2 i x hi).yM γ ah
 | aF β e ty xs=>
  obtain⟨h0,_,b,hb,cur,cap,_,_,_,_,_,_,_,_,_,_,de⟩:=h;rcases KaC.1 ah with rfl|ah
  ·exact h0
  ·obtain⟨x,hx,ah⟩:=Kaq.1 ah;obtain⟨y,hy,ah⟩:=Kaq.1 ah;obtain⟨i,hi⟩:=KaB hx;obtain⟨j,hj⟩:=KaB hy;exact(de i x hi j y hj).yM γ ah
 | fn f first cap=>
  obtain⟨fv,cv,_,_,_,h3,h4⟩:=h;rcases KaG.1 ah with ah|ah
  ·obtain⟨x,hx,ah⟩:=Kaq.1 ah;obtain⟨i,hi⟩:=KaB hx;exact(h3 i x hi).Tx γ ah
  ·obtain⟨x,hx,ah⟩:=Kaq.1 ah;obtain⟨i,hi⟩:=KaB hx;exact(h4 i x hi).Tx γ ah
 |_=>cases ah
def rb(ρ:Nat->Option Nat)(β:Nat)(b':Option Nat):Nat->Option Nat:=fun γ=>if γ=β then b' else ρ γ
theorem gw(ρ:Nat->Option Nat)(β:Nat)(b':Option Nat):rb ρ β b' β=b':=by simp[rb]
theorem oT{ρ:Nat->Option Nat}{β γ:Nat}{b':Option Nat}(h:γ≠β):rb ρ β b' γ=ρ γ:=by simp[rb,h]
def xM(C:Ctx)(ρ:Nat->Option Nat)(hp:HP)(w:World)(β:Nat)(fr aA:Fr):Prop:=∀(i:Nat)(v:Value),Qm C ρ hp w (fr i) v->Qm C ρ hp w (aA i) v/\(∀γ∈(aA i).refs,γ≠β)/\∀γ∈(aA i).aR,γ≠β
theorem C7{β:Nat}(hB:bC β=false):xM C ρ hp w β fr (bE β fr):=fun i v h=>by have hk:=Qm.kill (β:=β) h;exact⟨hk,fun γ ah=>(OI γ ah).1,fun γ ah e=>by have:=hk.yM γ ah;rw[e,hB]at this;cases this⟩
theorem Qr.yL{w':World}{aA:Fr}(h:Qr C ρ fr hp tmps w)(β:Nat)(b':Option Nat)(au:HB)(hB:aO β=false)(qm:xM C ρ hp w β fr aA)
  (hx:Ext (fun b=>ρ β=some b/\∃hb,hp β=some hb/\hb.fz=false) w w')
  (nt:∀c,b'=some c->(C.w0.heap.size<=c∨C.Z0 c)/\c<w'.heap.size/\(w.heap.size<=c∨(ρ β=some c/\∃hb,hp β=some hb/\hb.fz=false)))
  (he:0<au.e) (hl:∀(i:Nat)(x:PV),au.xs[i]? =some x->x.cells.length=au.e/\x.aD=true)
  (sT:b'=none->au.xs=[]) (aV:∀c,b'=some c->∃(cur:Array Value) (cap:Nat),w'.heap[c]? =some (.cells cur au.ty (0,0))/\cur.size=cap*au.e/\au.xs.length<=cap/\cap<=maxLen/\
   ∀(i:Nat)(x:PV),au.xs[i]? =some x->∀(j:Nat)(y:PV),x.cells[j]? =some y->Qp w (aE C ρ hp) y (cur.getD (i*au.e+j) undef)):
  Qr C (rb ρ β b') aA (Qk hp β au) tmps w':=by
 have hX:∀b,b<w.heap.size->¬aE C ρ hp b->¬aE C (rb ρ β b') (Qk hp β au) b:=by
  intro b hb hn aS;rcases aS with aS|⟨γ,hg,h1,h2,h3⟩
  ·exact hn (.inl aS)
  ·unfold Qk at h1;by_cases ah:γ=β
   ·subst ah;rw[gw]at h3;obtain⟨_,_,h4|⟨h5,jj,h6,h7⟩⟩:=nt b h3
    ·omega
    ·exact hn (.inr ⟨γ,jj,h6,h7,h5⟩)
   ·rw[if_neg ah]at h1;rw[oT ah]at h3;exact hn (.inr ⟨γ,hg,h1,h2,h3⟩)
 have iy:lZ w w' (aE C ρ hp) (aE C (rb ρ β b') (Qk hp β au)):=
  ⟨fun b hb hn=>hx.block b hb (fun⟨e1,jj,e2,e3⟩=>hn (.inr ⟨β,jj,e2,e3,e1⟩)),hX,hx.size⟩
 have hc:=iy.rc;have hold:∀b,ρ β=some b->(∃hb,hp β=some hb/\hb.fz=false)->C.w0.heap.size<=b∨C.Z0 b:=by intro b e1 ⟨jj,e2,e3⟩;have:=(h.own β jj e2).cB;rw[e1]at this;exact Ctx.uj this.1 hB
 have jz:Ext C.Y0 C.w0 w':=by refine h.ext.trans' (Y':=fun b=>ρ β=some b/\∃hb,hp β=some hb/\hb.fz=false) hx ?_;intro b hb ⟨e1,e2⟩;exact(Ctx.Uc (hold b e1 e2)).resolve_left (by omega)
 have Ba:∀β b,C.fx β=some b->∀e cap,cV C.w0 b e cap->cV w' b e cap:=fun b0 b hb e cap iy=>by have h1:=h.eJ b0 b hb e cap iy;refine kV (hx.block b (lf h1) ?_) h1;intro⟨e1,e2⟩;exact Ctx.KC (hold b e1 e2) hb
 refine⟨h.sz,jz,Ba,fun γ hg ah=>?_,fun γ δ b h1 h2 h3 h4=>?_,fun i=>?_⟩
 ·unfold Qk at ah;by_cases rQ:γ=β
  ·rw[if_pos rQ]at ah;cases ah;subst rQ;refine⟨he,hl,?_,(fun hq=>by rw[hB]at hq;cases hq),fun hq=>by rw[xu hB]at hq;cases hq⟩;rw[gw];cases b' with
   |none=>exact sT rfl
   |some c=>obtain⟨cur,cap,c1,c2,c3,c4,c5⟩:=aV c rfl;exact⟨Ctx.Ry (nt c rfl).1 hB,(nt c rfl).2.1,cur,cap,c1,c2,c3,c4,fun i x hi j y hy=>hc _ _ (c5 i x hi j y hy)⟩
  ·rw[if_neg rQ]at ah;obtain⟨p1,p2,p3,p4,p5⟩:=h.own γ hg ah;refine⟨p1,p2,?_,(fun hq=>by rw[oT rQ];exact p4 hq),p5⟩;rw[oT rQ];cases bl:ρ γ with
   |none=>rw[bl]at p3;exact p3
   |some b=>rw[bl]at p3;refine⟨p3.1,Kbh p3.2.1 hx.size,p3.2.2.move (hx.block b p3.2.1 ?_) rfl rfl rfl hc⟩;intro⟨e1,jj,e2,_⟩;exact rQ (h.inj γ β b (by simp[ah]) (by simp[e2]) bl e1)
 ·
  have key:∀γ b,γ≠β->hp γ≠none->ρ γ=some b->b'=some b->False:=by
   intro γ b aQ hs hr hb;obtain⟨_,_,h4|⟨h5,jj,h6,h7⟩⟩:=nt b hb
   ·cases hq:hp γ with
    |none=>exact hs hq
    |some hg=>have:=(h.own γ hg hq).cB;rw[hr]at this;omega
   ·exact aQ (h.inj γ β b hs (by simp[h6]) hr h5)
  unfold Qk at h1 h2;by_cases ah:γ=β<;>by_cases ny:δ=β
  ·rw[ah,ny]
  ·subst ah;rw[gw]at h3;rw[oT ny]at h4;rw[if_neg ny]at h2;exact(key δ b ny h2 h4 h3).elim
  ·subst ny;rw[gw]at h4;rw[oT ah]at h3;rw[if_neg ah]at h1;exact(key γ b ah h1 h3 h4).elim
  ·rw[oT ah]at h3;rw[oT ny]at h4;rw[if_neg ah]at h1;rw[if_neg ny]at h2;exact h.inj γ δ b h1 h2 h3 h4
 ·obtain⟨hk,dn,ph⟩:=qm i _ (h.cE i);refine hk.pB iy (fun γ ah=>?_) (fun γ ah=>?_)
  ·have aQ:=dn γ ah;refine⟨oT aQ,fun hg gk=>⟨hg,by simp[Qk,aQ,gk],rfl,Kae _,fun b cap bl dw=>kV (hx.block b (lf dw) ?_) dw⟩⟩;intro⟨e1,jj,e2,_⟩;exact aQ (h.inj γ β b (by simp[gk]) (by simp[e2]) bl e1)
  ·have aQ:=ph γ ah;have oy:∀b hg,hp γ=some hg->ρ γ=some b->¬(ρ β=some b/\∃hb,hp β=some hb/\hb.fz=false):=fun b hg gk bl ⟨e1,jj,e2,_⟩=>aQ (h.inj γ β b (by simp[gk]) (by simp[e2]) bl e1);refine⟨oT aQ,fun hg gk=>⟨hg,by simp[Qk,aQ,gk],rfl,Kae _,fun b cap bl dw=>kV (hx.block b (lf dw) (oy b hg gk bl)) dw,fun he=>⟨he,rfl,fun b bl=>hx.block b ?_ (oy b hg gk bl)⟩⟩⟩;have:=(h.own γ hg gk).cB;rw[bl]at this;exact this.2.1
theorem Qr.rebind{w':World}(h:Qr C ρ fr hp tmps w)(β:Nat)(b':Option Nat)(au:HB)(hB:bC β=false)
  (hx:Ext (fun b=>ρ β=some b/\∃hb,hp β=some hb/\hb.fz=false) w w')
  (nt:∀c,b'=some c->(C.w0.heap.size<=c∨C.Z0 c)/\c<w'.heap.size/\(w.heap.size<=c∨(ρ β=some c/\∃hb,hp β=some hb/\hb.fz=false)))
  (he:0<au.e) (hl:∀(i:Nat)(x:PV),au.xs[i]? =some x->x.cells.length=au.e/\x.aD=true)
  (sT:b'=none->au.xs=[]) (aV:∀c,b'=some c->∃(cur:Array Value) (cap:Nat),w'.heap[c]? =some (.cells cur au.ty (0,0))/\cur.size=cap*au.e/\au.xs.length<=cap/\cap<=maxLen/\
   ∀(i:Nat)(x:PV),au.xs[i]? =some x->∀(j:Nat)(y:PV),x.cells[j]? =some y->Qp w (aE C ρ hp) y (cur.getD (i*au.e+j) undef)):
  Qr C (rb ρ β b') (bE β fr) (Qk hp β au) tmps w':=h.yL β b' au (xv hB) (C7 hB) hx nt he hl sT aV
theorem Qr.store{w':World}(h:Qr C ρ fr hp tmps w)(β b:Nat)(hb au:HB)(aj:hp β=some hb)(mj:hb.fz=false)(aQ:hb.xs≠[])(bl:ρ β=some b)
  (hx:Ext (fun c=>c=b) w w') (e1:au.e=hb.e) (e3:au.xs.length=hb.xs.length) (e4:au.fz=false)
  (hl:∀(i:Nat)(x:PV),au.xs[i]? =some x->x.cells.length=au.e/\x.aD=true)
  (dw:∀e cap,cV w b e cap->cV w' b e cap)
  (aV:∃(cur:Array Value) (cap:Nat),w'.heap[b]? =some (.cells cur au.ty (0,0))/\cur.size=cap*au.e/\au.xs.length<=cap/\cap<=maxLen/\
   ∀(i:Nat)(x:PV),au.xs[i]? =some x->∀(j:Nat)(y:PV),x.cells[j]? =some y->Qp w (aE C ρ hp) y (cur.getD (i*au.e+j) undef)):Qr C ρ fr (Qk hp β au) tmps w':=by
 have I4:∀c,aE C ρ (Qk hp β au) c↔aE C ρ hp c:=by
  intro c;constructor
  ·rintro(hx|⟨γ,hg,h1,h2,h3⟩)
   ·exact .inl hx
   ·unfold Qk at h1;by_cases ah:γ=β
    ·subst ah;exact .inr ⟨γ,hb,aj,mj,h3⟩
    ·rw[if_neg ah]at h1;exact .inr ⟨γ,hg,h1,h2,h3⟩
  ·rintro(hx|⟨γ,hg,h1,h2,h3⟩)
   ·exact .inl hx
   ·by_cases ah:γ=β
    ·subst ah;exact .inr ⟨γ,au,by simp[Qk],e4,h3⟩
    ·exact .inr ⟨γ,hg,by simp[Qk,ah,h1],h2,h3⟩
 have hXf:aE C ρ (Qk hp β au)=aE C ρ hp:=funext fun c=>propext (I4 c);have I9:aE C ρ hp b:=.inr ⟨β,hb,aj,mj,bl⟩;have Fa:eI β=false:=by
  cases hq:eI β with
  |false=>rfl
  |true=>have:=(h.own β hb aj).ro hq;rw[mj]at this;cases this
 have iy:lZ w w' (aE C ρ hp) (aE C ρ (Qk hp β au)):=by rw[hXf];exact⟨fun c hc hn=>hx.block c hc (fun e=>hn (e▸I9)),fun _ _ hn=>hn,hx.size⟩
 have hc:=iy.rc;have bj:=(h.own β hb aj).cB;rw[bl]at bj;have jz:Ext C.Y0 C.w0 w':=by refine h.ext.trans' (Y':=fun c=>c=b) hx ?_;intro c hc he;subst he;exact(Ctx.El bj.1 Fa).resolve_left (by omega)
 have Ba:∀β c,C.fx β=some c->∀e cap,cV C.w0 c e cap->cV w' c e cap:=fun b0 c iy e cap iz=>by
  have h1:=h.eJ b0 c iy e cap iz;by_cases jk:c=b
  ·subst jk;exact dw e cap h1
  ·exact kV (hx.block c (lf h1) jk) h1
 refine⟨h.sz,jz,Ba,fun γ hg ah=>?_,fun γ δ c h1 h2 h3 h4=>?_,fun i=>?_⟩
 ·unfold Qk at ah;by_cases rQ:γ=β
  ·subst rQ;rw[if_pos rfl]at ah;cases ah;refine⟨by rw[e1];exact(h.own γ hb aj).jU,hl,?_,(h.own γ hb aj).fix,fun hq=>by rw[Fa]at hq;cases hq⟩;rw[bl];obtain⟨cur,cap,c1,c2,c3,c4,c5⟩:=aV;exact⟨bj.1,Kbh bj.2.1 hx.size,cur,cap,c1,c2,c3,c4,fun i x hi j y hy=>hc _ _ (c5 i x hi j y hy)⟩
  ·rw[if_neg rQ]at ah;obtain⟨p1,p2,p3,p4,p5⟩:=h.own γ hg ah;refine⟨p1,p2,?_,p4,p5⟩;cases hr:ρ γ with
   |none=>rw[hr]at p3;exact p3
   |some c=>rw[hr]at p3;exact⟨p3.1,Kbh p3.2.1 hx.size,p3.2.2.move (hx.block c p3.2.1 (fun e=>rQ (h.inj γ β b (by simp[ah]) (by simp[aj]) (e▸hr) bl))) rfl rfl rfl hc⟩
 ·have f1:∀γ,Qk hp β au γ≠none->hp γ≠none:=fun γ hn=>by
   unfold Qk at hn;by_cases ah:γ=β
   ·subst ah;simp[aj]
   ·rwa[if_neg ah]at hn
  exact h.inj γ δ c (f1 γ h1) (f1 δ h2) h3 h4
 ·have key:∀γ,oH ρ ρ hp (Qk hp β au) w w' γ:=fun γ=>⟨rfl,fun hg gk=>by
   by_cases ah:γ=β
   ·subst ah;rw[aj]at gk;cases gk;exact⟨au,by simp[Qk],e1,by rw[e3];exact Kae _,fun c cap hr iz=>by rw[bl]at hr;cases hr;exact dw _ cap iz,fun he=>absurd he aQ⟩
   ·have oy:∀c,ρ γ=some c->¬c=b:=fun c hr e=>ah (h.inj γ β b (by simp[gk]) (by simp[aj]) (e▸hr) bl);refine⟨hg,by simp[Qk,ah,gk],rfl,Kae _,fun c cap hr iz=>kV (hx.block c (lf iz) (oy c hr)) iz,fun he=>⟨he,rfl,fun c hr=>hx.block c ?_ (oy c hr)⟩⟩;have:=(h.own γ hg gk).cB;rw[hr]at this;exact this.2.1⟩
  exact(h.cE i).pB iy (fun γ _=>(key γ).o) (fun γ _=>key γ)
end Go.FW
namespace Go.FW
open Go
variable {C : Ctx} {ρ : Nat -> Option Nat} {fr : Fr} {hp : HP} {w : World} {a : Act} {K : Qi}
theorem NO{X:Nat->Prop}{v:Value}{p:PV}(h:zF v=some p):Qp w X p v:=by unfold zF at h;split at h<;>simp at h<;>subst h<;>constructor
theorem lM{α β:Type}{f:α->Option β}:∀ {l:List α} {r:List β},l.mapM f=some r->r.length=l.length/\∀(i:Nat)(y:β),r[i]? =some y->∃x,l[i]? =some x/\f x=some y
 | [],r,h=>by simp at h;subst h;simp
 |x::l,r,h=>by
  rw[Kb4]at h;simp only[KbK,Kb7,Kab,KaA]at h;obtain⟨y,hy,r',hr,rfl⟩:=h;obtain⟨h1,h2⟩:=lM hr;refine⟨by simp[h1],fun i z hz=>?_⟩;cases i with
  |zero=>simp at hz;subst hz;exact⟨x,by simp,hy⟩
  |succ i=>simp at hz;simpa using h2 i z hz
theorem Cz(cs:Array Value)(i:Nat)(x:Value)(h:cs.toList[i]? =some x):cs.getD i undef=x:=by simp only[Array.getElem?_toList]at h;simp[KaL,h]
theorem rX{X:Nat->Prop}{v:Value}{p:PV}(h:sj v=some p):Q6 w X p v:=by
 unfold sj at h;split at h
 ·rename_i cs;simp only[Kaa]at h;obtain⟨l,h1,rfl⟩:=h;obtain⟨g1,g2⟩:=lM h1;refine⟨cs,rfl,by simpa using g1.symm,fun i x hx=>?_⟩;obtain⟨u,hu,hc⟩:=g2 i x hx;rw[Cz cs i u hu];exact NO hc
 ·exact Q6.qD (NO h)
theorem Cw{v:Value}{p:PV}(h:sj v=some p):p.aD=true/\p.refs=[]/\(∀f first cap,p≠ .fn f first cap):=by
 unfold sj at h;split at h
 ·simp only[Kaa]at h;obtain⟨l,h1,rfl⟩:=h;simp[PV.aD,PV.refs]
 ·unfold zF at h;split at h<;>simp at h<;>subst h<;>simp[PV.aD,PV.refs]
theorem Qm.TD{p:PV}{v:Value}(h:Q6 w (aE C ρ hp) p v)(hn:∀f first cap,p≠ .fn f first cap):Qm C ρ hp w p v:=by
 cases p with
 |fn f first cap=>exact absurd rfl (hn _ _ _)
 |undef=>trivial
 |mp=>cases h
 |aw=>cases h
 |rb=>cases h
 |aG=>cases h
 |np=>cases h
 |aM=>cases h
 |dZ=>cases h
 |cP=>cases h
 |aF=>cases h
 |aI=>cases h
 |agg cs=>exact h
 |_=>exact h
theorem Qm.lJ{p:PV}{v:Value}(h:Q6 w (aE C ρ hp) p v):Qm C ρ hp w p v:=by
 by_cases hf:∃f first cap,p= .fn f first cap
 ·obtain⟨f,first,cap,rfl⟩:=hf;cases h with
  |fn _ _ _ fv cv h1 h2 h3 h4=>
   refine⟨fv,cv,rfl,h1,h2,fun i x hi=>?_,fun i x hi=>?_⟩
   ·have:=h3 i x hi;cases x<;>first|exact this|cases this
   ·have:=h4 i x hi;cases x<;>first|exact this|cases this
 ·exact Qm.TD h (fun f first cap e=>hf ⟨f,first,cap,e⟩)
theorem ch{x:Operand}{y:aJ}(h:Qr C ρ fr hp a.tmps w)(ho:bJ x=some y):Qm C ρ hp w (ev fr y) (a.eval x):=by
 cases x with
 |tmp t=>simp[bJ]at ho;subst ho;exact h.cE t
 |const v=>simp only[bJ,Kaa]at ho;obtain⟨p,hp',rfl⟩:=ho;exact Qm.TD (rX hp') (Cw hp').2.2
 |global g=>simp[bJ]at ho
 |func f=>simp[bJ]at ho;subst ho;exact⟨#[],#[],rfl,rfl,rfl,by simp,by simp⟩
theorem Qm.j1{k:IntKind}{n:Int}{v:Value}(h:Qm C ρ hp w (.int k n) v):v= .int k n:=by cases h;rfl
theorem Qm.yb{b:Bool}{v:Value}(h:Qm C ρ hp w (.bool b) v):v= .bool b:=by cases h;rfl
theorem Qm.wK{v:Value}(h:Qm C ρ hp w .aa v):v= .slice none 0 0:=by cases h;rfl
theorem Qm.mkInt(k:IntKind)(n:Int):Qm C ρ hp w (.int k n) (.int k n):=Qp.int k n
theorem Qm.uO(b:Bool):Qm C ρ hp w (.bool b) (.bool b):=Qp.bool b
theorem Qm.TS:Qm C ρ hp w (.aI []) undef:=⟨#[],rfl,rfl,by simp⟩
def Qv(C:Ctx)(ρ:Nat->Option Nat)(o:Oper)(a:Act)(w:World)(K:Qi):Prop:=
 ∃v,(∀w',(execOp a.eval o).run C.P w'= .ok (.value v) w')/\∃aA hp',Qr C ρ aA hp' (a.put o.dst v).tmps w/\K aA hp'
theorem Qv.mk{o:Oper}{d:Nat}{p:PV}{v:Value}(hd:o.dst=some d)(aq:d<C.N)(h:Qr C ρ fr hp a.tmps w)
  (bS:∀w',(execOp a.eval o).run C.P w'= .ok (.value v) w') (hr:Qm C ρ hp w p v) (hK:K (ab fr d p) hp):Qv C ρ o a w K:=
 ⟨v,bS,ab fr d p,hp,by rw[hd];exact h.ab hr aq,hK⟩
theorem Q9{P:Program}{t:TypeId}{d:TypeDesc}(h:P.underlying t=some d)(w:World):(underlying t).run P w= .ok d w:=run_underlying h w
theorem kW{P:Program}{t:TypeId}{n:Nat}(h:dR P t=some n)(w:World):(sizeOf t).run P w= .ok n w:=by simp only[dR,Kaa]at h;obtain⟨i,hi,rfl⟩:=h;simp[sizeOf,typeInfo,hi]
theorem zg{P:Program}{t:TypeId}{ag:Bool}(h:lX P t=some ag)(w:World):(isAgg t).run P w= .ok ag w:=by simp only[lX,Kaa]at h;obtain⟨d,hd,rfl⟩:=h;simp only[isAgg,Kan,Q9 hd,Kak];cases d<;>rfl
theorem Ny{P:Program}{T:TypeId}(hu:P.underlying T=some .bool)(n m:Bool)(w:World):(Op.equal T (.bool n) (.bool m)).run P w= .ok (n==m) w:=by show(Op.equalIn (9999+1) T (.bool n) (.bool m)).run P w=_;unfold Op.equalIn;rw[Kan,Q9 hu,Kak];rfl
theorem Uj{P:Program}{T:TypeId}(hu:P.underlying T=some .bool)(n m:Bool)(w:World):(binOp .eql T (.bool n) (.bool m)).run P w= .ok (.bool (n==m)) w:=by show(do pure (Value.bool (<-Op.equal T (.bool n) (.bool m))):Sem Value).run P w=_;rw[Kan,Ny hu,Kak];rfl
theorem Uk{P:Program}{T:TypeId}(hu:P.underlying T=some .bool)(n m:Bool)(w:World):(binOp .neq T (.bool n) (.bool m)).run P w= .ok (.bool (!(n==m))) w:=by show(do pure (Value.bool (!(<-Op.equal T (.bool n) (.bool m)))):Sem Value).run P w=_;rw[Kan,Ny hu,Kak];rfl
theorem pG{o:Oper}{op:BinOp}{T T2:TypeId}{x y:Operand}(ho:o.op= .binOp op T x y T2){vx vy v:Value}(ex:a.eval x=vx)(ey:a.eval y=vy)
  (hg:∀w,(eqGuard op T x y vx vy).run C.P w= .ok () w) (hr:∀w,(binOp op T vx vy).run C.P w= .ok v w):∀w,(execOp a.eval o).run C.P w= .ok (.value v) w:=by
 intro w;unfold execOp;simp only[ho,ex,ey,Kan,hg,hr,Kak];rfl
theorem Wz{o:Oper}{op:BinOp}{T T2:TypeId}{x y:Operand}{px py:PV}{d:Nat}(ho:o.op= .binOp op T x y T2)(hd:o.dst=some d)(aq:d<C.N)(h:Qr C ρ fr hp a.tmps w)
    (hx:Qm C ρ hp w px (a.eval x)) (hy:Qm C ρ hp w py (a.eval y)) {bt:Bool} (fN:bt=true->C.P.underlying T=some .bool)
    (hv:bQ op bt px py d fr hp K):Qv C ρ o a w K:=by
  unfold bQ at hv;split at hv
  · rename_i k n k' m
    have ex:=hx.j1;have ey:=hy.j1;have jl:∀w',(eqGuard op T x y (.int k n) (.int k' m)).run C.P w'= .ok () w':=by intro w';unfold eqGuard;cases op<;>rfl
    split at hv
    · obtain⟨h0,hv⟩:=hv
      have IN:¬m<0:=by omega
      exact Qv.mk hd aq h (pG ho ex ey jl (fun w'=>by simp[binOp,Op.shift,IN])) (Qm.mkInt _ _) hv
    · obtain⟨h0,hv⟩:=hv
      have IN:¬m<0:=by omega
      exact Qv.mk hd aq h (pG ho ex ey jl (fun w'=>by simp[binOp,Op.shift,IN])) (Qm.mkInt _ _) hv
    all_goals first
      |exact hv.elim
      | (obtain⟨rfl,h0,hv⟩:=hv
         exact Qv.mk hd aq h (pG ho ex ey jl (fun w'=>by simp[binOp,Op.intDiv,h0])) (Qm.mkInt _ _) hv)
      | (obtain⟨rfl,hv⟩:=hv
         exact Qv.mk hd aq h (pG ho ex ey jl (fun w'=>by simp[binOp,Op.intArith,Op.intBits])) (Qm.mkInt _ _) hv)
      | (obtain⟨rfl,hv⟩:=hv
         refine Qv.mk hd aq h (pG ho ex ey jl ?_) (Qm.uO _) hv;intro w';simp[binOp,Op.intCmp]<;>rfl)
  · rename_i n m
    have ex:=hx.yb;have ey:=hy.yb;have jl:∀w',(eqGuard op T x y (.bool n) (.bool m)).run C.P w'= .ok () w':=by intro w';unfold eqGuard;cases op<;>rfl
    split at hv
    · obtain⟨hb,hv⟩:=hv
      exact Qv.mk hd aq h (pG ho ex ey jl (Uj (fN hb) n m)) (Qm.uO _) hv
    · obtain⟨hb,hv⟩:=hv
      exact Qv.mk hd aq h (pG ho ex ey jl (Uk (fN hb) n m)) (Qm.uO _) hv
    · exact hv.elim
  · exact hv.elim
theorem Qm.TM{e:Nat}{xs:List PV}{v:Value}(h:Qm C ρ hp w (.sl e xs) v):∃ad cap,v= .slice ad xs.length cap/\xs.length<=cap/\cap<=maxLen:=by
 cases h with
 |mE _ ad cap hc=>exact⟨ad,cap,rfl,KbL _,hc⟩
 |sl _ _ b off cap vs hX hb hl hc=>exact⟨_,cap,rfl,hl,hc⟩
theorem Qm.Kk{β o n:Nat}{v:Value}(h:Qm C ρ hp w (.aw β o n) v):∃ad cap,v= .slice ad n cap:=by
 obtain⟨hb,_,_,⟨_,rfl,rfl,rfl⟩|⟨b,cap,_,rfl,_⟩⟩:=h
 ·exact⟨_,_,rfl⟩
 ·exact⟨_,_,rfl⟩
theorem Qm.apg{γ o n:Nat}{v:Value}(h:Qm C ρ hp w (.aG γ o n) v):∃ad cap,v= .slice ad n cap:=by obtain⟨_,hb,b,cap,_,_,rfl,_⟩:=h;exact⟨_,_,rfl⟩
theorem Qm.FF{γ i o:Nat}{v:Value}(h:Qm C ρ hp w (.np γ i o) v):bC γ=true/\∃b hb,ρ γ=some b/\hp γ=some hb/\v= .pointer (some ⟨b,i*hb.e+o,none⟩):=h
theorem Qm.TC{p:PV}{v:Value}(h:cx C ρ hp w p v):Qm C ρ hp w p v:=by
 cases p with
 |undef=>trivial
 |aw β o n=>exact h.2
 |aG γ o n=>exact h
 |_=>exact Qm.lJ (Q6.qD h)
theorem cx.toC{p:PV}{v:Value}(h:cx C ρ hp w p v)(hr:p.oA=false):Qp w (aE C ρ hp) p v:=by
 cases p with
 |undef=>cases hr
 |aw=>cases hr
 |aG=>cases hr
 |_=>exact h
theorem cx.TA{p:PV}{v:Value}(h:Qp w (aE C ρ hp) p v):cx C ρ hp w p v:=by
 cases p with
 |aw=>cases h
 |aG=>cases h
 |undef=>trivial
 |_=>exact h
theorem cx.rT{p:PV}{v:Value}(h:cx C ρ hp w p v)(hu:p≠ .undef):v.oneCell'=true/\v.cells= #[v]:=by
 cases p with
 |undef=>exact absurd rfl hu
 |aw β o n=>obtain⟨_,hb,_,_,⟨_,rfl,_⟩|⟨b,cap,_,rfl,_⟩⟩:=h<;>exact⟨rfl,rfl⟩
 |aG γ o n=>obtain⟨_,hb,b,cap,_,_,rfl,_⟩:=h;exact⟨rfl,rfl⟩
 |_=>exact⟨(Qp.rT h).1,(Qp.rT h).2.1⟩
theorem UJ(cs:List PV):(nQ cs).aW=cs:=by unfold nQ;split<;>rfl
theorem WA{cs:List PV}{vs:Array Value}(hs:vs.size=cs.length)(h:∀(i:Nat)(x:PV),cs[i]? =some x->cx C ρ hp w x (vs.getD i undef)):Qm C ρ hp w (nQ cs) (.agg vs):=by
 unfold nQ;split
 ·exact⟨vs,rfl,hs,h⟩
 ·rename_i hn;refine⟨vs,rfl,hs,fun i x hi=>(h i x hi).toC ?_⟩;have hm:=Kaj hi;cases hq:x.oA with
  |false=>rfl
  |true=>exact absurd (KaS.2 ⟨x,hm,hq⟩) hn
theorem H8{ag:Bool}{n off:Nat}{x:PV}{vs:Array Value}(hs:vs.size=n)(hle:off+n<=x.aW.length)(h1:ag=false->n=1)
  (hr:∀j y,j<n->x.aW[off+j]? =some y->cx C ρ hp w y (vs.getD j undef)):Qm C ρ hp w (rR ag n off x) (if ag then .agg vs else vs.getD 0 undef):=by
 cases ag with
 | true=>
  refine WA (by simp[hs];omega) (fun i y hy=>?_);have hi:i<n:=by have:=(Kaf.1 hy).1;simp at this;omega
  rw[KaF hi,Ka2]at hy;exact hr i y hi hy
 | false=>
  have hn:=h1 rfl;subst hn;have aq:off<x.aW.length:=by omega
  have e:x.aW[off+0]? =some (x.aW[off]):=by simp[Kag aq]
  have:=hr 0 _ (by omega) e;simp only[rR,Ka8,if_false];have e2:(x.aW.drop off).headD .undef=x.aW[off]:=by rw[KbF,Kcg,Kag aq];rfl
  rw[e2];exact Qm.TC this
theorem Co{o:Oper}{b:Builtin}{args:Array Operand}{ts:Array TypeId}(ho:o.op= .call { callee:=.builtin b,args:=args,argTypes:=ts }){v:Value}
  (hr:∀w,(builtin b ts o.type (args.map fun| .const _=>true|_=>false) (args.map a.eval)).run C.P w= .ok (.value v) w):∀w,(execOp a.eval o).run C.P w= .ok (.value v) w:=by
 intro w;unfold execOp;simp only[ho,resolve,Kan,KaU,Kak,invoke];exact hr w
theorem WC{o:Oper}{x:Operand}{t:TypeId}{px:PV}{d:Nat}(ho:o.op= .call { callee:=.builtin .len,args:= #[x],argTypes:= #[t] })(hd:o.dst=some d)(aq:d<C.N)(h:Qr C ρ fr hp a.tmps w)
  (hx:Qm C ρ hp w px (a.eval x)) {e:TypeId} (he:C.P.underlying t=some (.slice e)) (hv:oY px d fr hp K):Qv C ρ o a w K:=by
 have key:∀ad n cap,a.eval x= .slice ad n cap->K (ab fr d (.int .i64 n)) hp->Qv C ρ o a w K:=fun ad n cap ex hK=>
  Qv.mk hd aq h (Co ho (fun w'=>by simp[builtin,Builtin.len_,ex,Kan,Q9 he,goInt])) (Qm.mkInt _ _) hK
 unfold oY at hv;split at hv
 ·exact key _ _ _ hx.wK hv
 ·obtain⟨ad,cap,ex,_⟩:=hx.TM;exact key _ _ _ ex hv
 ·obtain⟨ad,cap,ex⟩:=hx.Kk;exact key _ _ _ ex hv
 ·obtain⟨ad,cap,ex⟩:=hx.apg;exact key _ _ _ ex hv
 ·exact hv.elim
theorem Qm.FN{s:ByteArray}{v:Value}(h:Qm C ρ hp w (.str s) v):v= .string s:=by cases h;rfl
theorem KD{P:Program}{t:TypeId}(h:xH P t=true):P.underlying t=some .string:=by
 unfold xH at h;split at h
 ·assumption
 ·cases h
theorem W8{o:Oper}{x:Operand}{t:TypeId}{px:PV}{d:Nat}(ho:o.op= .call { callee:=.builtin .len,args:= #[x],argTypes:= #[t] })(hd:o.dst=some d)(aq:d<C.N)(h:Qr C ρ fr hp a.tmps w)
  (hx:Qm C ρ hp w px (a.eval x)) (hs:xH C.P t=true) (hv:vA px d fr hp K):Qv C ρ o a w K:=by
 have hu:=KD hs;unfold vA at hv;split at hv
 ·rename_i s;have ex:=hx.FN;exact Qv.mk hd aq h (Co ho (fun w'=>by simp[builtin,Builtin.len_,ex,Kan,Q9 hu,goInt])) (Qm.mkInt _ _) hv
 ·exact hv.elim
theorem UK{P:Program}{T:TypeId}(hu:P.underlying T=some .string)(n m:ByteArray)(w:World):(binOp .eql T (.string n) (.string m)).run P w= .ok (.bool (n==m)) w:=by simp[binOp,Op.stringOp,beq_toListBytes]
theorem UL{P:Program}{T:TypeId}(hu:P.underlying T=some .string)(n m:ByteArray)(w:World):(binOp .neq T (.string n) (.string m)).run P w= .ok (.bool (!(n==m))) w:=by simp[binOp,Op.stringOp,bne,beq_toListBytes]
theorem Pu(x y:ByteArray):(x==y)=decide (x=y):=by
 by_cases h:x=y
 ·subst h;rw[decide_eq_true rfl];show(x.data==x.data)=true;simp
 ·rw[decide_eq_false h];have h':x.data≠y.data:=fun e=>h (by cases x;cases y;simp_all);show(x.data==y.data)=false;simpa using h'
theorem W9{o:Oper}{op:BinOp}{ng:Bool}{T T2:TypeId}{x y:Operand}{px py:PV}{d:Nat}(ho:o.op= .binOp op T x y T2)(hop:B8 op=some ng)(hs:xH C.P T=true)(hd:o.dst=some d)(aq:d<C.N)(h:Qr C ρ fr hp a.tmps w)
  (hx:Qm C ρ hp w px (a.eval x)) (hy:Qm C ρ hp w py (a.eval y)) (hv:re ng px py d fr hp K):Qv C ρ o a w K:=by
 have hu:=KD hs;unfold re at hv;split at hv
 ·rename_i n m;have ex:=hx.FN;have ey:=hy.FN;have jl:∀w',(eqGuard op T x y (.string n) (.string m)).run C.P w'= .ok () w':=by intro w';unfold eqGuard;cases op<;>rfl
  cases op<;>first|(cases hop;done)|skip
  ·cases hop;exact Qv.mk hd aq h (pG ho ex ey jl (UK hu n m)) (Qm.uO _) (by rw[Pu];simpa using hv)
  ·cases hop;exact Qv.mk hd aq h (pG ho ex ey jl (UL hu n m)) (Qm.uO _) (by rw[Pu];simpa using hv)
 ·exact hv.elim
theorem aau{o:Oper}{x y:Operand}{ts:Array TypeId}{px py:PV}{d:Nat}(ho:o.op= .call { callee:=.builtin .max,args:= #[x,y],argTypes:=ts })(hd:o.dst=some d)(aq:d<C.N)(h:Qr C ρ fr hp a.tmps w)
  (hx:Qm C ρ hp w px (a.eval x)) (hy:Qm C ρ hp w py (a.eval y)) (hv:wI px py d fr hp K):Qv C ρ o a w K:=by
 unfold wI at hv;split at hv
 ·rename_i k n k' m;have ex:=hx.j1;have ey:=hy.j1;refine Qv.mk hd aq h (Co ho (fun w'=>?_)) (Qm.mkInt _ _) hv;have e:(if m>n then m else n)=max n m:=by omega
  simp[builtin,Builtin.max_,ex,ey,Builtin.max2,e]
 ·exact hv.elim
theorem aav{o:Oper}{x y:Operand}{ts:Array TypeId}{px py:PV}{d:Nat}(ho:o.op= .call { callee:=.builtin .min,args:= #[x,y],argTypes:=ts })(hd:o.dst=some d)(aq:d<C.N)(h:Qr C ρ fr hp a.tmps w)
  (hx:Qm C ρ hp w px (a.eval x)) (hy:Qm C ρ hp w py (a.eval y)) (hv:wG px py d fr hp K):Qv C ρ o a w K:=by
 unfold wG at hv;split at hv
 ·rename_i k n k' m;have ex:=hx.j1;have ey:=hy.j1;refine Qv.mk hd aq h (Co ho (fun w'=>?_)) (Qm.mkInt _ _) hv;have e:(if m<n then m else n)=min n m:=by omega
  simp[builtin,Builtin.min_,ex,ey,Builtin.min2,e]
 ·exact hv.elim
theorem aaw{o:Oper}{op:UnOp}{T:TypeId}{x:Operand}{px:PV}{d:Nat}(ho:o.op= .unOp op T x)(hd:o.dst=some d)(aq:d<C.N)(h:Qr C ρ fr hp a.tmps w)
  (hx:Qm C ρ hp w px (a.eval x)) (hv:uU op px d fr hp K):Qv C ρ o a w K:=by
 unfold uU at hv;split at hv
 ·have ex:=hx.yb;refine Qv.mk hd aq h (fun w'=>?_) (Qm.uO _) hv;unfold execOp;simp only[ho,ex];rfl
 ·have ex:=hx.j1;refine Qv.mk hd aq h (fun w'=>?_) (Qm.mkInt _ _) hv;unfold execOp;simp only[ho,ex];rfl
 ·exact hv.elim
theorem VP{o:Oper}{S T:TypeId}{x:Operand}{px:PV}{d:Nat}{ds:TypeDesc}{k:IntKind}(ho:o.op= .convert S T x)(hd:o.dst=some d)(aq:d<C.N)(h:Qr C ρ fr hp a.tmps w)
  (hS:C.P.underlying S=some ds) (hT:C.P.underlying T=some (.int k)) (hx:Qm C ρ hp w px (a.eval x)) (hv:vp k px d fr hp K):Qv C ρ o a w K:=by
 unfold vp at hv;split at hv
 ·have ex:=hx.j1;refine Qv.mk hd aq h (fun w'=>?_) (Qm.mkInt _ _) hv;unfold execOp;simp only[ho,ex,Kan,convert,Q9 hS,Q9 hT,Kak];rfl
 ·exact hv.elim
theorem Xa{o:Oper}{i:Nat}{x:Operand}{px:PV}{d:Nat}(ho:o.op= .extract x i)(hd:o.dst=some d)(aq:d<C.N)(h:Qr C ρ fr hp a.tmps w)
  (hx:Qm C ρ hp w px (a.eval x)) (hv:lY px i d fr hp K):Qv C ρ o a w K:=by
 unfold lY at hv;split at hv
 ·rename_i ps;split at hv
  ·rename_i p fy;obtain⟨dx,hv⟩:=hv;obtain⟨vs,ex,h1,h2⟩:=hx;have hi:i<vs.size:=by rw[h1];exact(Kaf.1 fy).1
   have hr:=h2 i p fy;have hg:vs.getD i undef=vs[i]:=by simp[Array.getD,hi]
   rw[hg]at hr;refine Qv.mk hd aq h (fun w'=>?_) (Qm.lJ hr) hv;unfold execOp;simp only[ho,ex,Kan,Instr.extract,Kbq hi];rfl
  ·exact hv.elim
 ·rename_i ps;split at hv
  ·rename_i p fy;obtain⟨vs,ex,h1,h2⟩:=hx;have hi:i<vs.size:=by rw[h1];exact(Kaf.1 fy).1
   have hr:=h2 i p fy;have hg:vs.getD i undef=vs[i]:=by simp[Array.getD,hi]
   rw[hg]at hr;refine Qv.mk hd aq h (fun w'=>?_) (Qm.TC hr) hv;unfold execOp;simp only[ho,ex,Kan,Instr.extract,Kbq hi];rfl
  ·exact hv.elim
 ·rename_i cs q;obtain⟨vs,u,ex,h1,h2,h3⟩:=hx;split at hv
  ·refine Qv.mk (p:=.aM cs) (v:=.agg vs) hd aq h (fun w'=>?_) ⟨vs,rfl,h1,h2⟩ hv;unfold execOp;simp only[ho,ex,Kan,Instr.extract];rfl
  ·refine Qv.mk (v:=u) hd aq h (fun w'=>?_) (Qm.lJ h3) hv;unfold execOp;simp only[ho,ex,Kan,Instr.extract];rfl
  ·exact hv.elim
 ·exact hv.elim
theorem KE{o:Oper}{x:Operand}{px:PV}{d:Nat}(ho:o.op= .move x∨o.op= .assign x)(hd:o.dst=some d)(aq:d<C.N)(h:Qr C ρ fr hp a.tmps w)
  (hx:Qm C ρ hp w px (a.eval x)) (hv:K (ab fr d px) hp):Qv C ρ o a w K:=by
 refine Qv.mk hd aq h (fun w'=>?_) hx hv;rcases ho with ho|ho<;>(unfold execOp;simp only[ho];rfl)
theorem VQ{o:Oper}{c x y:Operand}{pc px py:PV}{d:Nat}(ho:o.op= .pick c x y)(hd:o.dst=some d)(aq:d<C.N)(h:Qr C ρ fr hp a.tmps w)
  (hc:Qm C ρ hp w pc (a.eval c)) (hx:Qm C ρ hp w px (a.eval x)) (hy:Qm C ρ hp w py (a.eval y))
  (hv:sC pc px py d fr hp K):Qv C ρ o a w K:=by
 obtain⟨t,rfl,hv⟩:∃t,pc= .bool t/\((t=true->K (ab fr d px) hp)/\(t=false->K (ab fr d py) hp)):=by
  cases pc with
  |bool t=>exact⟨t,rfl,hv⟩
  |_=>exact hv.elim
 have ec:=hc.yb;cases t with
 |true=>refine Qv.mk hd aq h (fun w'=>?_) hx (hv.1 rfl);unfold execOp;simp only[ho,ec];rfl
 |false=>refine Qv.mk hd aq h (fun w'=>?_) hy (hv.2 rfl);unfold execOp;simp only[ho,ec];rfl
theorem Ck{P:Program}{T:TypeId}{k0:IntKind}(hu:P.underlying T=some (.int k0))(d:Nat)(k:IntKind)(n m:Int)(w:World):(Op.equalIn (d+1) T (.int k n) (.int k m)).run P w= .ok (n==m) w:=by unfold Op.equalIn;rw[Kan,Q9 hu,Kak];simp
theorem zj{P:Program}{t:TypeId}{cs:Array Value}{off:Nat}{v:Value}(ha:lX P t=some false)(hv:cs[off]? =some v)(w:World):(part t cs off).run P w= .ok v w:=by unfold part;rw[Kan,zg ha,Kak];simp[hv]
theorem Ud {P : Program} {T : TypeId} {f g : Field} (hu : P.underlying T = some (.struct #[f, g])) (h1 : f.name ≠ "_") (h2 : g.name ≠ "_") (o1 : f.offset = 0) (o2 : g.offset = 1) {k1 k2 : IntKind} (t1 : P.underlying f.type = some (.int k1)) (t2 : P.underlying g.type = some (.int k2))
  (hs:P.stoodInHeld T=false) (k l:IntKind) (x y x' y':Int) (w:World):(Op.equal T (.agg #[.int k x,.int l y]) (.agg #[.int k x',.int l y'])).run P w= .ok (x==x'&&y==y') w:=by
 have a1:lX P f.type=some false:=by simp[lX,t1]
 have a2:lX P g.type=some false:=by simp[lX,t2]
 show(Op.equalIn (9998+1+1) T _ _).run P w=_;rw[Op.equalIn];rw[Kan,Q9 hu,Kak];have hp:Sem.run P program w= .ok P w:=rfl;rw[Kan,hp,Kak,hs];simp only[Ka8,if_false];rw[<-Array.forIn_toList];simp only[List.forIn_cons,List.forIn_nil,Kan,o1,o2,h1,h2,ne_eq,not_false_eq_true,if_true,zj a1 (show(#[Value.int k x,Value.int l y])[0]? =some _ from rfl),zj a1 (show(#[Value.int k x',Value.int l y'])[0]? =some _ from rfl),
  zj a2 (show(#[Value.int k x,Value.int l y])[1]? =some _ from rfl),zj a2 (show(#[Value.int k x',Value.int l y'])[1]? =some _ from rfl),Ck t1,Ck t2,Kak]
 have q1:∀n m w,(Op.equalIn 9999 f.type (.int k n) (.int k m)).run P w= .ok (n==m) w:=fun n m w=>Ck t1 9998 k n m w;have q2:∀n m w,(Op.equalIn 9999 g.type (.int l n) (.int l m)).run P w= .ok (n==m) w:=fun n m w=>Ck t2 9998 l n m w;have p2:∀u v w,(part g.type #[u,v] 1).run P w= .ok v w:=fun u v w=>zj a2 (show(#[u,v])[1]? =some _ from rfl) w;by_cases e1:x=x'<;>by_cases e2:y=y'<;>simp[e1,e2,q1,q2,p2]
theorem aax{P:Program}{T:TypeId}{b:Bool}{X Y:Array Value}(h:∀w,(Op.equal T (.agg X) (.agg Y)).run P w= .ok b w)(w:World):(binOp .eql T (.agg X) (.agg Y)).run P w= .ok (.bool b) w:=by show(do pure (Value.bool (<-Op.equal T (.agg X) (.agg Y))):Sem Value).run P w=_;rw[Kan,h,Kak];rfl
theorem aay{P:Program}{T:TypeId}{b:Bool}{X Y:Array Value}(h:∀w,(Op.equal T (.agg X) (.agg Y)).run P w= .ok b w)(w:World):(binOp .neq T (.agg X) (.agg Y)).run P w= .ok (.bool !b) w:=by show(do pure (Value.bool (!(<-Op.equal T (.agg X) (.agg Y)))):Sem Value).run P w=_;rw[Kan,h,Kak];rfl
theorem OJ {P : Program} {T:TypeId} {op:BinOp} {x y:Operand} {X Y:Array Value} (h:P.eqGuardType P.depth T=false) (w:World):(eqGuard op T x y (.agg X) (.agg Y)).run P w= .ok () w:=by
  have hp:Sem.run P program w= .ok P w:=rfl
  have hg : (do if !(<-program).eqGuardType (<-program).depth T then return
                if <- Op.eqGuardIn Op.maxDepth T (.agg X) (.agg Y) then unsupported (.noEntry "binop/eql: two nil values of an interface type with methods, in a part of a struct or an array") : Sem Unit).run P w = .ok () w := by
    rw[Kan,hp,Kak,Kan,hp,Kak,h];rfl
  cases op<;>first|rfl|exact hg
theorem afA {P : Program} {T : TypeId} (h : FM P T = true) : ∃ f g k1 k2, P.underlying T = some (.struct #[f, g]) /\ f.name ≠ "_" /\ g.name ≠ "_" /\ f.offset = 0 /\ g.offset = 1 /\ P.underlying f.type = some (.int k1) /\ P.underlying g.type = some (.int k2) /\ P.stoodInHeld T = false /\ P.eqGuardType P.depth T = false := by
 unfold FM at h;split at h
 ·rename_i fs hu;split at h
  ·rename_i f g og;simp only[Kav,bne_iff_ne,ne_eq,beq_iff_eq,Bool.not_eq_true']at h;obtain⟨⟨⟨⟨⟨⟨⟨h1,h2⟩,h3⟩,h4⟩,h5⟩,h6⟩,h7⟩,h8⟩:=h;have:fs= #[f,g]:=by rw[<-Array.toArray_toList (xs:=fs),og]
   subst this;cases u1:P.underlying f.type with
   |none=>rw[u1]at h5;cases h5
   | some t1=>cases u2:P.underlying g.type with
    |none=>rw[u2]at h6;cases h6
    |some t2=>
     rw[u1]at h5;rw[u2]at h6;cases t1<;>first|(cases h5;done)|skip
     cases t2<;>first|(cases h6;done)|skip
     exact⟨f,g,_,_,hu,h1,h2,h3,h4,u1,u2,h7,h8⟩
  ·cases h
 ·cases h
theorem KF{cs:List PV}{v:Value}{p q:PV}(kH:cs=[p,q])(h:Qm C ρ hp w (.agg cs) v):∃x y,v= .agg #[x,y]/\Qp w (aE C ρ hp) p x/\Qp w (aE C ρ hp) q y:=by
 subst kH;obtain⟨vs,rfl,h1,h2⟩:=h;have hs:vs.size=2:=h1;refine⟨vs.getD 0 undef,vs.getD 1 undef,?_,h2 0 p rfl,h2 1 q rfl⟩;congr 1;apply Array.ext
 ·simp[hs]
 ·intro i hi az;have:i=0∨i=1:=by simp at az;omega
  rcases this with rfl|rfl<;>simp[Array.getD,hs]
theorem Xb{o:Oper}{op:BinOp}{ng:Bool}{T T2:TypeId}{x y:Operand}{px py:PV}{d:Nat}(ho:o.op= .binOp op T x y T2)(hop:B8 op=some ng)(dA:FM C.P T=true)(hd:o.dst=some d)(aq:d<C.N)(h:Qr C ρ fr hp a.tmps w)
  (hx:Qm C ρ hp w px (a.eval x)) (hy:Qm C ρ hp w py (a.eval y)) (hv:ra ng px py d fr hp K):Qv C ρ o a w K:=by
 obtain⟨f,g,k1,k2,hu,h1,h2,h3,h4,u1,u2,h7,h8⟩:=afA dA;unfold ra at hv;split at hv
 ·rename_i k n l m k' n' l' m';obtain⟨rfl,rfl,hv⟩:=hv;obtain⟨a1,b1,ex,r1,r2⟩:=KF rfl hx;obtain⟨a2,b2,ey,r3,r4⟩:=KF rfl hy;cases r1;cases r2;cases r3;cases r4;have heq:∀w,(Op.equal T (.agg #[.int k n,.int l m]) (.agg #[.int k n',.int l m'])).run C.P w= .ok (n==n'&&m==m') w:=fun w=>Ud hu h1 h2 h3 h4 u1 u2 h7 k l n m n' m' w;have e:(n==n'&&m==m')=(decide (n=n')&&decide (m=m')):=rfl;rw[e]at heq;cases op<;>first|(cases hop;done)|skip
  ·cases hop;exact Qv.mk hd aq h (pG ho ex ey (OJ h8) (aax heq)) (Qm.uO _) (by simpa using hv)
  ·cases hop;exact Qv.mk hd aq h (pG ho ex ey (OJ h8) (aay heq)) (Qm.uO _) (by simpa using hv)
 ·exact hv.elim
end Go.FW
namespace Go.FW
open Go
variable {C : Ctx} {ρ : Nat -> Option Nat} {fr : Fr} {hp : HP} {w : World} {a : Act} {K : Qi}
theorem UM{l:List PV}{n:Nat}(h:n<l.length):l[n]? =some (l[n]'h):=Kag h
theorem Gu{P:Program}{t e:TypeId}{n:Nat}{ad:Addr}{len cap:Nat}{k:IntKind}{i:Int}(hu:P.underlying t=some (.slice e))(hn:dR P e=some n)(h0:0<=i)(h1:i<len)(w:World):
  (Instr.indexAt t (.slice (some ad) len cap) (.int k i)).run P w= .ok (.pointer (some (ad.add (i.toNat*n)))) w:=by
 have h2:0<=i/\i<len:=⟨h0,h1⟩
 unfold Instr.indexAt;simp only[asIntOf,Kan,KaU,Kak,Q9 hu,if_pos h2,kW hn]
theorem Nw{P:Program}{t e:TypeId}{n len:Nat}{ad:Addr}{k:IntKind}{i:Int}(hu:P.underlying t=some (.array len e))(hn:dR P e=some n)(h0:0<=i)(h1:i<len)(w:World):
  (Instr.indexAt t (.pointer (some ad)) (.int k i)).run P w= .ok (.pointer (some (ad.add (i.toNat*n)))) w:=by
 have h2:0<=i/\i<len:=⟨h0,h1⟩
 unfold Instr.indexAt;simp only[asIntOf,Kan,KaU,Kak,Q9 hu,Instr.sureAddr,if_pos h2,kW hn]
theorem Qm.yH{β i o:Nat}{v:Value}(h:Qm C ρ hp w (.mp β i o) v):∃b hb,ρ β=some b/\hp β=some hb/\v= .pointer (some ⟨b,i*hb.e+o,none⟩):=h
theorem Qm.Kj{β i o b:Nat}{hb:HB}(h1:ρ β=some b)(h2:hp β=some hb):Qm C ρ hp w (.mp β i o) (.pointer (some ⟨b,i*hb.e+o,none⟩)):=⟨b,hb,h1,h2,rfl⟩
theorem Xc{o:Oper}{t e:TypeId}{n:Nat}{x i:Operand}{px pi:PV}{d:Nat}(ho:o.op= .indexAddr t x i)(hd:o.dst=some d)(aq:d<C.N)(h:Qr C ρ fr hp a.tmps w)
  (hu:C.P.underlying t=some (.slice e)) (hn:dR C.P e=some n) (hx:Qm C ρ hp w px (a.eval x)) (hi:Qm C ρ hp w pi (a.eval i)) (hv:Q7 n px pi d fr hp K):Qv C ρ o a w K:=by
 unfold Q7 at hv;split at hv
 ·rename_i e' xs k m;obtain⟨rfl,h0,h1,hK⟩:=hv;have ei:=hi.j1;have hlen:m<xs.length:=by omega
  generalize ev:a.eval x=vx at hx;cases hx with
  |mE=>simp at h1
  |sl _ _ b off cap vs hX hb hl hc he oz hr=>
   have nu:=UM h1;have di:=he _ _ nu;refine Qv.mk hd aq h (v:=.pointer (some ⟨b,off+m.toNat*n,none⟩)) (fun w'=>?_) ?_ hK
   ·unfold execOp;simp only[ho,ei,ev,Kan,Gu hu hn h0 hlen,Kak,KbI];rfl
   ·exact Qp.pt _ b _ (vs m.toNat) hX hb (fun j hj=>oz m.toNat h1 j (by omega)) (fun j y hy=>hr m.toNat _ nu j y hy)
 ·rename_i β o' m k n';obtain⟨h0,h1,h2,hK⟩:=hv;have ei:=hi.j1;obtain⟨hb,g1,g2,⟨g3,_,g5,_⟩|⟨b,cap,g3,g4,g5,g6⟩⟩:=hx
  ·omega
  ·rw[g1]at h2;simp only[KbY,KaA]at h2;subst h2;have hm:n'<m:=by omega
   refine Qv.mk hd aq h (fun w'=>?_) (Qm.Kj g3 g1) hK;unfold execOp;simp only[ho,ei,g4,Kan,Gu hu hn h0 hm,Kak,KbI,KaM,KaD];rfl
 ·rename_i γ o' m k n';obtain⟨h0,h1,h2,hK⟩:=hv;have ei:=hi.j1;obtain⟨hB,hb,b,cap,g1,g3,g4,g5,g6,g7⟩:=hx;rw[g1]at h2;simp only[KbY,KaA]at h2;subst h2;have hm:n'<m:=by omega
  refine Qv.mk hd aq h (p:=.np γ (o'+n'.toNat) 0) (fun w'=>?_) (show cF C ρ hp w (.np γ (o'+n'.toNat) 0) _ from⟨hB,b,hb,g3,g1,rfl⟩) hK;unfold execOp;simp only[ho,ei,g4,Kan,Gu hu hn h0 hm,Kak,KbI,KaM,KaD];rfl
 ·exact hv.elim
theorem Qp.TI{X:Nat->Prop}{cs:List PV}{b off k:Nat}(h:Qp w X (.pt cs) (.pointer (some ⟨b,off,none⟩))):Qp w X (.pt (cs.drop k)) (.pointer (some ⟨b,off+k,none⟩)):=by
 cases h with
 |pt _ _ _ vs hX hb hv hr=>
  refine Qp.pt _ b _ (fun j=>vs (k+j)) hX hb (fun j hj=>?_) (fun j y hy=>?_)
  ·have:=hv (k+j) (by simp at hj;omega);rwa[<-Nat.add_assoc]at this
  ·rw[Ka2]at hy;exact hr _ _ hy
theorem Qm.FI{cs:List PV}{v:Value}(h:Qm C ρ hp w (.pt cs) v):∃b off,v= .pointer (some ⟨b,off,none⟩)/\Qp w (aE C ρ hp) (.pt cs) (.pointer (some ⟨b,off,none⟩)):=by
 have h':Qp w (aE C ρ hp) (.pt cs) v:=h;cases h' with
 |pt _ b off vs hX hb hv hr=>exact⟨b,off,rfl,.pt _ b off vs hX hb hv hr⟩
theorem VR{o:Oper}{t e:TypeId}{n len:Nat}{x i:Operand}{px pi:PV}{d:Nat}(ho:o.op= .indexAddr t x i)(hd:o.dst=some d)(aq:d<C.N)(h:Qr C ρ fr hp a.tmps w)
  (hu:C.P.underlying t=some (.array len e)) (hn:dR C.P e=some n) (hx:Qm C ρ hp w px (a.eval x)) (hi:Qm C ρ hp w pi (a.eval i)) (hv:jI len n px pi d fr hp K):Qv C ρ o a w K:=by
 unfold jI at hv;split at hv
 ·rename_i β j o' k m;obtain⟨h0,h1,hK⟩:=hv;have ei:=hi.j1;obtain⟨b,hb,g1,g2,g3⟩:=hx.yH;refine Qv.mk hd aq h (fun w'=>?_) (Qm.Kj g1 g2) hK;unfold execOp;simp only[ho,ei,g3,Kan,Nw hu hn h0 h1,Kak,KbI,KbX];rfl
 ·rename_i cs k m;obtain⟨h0,h1,h2,hK⟩:=hv;have ei:=hi.j1;obtain⟨b,off,ex,hp'⟩:=hx.FI;refine Qv.mk hd aq h (p:=.pt (cs.drop (m.toNat*n))) (v:=.pointer (some ⟨b,off+m.toNat*n,none⟩)) (fun w'=>?_) hp'.TI hK;unfold execOp;simp only[ho,ei,ex,Kan,Nw hu hn h0 h1,Kak,KbI];rfl
 ·exact hv.elim
theorem GA{P:Program}{t:TypeId}{fs:Array Field}{j:Nat}{f:Field}{n b off:Nat}(hu:P.underlying t=some (.struct fs))(hf:fs[j]? =some f)(hn:dR P f.type=some n)(h0:n≠0)(w:World):
  (Instr.fieldAt t (.pointer (some ⟨b,off,none⟩)) j).run P w= .ok (.pointer (some ⟨b,off+f.offset,none⟩)) w:=by
 unfold Instr.fieldAt;simp only[Kan,Q9 hu,Kak,hf,Instr.sureAddr,KaU,fieldPlace,kW hn,if_neg h0,KbI]
theorem Xd{o:Oper}{t:TypeId}{fs:Array Field}{j n:Nat}{f:Field}{x:Operand}{px:PV}{d:Nat}(ho:o.op= .fieldAddr t x j)(hd:o.dst=some d)(aq:d<C.N)(h:Qr C ρ fr hp a.tmps w)
  (hu:C.P.underlying t=some (.struct fs)) (hf:fs[j]? =some f) (hn:dR C.P f.type=some n) (iB:n≠0) (hx:Qm C ρ hp w px (a.eval x)) (hv:rf f.offset px d fr hp K):Qv C ρ o a w K:=by
 unfold rf at hv;split at hv
 ·rename_i β i o';obtain⟨b,hb,g1,g2,g3⟩:=hx.yH;refine Qv.mk hd aq h (fun w'=>?_) (Qm.Kj g1 g2) hv;unfold execOp;simp only[ho,g3,Kan,GA hu hf hn iB,Kak,KbX];rfl
 ·rename_i γ i o';obtain⟨hB,b,hb,g1,g2,g3⟩:=hx.FF;refine Qv.mk hd aq h (p:=.np γ i (o'+f.offset)) (fun w'=>?_) (show cF C ρ hp w (.np γ i (o'+f.offset)) _ from⟨hB,b,hb,g1,g2,rfl⟩) hv;unfold execOp;simp only[ho,g3,Kan,GA hu hf hn iB,Kak,KbX];rfl
 ·rename_i cs;obtain⟨_,hK⟩:=hv;obtain⟨b,off,ex,hp'⟩:=hx.FI;refine Qv.mk hd aq h (p:=.pt (cs.drop f.offset)) (v:=.pointer (some ⟨b,off+f.offset,none⟩)) (fun w'=>?_) hp'.TI hK;unfold execOp;simp only[ho,ex,Kan,GA hu hf hn iB,Kak];rfl
 ·exact hv.elim
theorem wR(vs:Array Value)(off n j:Nat)(hj:j<n)(h:off+n<=vs.size):(vs.extract off (off+n)).getD j undef=vs.getD (off+j) undef:=by
 have h1:j<(vs.extract off (off+n)).size:=by simp;omega
 have h2:off+j<vs.size:=by omega
 simp only[KaL,Kbq h1,Kbq h2,Array.getElem_extract]
theorem zM{X:Nat->Prop}{ag:Bool}{n off:Nat}{x:PV}{vs:Array Value}(hs:vs.size=n)(hle:off+n<=x.cells.length)(h1:ag=false->n=1)
  (hr:∀j y,j<n->x.cells[off+j]? =some y->Qp w X y (vs.getD j undef)):Q6 w X (dQ ag n off x) (if ag then .agg vs else vs.getD 0 undef):=by
 cases ag with
 | true=>
  refine⟨vs,rfl,by simp[hs];omega,fun i y hy=>?_⟩;have hi:i<n:=by have:=(Kaf.1 hy).1;simp at this;omega
  rw[KaF hi,Ka2]at hy;exact hr i y hi hy
 | false=>
  have hn:=h1 rfl;subst hn;have aq:off<x.cells.length:=by omega
  have e:x.cells[off+0]? =some (x.cells[off]):=by simp[Kag aq]
  have:=hr 0 _ (by omega) e;simp only[dQ,Ka8,if_false];have e2:(x.cells.drop off).headD .undef=x.cells[off]:=by rw[KbF,Kcg,Kag aq];rfl
  rw[e2];exact Q6.qD this
theorem VS{o:Oper}{t:TypeId}{fs:Array Field}{j n:Nat}{ag:Bool}{f:Field}{x:Operand}{px:PV}{d:Nat}(ho:o.op= .field t x j)(hd:o.dst=some d)(aq:d<C.N)(h:Qr C ρ fr hp a.tmps w)
  (hu:C.P.underlying t=some (.struct fs)) (hf:fs[j]? =some f) (hn:dR C.P f.type=some n) (ji:lX C.P f.type=some ag) (hx:Qm C ρ hp w px (a.eval x)) (hv:qV f.offset n ag px d fr hp K):Qv C ρ o a w K:=by
 unfold qV at hv;split at hv
 ·rename_i cs;obtain⟨h1,h2,hK⟩:=hv;obtain⟨vs,ex,g1,g2⟩:=hx;have hle:f.offset+n<=vs.size:=by omega
  have fE:=zM (X:=aE C ρ hp) (w:=w) (ag:=ag) (off:=f.offset) (x:=.agg cs) (vs:=vs.extract f.offset (f.offset+n)) (by simp;omega) h1 h2
   (fun j y hj hy=>by rw[wR vs _ _ _ hj hle];exact g2 _ y hy)
  refine Qv.mk hd aq h (fun w'=>?_) (Qm.lJ fE) hK;unfold execOp;simp only[ho,ex,Kan,Instr.field,Q9 hu,Kak,hf,asAgg,KaU,part,zg ji];cases ag with
  |true=>simp only[if_true,Kan,kW hn,Kak,KaU]
  |false=>
   have uF:=h2 rfl;subst uF;have lD:f.offset<vs.size:=by omega
   simp only[Ka8,if_false,Kbq lD,KaU,Kak];rw[wR vs _ _ 0 (by omega) hle];simp[Array.getD,lD]
 ·rename_i cs;obtain⟨h1,h2,hK⟩:=hv;obtain⟨vs,ex,g1,g2⟩:=hx;have hle:f.offset+n<=vs.size:=by omega
  have fE:=H8 (C:=C) (ρ:=ρ) (hp:=hp) (w:=w) (ag:=ag) (off:=f.offset) (x:=.aM cs) (vs:=vs.extract f.offset (f.offset+n)) (by simp;omega) h1 h2
   (fun j y hj hy=>by rw[wR vs _ _ _ hj hle];exact g2 _ y hy)
  refine Qv.mk hd aq h (fun w'=>?_) fE hK;unfold execOp;simp only[ho,ex,Kan,Instr.field,Q9 hu,Kak,hf,asAgg,KaU,part,zg ji];cases ag with
  |true=>simp only[if_true,Kan,kW hn,Kak,KaU]
  |false=>
   have uF:=h2 rfl;subst uF;have lD:f.offset<vs.size:=by omega
   simp only[Ka8,if_false,Kbq lD,KaU,Kak];rw[wR vs _ _ 0 (by omega) hle];simp[Array.getD,lD]
 ·exact hv.elim
theorem Xe{o:Oper}{t:TypeId}{x i:Operand}{px pi:PV}{d:Nat}(ho:o.op= .index t x i)(hd:o.dst=some d)(aq:d<C.N)(h:Qr C ρ fr hp a.tmps w)
  (hu:C.P.underlying t=some .string) (hx:Qm C ρ hp w px (a.eval x)) (hi:Qm C ρ hp w pi (a.eval i)) (hv:tU px pi d fr hp K):Qv C ρ o a w K:=by
 unfold tU at hv;split at hv
 ·rename_i s k m;obtain⟨h0,h1,hK⟩:=hv;have ei:=hi.j1;have ex:=hx.FN;have lD:m.toNat<s.size:=by omega
  have e0:s.get! m.toNat=s[m.toNat]'lD:=by simp[ByteArray.get!,getElem!_pos,lD];rfl
  have e1:(if 0<=m then s[m.toNat]? else none)=some (s.get! m.toNat):=by rw[if_pos h0,getElem?_pos s m.toNat lD,e0]
  refine Qv.mk hd aq h (fun w'=>?_) (Qm.mkInt _ _) hK;unfold execOp;simp only[ho,ex,ei,Kan,Instr.index,asIntOf,Q9 hu,Kak,KaU,e1]
 ·exact hv.elim
theorem Xf{o:Oper}{t e:TypeId}{len n:Nat}{ag:Bool}{x i:Operand}{px pi:PV}{d:Nat}(ho:o.op= .index t x i)(hd:o.dst=some d)(aq:d<C.N)(h:Qr C ρ fr hp a.tmps w)
  (hu:C.P.underlying t=some (.array len e)) (hn:dR C.P e=some n) (ji:lX C.P e=some ag) (hx:Qm C ρ hp w px (a.eval x)) (hi:Qm C ρ hp w pi (a.eval i)) (hv:xJ len n ag px pi d fr hp K):Qv C ρ o a w K:=by
 unfold xJ at hv;split at hv
 ·rename_i cs k m;obtain⟨h0,h00,h1,h2,hK⟩:=hv;have ei:=hi.j1;obtain⟨vs,ex,g1,g2⟩:=hx;have hle:m.toNat*n+n<=vs.size:=by omega
  have AR:0<=m/\m<len:=⟨h0,h00⟩
  have fE:=zM (X:=aE C ρ hp) (w:=w) (ag:=ag) (off:=m.toNat*n) (x:=.agg cs) (vs:=vs.extract (m.toNat*n) (m.toNat*n+n)) (by simp;omega) h1 h2
   (fun j y hj hy=>by rw[wR vs _ _ _ hj hle];exact g2 _ y hy)
  refine Qv.mk hd aq h (fun w'=>?_) (Qm.lJ fE) hK;unfold execOp;simp only[ho,ex,ei,Kan,Instr.index,asIntOf,Q9 hu,Kak,KaU,if_pos AR,kW hn,part,zg ji];cases ag with
  |true=>simp only[if_true,Kan,kW hn,Kak,KaU]
  |false=>
   have uF:=h2 rfl;subst uF;have lD:m.toNat*1<vs.size:=by omega
   simp only[Ka8,if_false,Kbq lD,KaU,Kak];rw[wR vs _ _ 0 (by omega) hle];have wb:m.toNat<vs.size:=by omega
   simp[Array.getD,wb]
 ·exact hv.elim
end Go.FW
namespace Go.FW
open Go
variable {C : Ctx} {ρ : Nat -> Option Nat} {fr : Fr} {hp : HP} {w : World} {a : Act} {K : Qi}
def z7(C:Ctx)(ρ:Nat->Option Nat)(o:Oper)(a:Act)(w:World)(K:Qi):Prop:=
 ∃v b,b<w.heap.size/\(∀w',w'.heap[b]? =w.heap[b]? ->(execOp a.eval o).run C.P w'= .ok (.value v) w')/\∃aA hp',Qr C ρ aA hp' (a.put o.dst v).tmps w/\K aA hp'
theorem yY{P:Program}{t:TypeId}{n b off:Nat}{ag:Bool}{vs:Array Value}(hn:dR P t=some n)(ji:lX P t=some ag)(h1:ag=false->n=1)(hs:vs.size=n)
  (w:World) (hc:∀j,j<n->w.cell? ⟨b,off+j,none⟩=some (vs.getD j undef)):
  (loadVar t ⟨b,off,none⟩).run P w= .ok (if ag then .agg vs else vs.getD 0 undef) w:=by
 unfold loadVar;simp only[Kan,zg ji,Kak];cases ag with
 | true=>
  have hl:=run_loadCells_list (P:=P) w ⟨b,off,none⟩ vs.toList (fun j v hj=>by
   have cg:j<vs.size:=by simpa using(Kaf.1 hj).1
   rw[KbI,hc j (by omega),Cz vs j v hj])
  simp only[Kb8,hs]at hl;simp only[if_true,Kan,kW hn,Kak,hl,KaU]
 |false=>have uF:=h1 rfl;subst uF;have h0:=hc 0 (by omega);simp only[KaM]at h0;simp only[Ka8,if_false,run_load,h0]
theorem mR{i e o j n cap:Nat}(h1:i<cap)(h2:o+n<=e)(h3:j<n):i*e+o+j<cap*e:=by have:(i+1)*e<=cap*e:=Kam e h1;rw[KaD,Kcu]at this;omega
theorem kU{w:World}{b o:Nat}{cur:Array Value}{ty:TypeId}(h:w.heap[b]? =some (.cells cur ty (0,0)))(ho:o<cur.size):w.cell? ⟨b,o,none⟩=some (cur.getD o undef):=by simp[World.cell?,h,ho,Array.getD]
theorem qI{n:Nat}{f:Nat->Value}{j:Nat}(hj:j<n):(Array.ofFn (n:=n) fun i=>f i.val).getD j undef=f j:=by simp[Array.getD,hj]
theorem aaz{o:Oper}{t:TypeId}{n:Nat}{ag:Bool}{x:Operand}{px:PV}{d:Nat}(ho:o.op= .load t x)(hd:o.dst=some d)(aq:d<C.N)(h:Qr C ρ fr hp a.tmps w)
  (hn:dR C.P t=some n) (ji:lX C.P t=some ag) (hx:Qm C ρ hp w px (a.eval x)) (hv:bo n ag px d fr hp K):z7 C ρ o a w K:=by
 have fin:∀(b off:Nat)(vs:Array Value)(p:PV),a.eval x= .pointer (some ⟨b,off,none⟩)->(ag=false->n=1)->b<w.heap.size->vs.size=n->
   (∀j,j<n->w.cell? ⟨b,off+j,none⟩=some (vs.getD j undef))->Q6 w (aE C ρ hp) p (if ag then .agg vs else vs.getD 0 undef)->K (ab fr d p) hp->z7 C ρ o a w K:=by
  intro b off vs p ex h1 hb hs hc hr hK;refine⟨_,b,hb,fun w' rP=>?_,ab fr d p,hp,by rw[hd];exact h.ab (Qm.lJ hr) aq,hK⟩;have:=yY (P:=C.P) hn ji h1 hs w' (fun j hj=>by rw[u5 rP];exact hc j hj);unfold execOp;simp only[ho,ex,Kan,Instr.loadAt,Instr.sureAddr,KaU,Kak,this]
 unfold bo at hv;split at hv
 ·rename_i β i o';split at hv
  ·rename_i hb aj;obtain⟨h1,h2,h3,hK⟩:=hv;obtain⟨b,dv,g1,g2,g3⟩:=hx.yH;rw[aj]at g2;cases g2;have bj:=h.own β hb aj;have aV:=bj.cB;rw[g1]at aV;obtain⟨_,lD,cur,cap,c1,c2,c3,c4,c5⟩:=aV;have fj:=Kag h1;have di:=(bj.len i _ fj).1;have dw:i<cap:=by omega
   have pg:∀j,j<n->i*hb.e+o'+j<cur.size:=fun j hj=>by rw[c2];exact mR dw h2 hj
   refine fin b (i*hb.e+o') (Array.ofFn (n:=n) fun j=>cur.getD (i*hb.e+o'+j.val) undef) _ g3 h3 lD (by simp) (fun j hj=>?_) ?_ hK
   ·rw[qI (f:=fun j=>cur.getD (i*hb.e+o'+j) undef) hj];exact kU c1 (pg j hj)
   ·refine zM (by simp) (by rw[di];exact h2) h3 (fun j y hj hy=>?_);rw[qI (f:=fun j=>cur.getD (i*hb.e+o'+j) undef) hj,KbX];exact c5 i _ fj (o'+j) y hy
  ·exact hv.elim
 ·rename_i cs;obtain⟨h1,h3,hK⟩:=hv;obtain⟨b,off,ex,hpt⟩:=hx.FI;cases hpt with
  | pt _ _ _ vs hX hb EM hr=>
   refine fin b off (Array.ofFn (n:=n) fun j=>vs j.val) _ ex h3 hb (by simp) (fun j hj=>?_) ?_ hK
   ·rw[qI hj];exact EM j (by omega)
   ·refine zM (by simp) (by simpa[PV.cells]using h1) h3 (fun j y hj hy=>?_);rw[qI hj];exact hr j y (by simpa[PV.cells]using hy)
 ·rename_i β o' m;obtain⟨rfl,rfl,hK⟩:=hv;obtain⟨b,u,e1,e2,e3,e4,e5⟩:=hx;refine⟨_,b,e2,fun w' rP=>?_,ab fr d (.aw β o' m),hp,by rw[hd];exact h.ab (p:=.aw β o' m) (v:=u) e5 aq,hK⟩;have:=yY (P:=C.P) (t:=t) (b:=b) (off:=0) (vs:= #[u]) hn ji (fun _=>rfl) rfl w' (fun j hj=>by
   obtain rfl:j=0:=by omega
   rw[u5 rP];simpa using e4)
  unfold execOp;simp only[ho,e1,Kan,Instr.loadAt,Instr.sureAddr,KaU,Kak,this];rfl
 ·rename_i γ i o';split at hv
  ·rename_i aZ e ty xs ah;obtain⟨rfl,h1,h2,h3,hK⟩:=hv;obtain⟨hB,b,hb,g1,g2,g3⟩:=hx.FF;have ba:=h.cE aZ;rw[ah]at ba;obtain⟨_,vX,b',au,cur,cap,q1,q2,q3,q4,q5,q6,q7,q8,q9,wL,tr⟩:=ba;rw[g1]at q1;cases q1;rw[g2]at q2;cases q2;rw[q4]at g3;have lD:b<w.heap.size:=(Kbl.1 q6).1;have fj:=Kag h1;have di:=wL i _ fj;have dw:i<cap:=by omega
   have pg:∀j,j<n->i*e+o'+j<cur.size:=fun j hj=>by rw[q7];exact mR dw h2 hj
   have kL:∀j,j<n->w.cell? ⟨b,i*e+o'+j,none⟩=some ((Array.ofFn (n:=n) fun j=>cur.getD (i*e+o'+j.val) undef).getD j undef):=fun j hj=>by rw[qI (f:=fun j=>cur.getD (i*e+o'+j) undef) hj];exact kU q6 (pg j hj)
   have fE:=H8 (C:=C) (ρ:=ρ) (hp:=hp) (w:=w) (ag:=ag) (n:=n) (off:=o') (x:=xs[i]) (vs:=Array.ofFn (n:=n) fun j=>cur.getD (i*e+o'+j.val) undef) (by simp) (by rw[di];exact h2) h3 (fun j y hj hy=>by rw[qI (f:=fun j=>cur.getD (i*e+o'+j) undef) hj,KbX];exact tr i _ fj (o'+j) y hy);refine⟨_,b,lD,fun w' rP=>?_,ab fr d _,hp,by rw[hd];exact h.ab fE aq,hK⟩;have:=yY (P:=C.P) (b:=b) (off:=i*e+o') (vs:=Array.ofFn (n:=n) fun j=>cur.getD (i*e+o'+j.val) undef) hn ji h3 (by simp) w' (fun j hj=>by rw[u5 rP];exact kL j hj);unfold execOp;simp only[ho,g3,Kan,Instr.loadAt,Instr.sureAddr,KaU,Kak,this]
  ·exact hv.elim
 ·exact hv.elim
theorem Oa{tmps:Array Value}(h:Qr C ρ fr hp tmps w){β b:Nat}{hb:HB}{l:List Nat}(_hB:aO β=false)(aj:hp β=some hb)(hl:β∈l)(bl:ρ β=some b):¬aE C ρ (Qy hp l) b:=by
 have aV:=(h.own β hb aj).cB;rw[bl]at aV;rintro(hx|⟨γ,hg,h1,h2,h3⟩)
 ·exact Ctx.Ek aV.1 (xu _hB) hx
 ·obtain⟨lA,g1,_,_,_,_,g6⟩:=y4 h1;have:=h.inj γ β b (by simp[g1]) (by simp[aj]) h3 bl;subst this;exact g6 h2 hl
theorem C8{tmps:Array Value}(h:Qr C ρ fr hp tmps w){p:PV}{v:Value}{l:List Nat}(hr:cF C ρ hp w p v)(hl:∀β∈p.bw,β∈l)(hu:cj hp p≠ .undef):Qp w (aE C ρ (Qy hp l)) (cj hp p) v:=by
 cases p with
 | mp β i o=>
  obtain⟨b,hb,g1,g2,rfl⟩:=hr;have wA:=hl β (by simp[PV.bw]);have bj:=h.own β hb g2;have aV:=bj.cB;rw[g1]at aV;obtain⟨_,aq,cur,cap,c1,c2,c3,c4,c5⟩:=aV;have hB:aO β=false:=by
   cases hq:aO β with
   |false=>rfl
   |true=>simp[cj,hq]at hu
  simp only[cj,g2,hB]at hu⊢;cases hx:hb.xs[i]? with
  |none=>simp[hx]at hu
  | some x=>
   simp only[Ka8,if_false];have hi:i<hb.xs.length:=(Kaf.1 hx).1;have di:=(bj.len i x hx).1;refine Qp.pt _ b _ (fun j=>cur.getD (i*hb.e+o+j) undef) (Oa h hB g2 wA g1) aq (fun j hj=>?_) (fun j y hy=>?_)
   ·have cg:o+(j+1)<=hb.e:=by simp[di]at hj;omega
    exact kU c1 (by rw[c2];exact mR (by omega) cg (Kck j))
   ·rw[Ka2]at hy;rw[KbX];exact(c5 i x hx (o+j) y hy).freeze
 | aw β o n=>
  obtain⟨hb,g1,g2,g3⟩:=hr;have hB:aO β=false:=by
   cases hq:aO β with
   |false=>rfl
   |true=>simp[cj,hq]at hu
  simp only[cj,g1,hB];rcases g3 with⟨g3,rfl,rfl,rfl⟩|⟨b,cap,g3,rfl,g5,g6⟩
  ·simp only[Kb5];exact .mE _ _ _ (KbL _)
  ·have wA:=hl β (by simp[PV.bw]);have bj:=h.own β hb g1;have aV:=bj.cB;rw[g3]at aV;obtain⟨_,aq,cur,ew,c1,c2,c3,c4,c5⟩:=aV;obtain⟨cur',ty',d1,d2⟩:=g5;rw[c1]at d1;cases d1;have iz:o+cap=ew:=by rw[c2]at d2;exact(KbA bj.jU d2).symm
   subst iz;have hlen:((hb.xs.drop o).take n).length=n:=by simp;omega
   have ez:∀(i:Nat)(x:PV),((hb.xs.drop o).take n)[i]? =some x->i<n/\hb.xs[o+i]? =some x:=fun i x hx=>by
    have hi:i<n:=by have:=(Kaf.1 hx).1;omega
    rw[KaF hi,Ka2]at hx;exact⟨hi,hx⟩
   have:=Qp.sl (w:=w) (X:=aE C ρ (Qy hp l)) hb.e ((hb.xs.drop o).take n) b (o*hb.e) cap (fun i j=>cur.getD ((o+i)*hb.e+j) undef) (Oa h hB g1 wA g3) aq (by omega) (by omega)
    (fun i x hx=>(bj.len _ x (ez i x hx).2).1)
    (fun i hi j hj=>by rw[hlen]at hi;have:=mR (i:=o+i) (e:=hb.e) (o:=0) (j:=j) (n:=hb.e) (cap:=o+cap) (by omega) (by omega) hj;rw[KaM]at this;rw[show o*hb.e+i*hb.e+j=(o+i)*hb.e+j by rw[KaD]];exact kU c1 (by rw[c2];exact this))
    (fun i x hx j y hy=>(c5 _ x (ez i x hx).2 j y hy).freeze)
   rwa[hlen]at this
 |undef=>simp[cj]at hu
 |rb=>simp[cj]at hu
 |aG=>simp[cj]at hu
 |np=>simp[cj]at hu
 |aM=>simp[cj]at hu
 |dZ=>simp[cj]at hu
 |cP=>simp[cj]at hu
 |aF=>simp[cj]at hu
 |_=>exact Qp.freeze hr
theorem LR{p:PV}(h:p.gF=true):p≠ .undef:=by cases p<;>simp[PV.gF]at h⊢
theorem Pv{p:PV}(h:p.aD=true):p≠ .undef:=by cases p<;>simp[PV.aD]at h⊢
theorem qL{tmps:Array Value}(h:Qr C ρ fr hp tmps w){p:PV}{v:Value}{l:List Nat}(hr:Qm C ρ hp w p v)(hl:∀β∈p.refs,β∈l)(hd:(Qt hp p).aD=true):Q6 w (aE C ρ (Qy hp l)) (Qt hp p) v:=by
 cases p with
 | fn f first cap=>
  obtain⟨fv,cv,rfl,h1,h2,h3,h4⟩:=hr;simp only[Qt,PV.aD,Kav,Kap,KaE,forall_exists_index,and_imp,forall_apply_eq_imp_iff₂]at hd;refine Qp.fn f _ _ fv cv (by simp[h1]) (by simp[h2]) (fun i x hx=>?_) (fun i x hx=>?_)
  ·simp only[Kas,Kaa]at hx;obtain⟨y,hy,rfl⟩:=hx;exact C8 h (h3 i y hy) (fun β aj=>hl β (Gt hy β aj)) (LR (hd.1 y (Kaj hy)))
  ·simp only[Kas,Kaa]at hx;obtain⟨y,hy,rfl⟩:=hx;exact C8 h (h4 i y hy) (fun β aj=>hl β (Gz hy β aj)) (LR (hd.2 y (Kaj hy)))
 |mp β i o=>exact Q6.qD (C8 (p:=.mp β i o) h hr hl (Pv hd))
 |aw β o n=>exact Q6.qD (C8 (p:=.aw β o n) h hr hl (Pv hd))
 |undef=>simp[Qt,cj,PV.aD]at hd
 |rb=>simp[Qt,cj,PV.aD]at hd
 |aG=>simp[Qt,cj,PV.aD]at hd
 |np=>simp[Qt,cj,PV.aD]at hd
 |aM=>simp[Qt,cj,PV.aD]at hd
 |dZ=>simp[Qt,cj,PV.aD]at hd
 |cP=>simp[Qt,cj,PV.aD]at hd
 |aF=>simp[Qt,cj,PV.aD]at hd
 |aI ps=>simp[Qt,cj,PV.aD]at hd
 |agg cs=>exact Q6.mono (p:=.agg cs) hr (fun _ _ _=>rfl) (fun _ _ hn hx=>hn (G3 hx)) (Kae _)
 |_=>exact Qp.freeze hr
end Go.FW
namespace Go.FW
open Go
variable {C : Ctx} {ρ : Nat -> Option Nat} {fr : Fr} {hp : HP} {w : World} {a : Act} {K : Qi}
theorem tz{x:Option Operand}{y:Option aJ}{RE n:Int}(h:Qr C ρ fr hp a.tmps w)(ho:nU x=some y)(hb:gZ RE (y.map (ev fr))=some n):
  (x=none/\y=none/\n=RE)∨∃z k,x=some z/\a.eval z= .int k n/\y.isSome=true:=by
 cases x with
 |none=>simp[nU]at ho;subst ho;simp[gZ]at hb;exact .inl ⟨rfl,rfl,hb.symm⟩
 | some z=>
  simp only[nU,Kaa]at ho;obtain⟨u,hu,rfl⟩:=ho;have hr:=ch h hu;simp only[KbY]at hb;cases hp':ev fr u with
  |int k m=>rw[hp']at hb hr;simp[gZ]at hb;subst hb;exact .inr ⟨z,k,rfl,hr.j1,rfl⟩
  |_=>rw[hp']at hb;simp[gZ]at hb
theorem uV{P:Program}{k:IntKind}{i:Int}{y:Nat}{code:BoundsCode}(h0:0<=i)(h1:i<=y)(w:World):(Instr.sliceBound (.int k i) y code).run P w= .ok i.toNat w:=by
 unfold Instr.sliceBound;have:0<=i/\i<=y:=⟨h0,h1⟩
 simp only[asIntOf,Kan,KaU,Kak,if_pos this]
theorem CK{P:Program}{len cap:Nat}{lo hi mx:Option Operand}{L H M:Int}(eval:Operand->Value)
  (hL:(lo=none/\L=0)∨∃z k,lo=some z/\eval z= .int k L)
  (hH:(hi=none/\H=len)∨∃z k,hi=some z/\eval z= .int k H)
  (hM:(mx=none/\M=len)∨∃z k,mx=some z/\eval z= .int k M) (hm:mx.isSome=true->hi.isSome=true)
  (h0:0<=L) (h1:L<=H) (h2:H<=M) (h3:M<=len) (h4:len<=cap):
  ∃m,L.toNat<=m/\H.toNat<=m/\m<=cap/\(mx=none->m=cap)/\∀w,(Instr.sliceBounds true len cap (lo.map eval) (hi.map eval) (mx.map eval)).run P w= .ok (L.toNat,H.toNat,m) w:=by
 have c1:H<=(cap:Int):=by omega
 rcases hM with⟨rfl,hM⟩|⟨zm,km,rfl,hM⟩
 ·refine⟨cap,by omega,by omega,Kae _,fun _=>rfl,fun w=>?_⟩;rcases hH with⟨rfl,hH⟩|⟨zh,kh,rfl,hH⟩<;>rcases hL with⟨rfl,hL⟩|⟨zl,kl,rfl,hL⟩
  ·subst hH;subst hL;simp[Instr.sliceBounds,Kan]
  ·subst hH;have e:=uV (P:=P) (k:=kl) (code:=.sliceB) (y:=len) h0 h1;simp[Instr.sliceBounds,Kan,hL,e]
  ·subst hL;have e:=uV (P:=P) (k:=kh) (code:=.sliceAcap) (y:=cap) (by omega) c1;simp[Instr.sliceBounds,Kan,hH,e]
  ·have e:=uV (P:=P) (k:=kh) (code:=.sliceAcap) (y:=cap) (by omega) c1;have e2:=uV (P:=P) (k:=kl) (code:=.sliceB) (y:=H.toNat) h0 (by omega);simp[Instr.sliceBounds,Kan,hH,hL,e,e2]
 ·rcases hH with⟨rfl,hH⟩|⟨zh,kh,rfl,hH⟩
  ·simp at hm
  have e:=uV (P:=P) (k:=km) (code:=.slice3Acap) (y:=cap) (i:=M) (by omega) (by omega);have e1:=uV (P:=P) (k:=kh) (code:=.slice3B) (y:=M.toNat) (i:=H) (by omega) (by omega);refine⟨M.toNat,by omega,by omega,by omega,fun h=>by simp at h,fun w=>?_⟩;rcases hL with⟨rfl,hL⟩|⟨zl,kl,rfl,hL⟩
  ·subst hL;simp[Instr.sliceBounds,Kan,hH,hM,e,e1]
  ·have e2:=uV (P:=P) (k:=kl) (code:=.slice3C) (y:=H.toNat) (i:=L) h0 (by omega);simp[Instr.sliceBounds,Kan,hH,hM,hL,e,e1,e2]
theorem Cx{P:Program}{t e:TypeId}{n len cap l h m:Nat}{ad:Option Addr}{lo hi mx:Option Value}(hu:P.underlying t=some (.slice e))(hn:dR P e=some n)(w:World)
  (hb:(Instr.sliceBounds true len cap lo hi mx).run P w= .ok (l,h,m) w):
  (Instr.sliceAt t (.slice ad len cap) lo hi mx).run P w= .ok (.slice (if m=l then ad else ad.map (·.add (l*n))) (h-l) (m-l)) w:=by
 unfold Instr.sliceAt Instr.slice;simp only[Kan,Q9 hu,Kak,hb,kW hn,KaU]
theorem NH{xs:List PV}{H L i:Nat}{x:PV}(hx:((xs.take H).drop L)[i]? =some x):xs[L+i]? =some x/\L+i<H:=by
 rw[Ka2]at hx;have hi:L+i<H:=by have:=(Kaf.1 hx).1;simp at this;omega
 rw[KaF hi]at hx;exact⟨hx,hi⟩
theorem Qp.part{X:Nat->Prop}{e:Nat}{xs:List PV}{ad:Option Addr}{cap L H m:Nat}(h:Qp w X (.sl e xs) (.slice ad xs.length cap))(h1:L<=H)(h2:H<=xs.length)(h3:H<=m)(h4:m<=cap):
  Qp w X (.sl e ((xs.take H).drop L)) (.slice (if m=L then ad else ad.map (·.add (L*e))) (H-L) (m-L)):=by
 by_cases he:H=L
 ·subst he;have:(xs.take H).drop H=[]:=List.drop_eq_nil_of_le (by simp;omega);rw[this,Kbx];refine .mE _ _ _ ?_;cases h with
  |mE _ _ _ hc=>omega
  |sl _ _ b off _ vs hX hb hl hc=>omega
 ·have hlen:((xs.take H).drop L).length=H-L:=by simp;omega
  cases h with
  |mE=>simp at h2;omega
  | sl _ _ b off _ vs hX hb hl hc he' hv hr=>
   have hm:¬m=L:=by omega
   rw[if_neg hm];simp only[KbY,KbI];have:=Qp.sl (w:=w) (X:=X) e ((xs.take H).drop L) b (off+L*e) (m-L) (fun i j=>vs (L+i) j) hX hb (by omega) (by omega)
    (fun i x hx=>he' _ x (NH hx).1)
    (fun i hi j hj=>by have:=hv (L+i) (by omega) j hj;rw[show off+L*e+i*e+j=off+(L+i)*e+j by rw[KaD];omega];exact this)
    (fun i x hx j y hy=>hr _ x (NH hx).1 j y hy)
   rwa[hlen]at this
theorem aaA{o:Oper}{t e:TypeId}{n:Nat}{x:Operand}{px:PV}{lo hi mx:Option Operand}{FH BJ BK:Option aJ}{d:Nat}(ho:o.op= .slice t x lo hi mx)(hd:o.dst=some d)(aq:d<C.N)(h:Qr C ρ fr hp a.tmps w)
  (hu:C.P.underlying t=some (.slice e)) (hn:dR C.P e=some n) (hx:Qm C ρ hp w px (a.eval x)) (rF:nU lo=some FH) (uB:nU hi=some BJ) (wg:nU mx=some BK)
  (hv:iE n px (FH.map (ev fr)) (BJ.map (ev fr)) (BK.map (ev fr)) d fr hp K):Qv C ρ o a w K:=by
 have lI:∀ {x:Option Operand} {y:Option aJ},nU x=some y->(x.isSome=true↔y.isSome=true):=by
  intro x y Bv;cases x with
  |none=>simp[nU]at Bv;subst Bv;simp
  |some z=>simp only[nU,Kaa]at Bv;obtain⟨u,_,rfl⟩:=Bv;simp
 have common:∀(hp':HP)(xs:List PV)(len cap:Nat)(ad:Option Addr)(L H M:Int),Qr C ρ fr hp' a.tmps w->len=xs.length->a.eval x= .slice ad len cap->len<=cap->
   Qp w (aE C ρ hp') (.sl n xs) (.slice ad xs.length cap)->gZ 0 (FH.map (ev fr))=some L->gZ len (BJ.map (ev fr))=some H->gZ len (BK.map (ev fr))=some M->
   0<=L->L<=H->H<=M->M<=len->((BK.map (ev fr)).isSome=true->(BJ.map (ev fr)).isSome=true)->K (ab fr d (.sl n ((xs.take H.toNat).drop L.toNat))) hp'->Qv C ρ o a w K:=by
  intro hp' xs len cap ad L H M hs hl ex dw hr bL bH bM h0 h1 h2 h3 hm hK;have e1:=tz h rF bL;have e2:=tz h uB bH;have e3:=tz h wg bM;obtain⟨m,q1,q2,q3,_,q4⟩:∃m,L.toNat<=m/\H.toNat<=m/\m<=cap/\(mx=none->m=cap)/\∀w',(Instr.sliceBounds true len cap (lo.map a.eval) (hi.map a.eval) (mx.map a.eval)).run C.P w'= .ok (L.toNat,H.toNat,m) w':=by
   refine CK (P:=C.P) a.eval ?_ ?_ ?_ (fun hq=>(lI uB).2 (by simpa using hm (by simpa using(lI wg).1 hq))) h0 h1 h2 h3 dw
   ·rcases e1 with⟨q1,_,q3⟩|⟨z,k,q1,q2,_⟩
    ·exact .inl ⟨q1,q3⟩
    ·exact .inr ⟨z,k,q1,q2⟩
   ·rcases e2 with⟨q1,_,q3⟩|⟨z,k,q1,q2,_⟩
    ·exact .inl ⟨q1,q3⟩
    ·exact .inr ⟨z,k,q1,q2⟩
   ·rcases e3 with⟨q1,_,q3⟩|⟨z,k,q1,q2,_⟩
    ·exact .inl ⟨q1,q3⟩
    ·exact .inr ⟨z,k,q1,q2⟩
  have hp:=hr.part (L:=L.toNat) (H:=H.toNat) (m:=m) (by omega) (by omega) q2 q3;refine⟨_,fun w'=>?_,ab fr d _,hp',by rw[hd];exact hs.ab (Qm.lJ (Q6.qD hp)) aq,hK⟩;unfold execOp;simp only[ho,ex,Kan,Cx hu hn w' (q4 w'),Kak];rfl
 unfold iE at hv;split at hv
 ·
  split at hv
  ·rename_i L H M bL bH bM;obtain⟨rfl,rfl,rfl,hm,hK⟩:=hv;have ex:=hx.wK;refine Qv.mk hd aq h (p:=.aa) (v:=.slice none 0 0) (fun w'=>?_) Qp.aa hK;have e1:=tz h rF bL;have e2:=tz h uB bH;have e3:=tz h wg bM;obtain⟨m,q1,q2,q3,_,q4⟩:∃m,(0:Int).toNat<=m/\(0:Int).toNat<=m/\m<=0/\(mx=none->m=0)/\∀w',(Instr.sliceBounds true 0 0 (lo.map a.eval) (hi.map a.eval) (mx.map a.eval)).run C.P w'= .ok ((0:Int).toNat,(0:Int).toNat,m) w':=by
    refine CK (P:=C.P) a.eval ?_ ?_ ?_ (fun hq=>(lI uB).2 (by simpa using hm (by simpa using(lI wg).1 hq))) (Int.le_refl _) (Int.le_refl _) (Int.le_refl _) (by simp) (Kae _)
    ·rcases e1 with⟨q1,_,q3⟩|⟨z,k,q1,q2,_⟩
     ·exact .inl ⟨q1,q3⟩
     ·exact .inr ⟨z,k,q1,q2⟩
    ·rcases e2 with⟨q1,_,q3⟩|⟨z,k,q1,q2,_⟩
     ·exact .inl ⟨q1,by simp⟩
     ·exact .inr ⟨z,k,q1,q2⟩
    ·rcases e3 with⟨q1,_,q3⟩|⟨z,k,q1,q2,_⟩
     ·exact .inl ⟨q1,by simp⟩
     ·exact .inr ⟨z,k,q1,q2⟩
   obtain rfl:m=0:=by omega
   unfold execOp;simp only[ho,ex,Kan,Cx hu hn w' (q4 w'),Kak];rfl
  ·exact hv.elim
 ·rename_i e' xs;split at hv
  ·rename_i L H M bL bH bM;obtain⟨rfl,h0,h1,h2,h3,hm,hK⟩:=hv;obtain⟨ad,cap,ex,nn,eR⟩:=hx.TM;have aS:Qp w (aE C ρ hp) (.sl e' xs) (a.eval x):=hx;rw[ex]at aS;exact common hp xs _ cap ad L H M h rfl ex nn aS bL bH bM h0 h1 h2 h3 hm hK
  ·exact hv.elim
 ·rename_i β o' m;cases BK with
  |some zm=>revert hv;split<;>simp_all
  |none=>
  split at hv
  ·rename_i L H bL bH bM;obtain⟨he,h0,h1,h2,h3,hK⟩:=hv;have m0:mx=none:=by cases mx<;>simp[nU]at wg⊢
   subst m0;have e1:=tz h rF bL;have e2:=tz h uB bH;obtain⟨hb,g1,g2,g3⟩:=hx;rw[g1]at he;simp only[KbY,KaA]at he;have hL:(lo=none/\L=0)∨∃z k,lo=some z/\a.eval z= .int k L:=by
    rcases e1 with⟨q1,_,q3⟩|⟨z,k,q1,q2,_⟩
    ·exact .inl ⟨q1,q3⟩
    ·exact .inr ⟨z,k,q1,q2⟩
   have hH:(hi=none/\H=(m:Int))∨∃z k,hi=some z/\a.eval z= .int k H:=by
    rcases e2 with⟨q1,_,q3⟩|⟨z,k,q1,q2,_⟩
    ·exact .inl ⟨q1,q3⟩
    ·exact .inr ⟨z,k,q1,q2⟩
   rcases g3 with⟨g3,ex,rfl,rfl⟩|⟨b,cap,g3,ex,g5,g6⟩
   ·obtain⟨m',q1,q2,q3,_,q4⟩:=CK (P:=C.P) (len:=0) (cap:=0) (mx:=none) (M:=0) a.eval hL hH (.inl ⟨rfl,rfl⟩) (by simp) h0 h1 h2 (by simp) (Kae _);have IU:H.toNat=0:=by omega
    have vP:L.toNat=0:=by omega
    have wc:m'=0:=by omega
    refine Qv.mk hd aq h (v:=.slice none 0 0) (fun w'=>?_) ?_ hK
    ·unfold execOp;simp only[ho,ex,Kan,Cx hu hn w' (q4 w'),Kak];simp[IU,wc,vP]
    ·exact⟨hb,g1,by omega,.inl ⟨g3,rfl,by omega,by omega⟩⟩
   ·have dw:m<=cap:=by have aV:=(h.own β hb g1).cB;rw[g3]at aV;obtain⟨_,_,cur,ew,c1,c2,c3,c4,c5⟩:=aV;obtain⟨cur',ty',d1,d2⟩:=g5;rw[c1]at d1;cases d1;rw[c2]at d2;have:=KbA (h.own β hb g1).jU d2;omega
    obtain⟨m',q1,q2,q3,q5,q4⟩:=CK (P:=C.P) (len:=m) (cap:=cap) (mx:=none) (M:=(m:Int)) a.eval hL hH (.inl ⟨rfl,rfl⟩) (by simp) h0 h1 h2 (Int.le_refl _) dw;obtain rfl:=q5 rfl;refine Qv.mk hd aq h (v:=.slice (some ⟨b,(o'+L.toNat)*hb.e,none⟩) (H.toNat-L.toNat) (m'-L.toNat)) (fun w'=>?_) ?_ hK
    ·unfold execOp;simp only[ho,ex,Kan,Cx hu hn w' (q4 w'),Kak];congr 1;by_cases hz:L=0
     ·subst hz;simp[Addr.add_zero']
     ·rw[if_neg (by omega)];simp[KbI,he,KaD]
    ·exact⟨hb,g1,by omega,.inr ⟨b,m'-L.toNat,g3,rfl,by rw[show o'+L.toNat+(m'-L.toNat)=o'+m' by omega];exact g5,by omega⟩⟩
  ·exact hv.elim
 ·exact hv.elim
end Go.FW
namespace Go.FW
open Go
variable {C : Ctx} {ρ : Nat -> Option Nat} {fr : Fr} {hp : HP} {w : World} {a : Act} {K : Qi}
def pR(Q:PV->Value->Prop)(ps:List PV)(vs:Array Value):Prop:=vs.size=ps.length/\∀(i:Nat)(x:PV),ps[i]? =some x->Q x (vs.getD i undef)
abbrev Rows(w:World)(X:Nat->Prop)(ps:List PV)(vs:Array Value):Prop:=pR (Qp w X) ps vs
theorem KG(off:Nat):∀(l:List Value)(s:Nat)(cs:Array Value),
  ((l.zipIdx s).foldl (fun cs (p:Value×Nat)=>cs.setIfInBounds (off+p.2) p.1) cs).size=cs.size/\
  ∀k,k<cs.size->((l.zipIdx s).foldl (fun cs (p:Value×Nat)=>cs.setIfInBounds (off+p.2) p.1) cs).getD k undef=if off+s<=k/\k<off+s+l.length then l.getD (k-off-s) undef else cs.getD k undef
 | [],s,cs=>by refine⟨rfl,fun k hk=>?_⟩;simp only[List.zipIdx_nil,List.foldl_nil,Kbn,KaM];rw[if_neg (by omega)]
 | c::l,s,cs=>by
  obtain⟨h1,h2⟩:=KG off l (s+1) (cs.setIfInBounds (off+s) c);simp only[List.zipIdx_cons,List.foldl_cons];refine⟨by rw[h1];simp,fun k hk=>?_⟩;rw[h2 k (by simpa using hk)];by_cases hks:k=off+s
  ·subst hks;rw[if_neg (by omega),if_pos (by simp)];simp[Array.getD,hk]
  ·by_cases hr:off+(s+1)<=k/\k<off+(s+1)+l.length
   ·rw[if_pos hr,if_pos (by simp;omega)];have:k-off-s=(k-off-(s+1))+1:=by omega
    rw[this];simp
   ·rw[if_neg hr,if_neg (by simp;omega)];simp only[KaL];rw[Kcf (by omega)]
theorem Ue(cs:Array Value)(v:Array Value)(off:Nat):
  v.zipIdx.foldl (fun cs (x:Value×Nat)=>match x with|(c,j)=>cs.setIfInBounds (off+j) c) cs=(v.toList.zipIdx).foldl (fun cs (p:Value×Nat)=>cs.setIfInBounds (off+p.2) p.1) cs:=by
 rw[<-Array.foldl_toList,Array.toList_zipIdx]
theorem pR.amM{Q:PV->Value->Prop}{ps qs:List PV}{vs us:Array Value}{off:Nat}(h:pR Q ps vs)(hq:pR Q qs us)(hle:off+qs.length<=ps.length):
  pR Q (ps.take off++qs++ps.drop (off+qs.length)) (us.zipIdx.foldl (fun cs (x:Value×Nat)=>match x with|(c,j)=>cs.setIfInBounds (off+j) c) vs):=by
 obtain⟨h1,h2⟩:=h;obtain⟨q1,q2⟩:=hq;rw[Ue];obtain⟨f1,f2⟩:=KG off us.toList 0 vs;refine⟨by rw[f1,h1];simp;omega,fun i x hx=>?_⟩;have hi:i<ps.length:=by have:=(Kaf.1 hx).1;simp at this;omega
 rw[f2 i (by omega)];simp only[KaM,Kb8,Kca];rw[Kbv,Ka0]at hx;by_cases c1:i<off
 ·rw[if_neg (by omega)];rw[if_pos (by simp;omega),KaF c1]at hx;exact h2 i x hx
 ·rw[if_neg (by simp;omega)]at hx;have ht:(ps.take off).length=off:=by simp;omega
  rw[ht,Ka0]at hx;by_cases c2:i-off<qs.length
  ·rw[if_pos c2]at hx;rw[if_pos (by omega)];have:=q2 _ _ hx
   rwa[show us.toList.getD (i-off) undef=us.getD (i-off) undef by simp[KaL]]
  ·rw[if_neg c2,Ka2]at hx;rw[if_neg (by omega)];rw[show off+qs.length+(i-off-qs.length)=i by omega]at hx;exact h2 i x hx
theorem CL{Q:PV->Value->Prop}(place:Nat->Option (Nat×Nat)):∀(parts:List (Nat×Value))(qs:List (Nat×List PV))(ps:List PV)(vs:Array Value),pR Q ps vs->parts.length=qs.length->
  (∀(i:Nat)(p:Nat×Value)(q:Nat×List PV),parts[i]? =some p->qs[i]? =some q->place p.1=some (q.1,q.2.length)/\pR Q q.2 p.2.cells/\q.1+q.2.length<=ps.length)->
  ∃dF,Instr.fill place vs parts=some dF/\pR Q (gL ps qs) dF
 | [],[],ps,vs,h,_,_=>⟨vs,rfl,h⟩
 | [],q::qs,_,_,_,hl,_=>by simp at hl
 |p::parts,[],_,_,_,hl,_=>by simp at hl
 | (i,v)::parts,(off,xs)::qs,ps,vs,h,hl,hp=>by
  obtain⟨h1,h2,h3⟩:=hp 0 (i,v) (off,xs) rfl rfl;have eH:v.cells.size=xs.length:=h2.1;have hn:¬((v.cells.size≠xs.length||decide (off+v.cells.size>vs.size))=true):=by have:=h.1;simp only[KbC,decide_eq_true_eq,not_or];exact⟨by simp[eH],by rw[eH,this];simp only at h3;omega⟩
  have hlen:(ps.take off++xs++ps.drop (off+xs.length)).length=ps.length:=by simp;simp only at h3;omega
  obtain⟨dF,g1,g2⟩:=CL place parts qs _ _ (h.amM h2 h3) (by simpa using hl) (fun j p q Bi JR=>by obtain⟨k1,k2,k3⟩:=hp (j+1) p q (by simpa using Bi) (by simpa using JR);exact⟨k1,k2,by rw[hlen];exact k3⟩);refine⟨dF,?_,g2⟩;unfold Instr.fill;simp only[h1];rw[if_neg hn];exact g1
theorem Q6.rows{X:Nat->Prop}{p:PV}{v:Value}(h:Q6 w X p v):Rows w X p.cells v.cells:=h.cells
theorem sm{P:Program}{t:TypeId}{n by_:Nat}{z:PV}(h:jK P t=some (n,by_,z)):∃(i:TypeInfo)(zv:Value),P.info? t=some i/\i.zero=some zv/\i.size=n/\i.bytes=by_/\sj zv=some z:=by simp only[jK,Kab,Kaa,Prod.mk.injEq]at h;obtain⟨i,h1,zv,h2,p,h3,h4,h5,h6⟩:=h;subst h6;exact⟨i,zv,h1,h2,h4,h5,h3⟩
theorem uW{P:Program}{t:TypeId}{i:TypeInfo}{zv:Value}(h1:P.info? t=some i)(h2:i.zero=some zv)(w:World):(zeroValue t).run P w= .ok zv w:=by simp[zeroValue,typeInfo,h1,h2]
theorem Pw{parts:List (Nat×Operand)}{ps:List (Nat×Nat×aJ)}{f:Nat×Operand->Option (Nat×Nat×aJ)}(h:parts.mapM f=some ps){eval:Operand->Value}{i:Nat}{p:Nat×Value}{q:Nat×Nat×aJ}
  (h1:(parts.map fun x=>(x.1,eval x.2))[i]? =some p) (h2:ps[i]? =some q):∃x,parts[i]? =some x/\f x=some q/\p=(x.1,eval x.2):=by
 obtain⟨x,hx,hf⟩:=(lM h).2 i q h2;refine⟨x,hx,hf,?_⟩;simp only[Kas,hx,KbY,KaA]at h1;exact h1.symm
theorem Xg{o:Oper}{t:TypeId}{parts:Array (Nat×Operand)}{z:PV}{n by_:Nat}{ps:List (Nat×Nat×aJ)}{d:Nat}(ho:o.op= .build t parts)(hd:o.dst=some d)(aq:d<C.N)(h:Qr C ρ fr hp a.tmps w)
  (hz:jK C.P t=some (n,by_,z)) (fD:z6 C.P t parts.toList=some ps)
  (hv:Al z.cells (ps.map fun p=>(p.1,p.2.1,ev fr p.2.2)) d fr hp K):Qv C ρ o a w K:=by
 obtain⟨aL,hK⟩:=hv;obtain⟨ti,zv,i1,i2,i3,i4,i5⟩:=sm hz;have J8:Rows w (aE C ρ (Qy hp ((ps.map fun p=>(p.1,p.2.1,ev fr p.2.2)).flatMap fun p=>p.2.2.refs))) z.cells zv.cells:=(rX i5).rows;have lz:(parts.map fun(x:Nat×Operand)=>(x.1,a.eval x.2)).toList=parts.toList.map fun x=>(x.1,a.eval x.2):=by simp
 have key:∀(f:Nat×Operand->Option (Nat×Nat×aJ))(place:Nat->Option (Nat×Nat)),parts.toList.mapM f=some ps->(∀x q,f x=some q->place x.1=some (q.1,q.2.1)/\bJ x.2=some q.2.2)->
   ∃dF,Instr.fill place zv.cells (parts.map fun(x:Nat×Operand)=>(x.1,a.eval x.2)).toList=some dF/\
    Rows w (aE C ρ (Qy hp ((ps.map fun p=>(p.1,p.2.1,ev fr p.2.2)).flatMap fun p=>p.2.2.refs))) (gL z.cells ((ps.map fun p=>(p.1,p.2.1,ev fr p.2.2)).map fun p=>(p.1,(Qt hp p.2.2).cells))) dF:=by
  intro f place hm hf;rw[lz];refine CL place _ _ _ _ J8 (by simp[(lM hm).1]) (fun i p q yx uH=>?_);simp only[List.map_map,Kas,Kaa]at uH;obtain⟨q0,kJ,rfl⟩:=uH;obtain⟨x,hx,oh,rfl⟩:=Pw hm yx kJ;obtain⟨f1,f2⟩:=hf x q0 oh;obtain⟨o1,o2,o3⟩:=aL (q0.1,q0.2.1,ev fr q0.2.2) (KaE.2 ⟨q0,Kaj kJ,rfl⟩);simp only[Function.comp]at o1 o2 o3⊢;refine⟨by rw[o2];exact f1,?_,by rw[o2];exact o3⟩;exact(qL h (ch h f2) (fun β aj=>Kaq.2 ⟨_,KaE.2 ⟨q0,Kaj kJ,rfl⟩,aj⟩) o1).rows
 have fin:∀dF,(∀w',(Instr.build t (parts.map fun(x:Nat×Operand)=>(x.1,a.eval x.2))).run C.P w'= .ok (.agg dF) w')->
   Rows w (aE C ρ (Qy hp ((ps.map fun p=>(p.1,p.2.1,ev fr p.2.2)).flatMap fun p=>p.2.2.refs))) (gL z.cells ((ps.map fun p=>(p.1,p.2.1,ev fr p.2.2)).map fun p=>(p.1,(Qt hp p.2.2).cells))) dF->Qv C ρ o a w K:=by
  intro dF bS hr;refine⟨.agg dF,fun w'=>?_,_,_,by rw[hd];exact(h.freeze _).ab (p:=.agg _) ⟨dF,rfl,hr.1,hr.2⟩ aq,hK⟩;unfold execOp;simp only[ho,Kan];have:=bS w';rw[show(parts.map fun(x:Nat×Operand)=>(x.1,a.eval x.2))=(parts.map fun x=>match x with|(i,x)=>(i,a.eval x))from rfl]at this;rw[this];rfl
 unfold z6 at fD;split at fD
 ·rename_i fs hu;simp only[Kab]at fD;obtain⟨pl,cQ,hm⟩:=fD;obtain⟨dF,g1,g2⟩:=key _ (fun i=>pl[i]?) hm (fun x q hq=>by simp only[Kab,Kaa]at hq;obtain⟨r,hr,y,hy,rfl⟩:=hq;exact⟨by simpa using hr,hy⟩);refine fin dF (fun w'=>?_) g2;unfold Instr.build;have fy:=run_places (P:=C.P) w' fs.toList pl cQ;simp[Kan,uW i1 i2,Q9 hu,Kbr,fy]at g1⊢;simp[g1]
 ·rename_i len e hu;simp only[Kab]at fD;obtain⟨m,wc,hm⟩:=fD;obtain⟨dF,g1,g2⟩:=key _ (fun i=>some (i*m,m)) hm (fun x q hq=>by simp only[Kaa]at hq;obtain⟨y,hy,rfl⟩:=hq;exact⟨rfl,hy⟩);refine fin dF (fun w'=>?_) g2;unfold Instr.build;simp only[Kan,uW i1 i2,Q9 hu,kW wc,Kak,g1,KaU]
 ·simp at fD
theorem HF{xs:List Operand}{ys:List aJ}(h:Qr C ρ fr hp a.tmps w)(hm:xs.mapM bJ=some ys):(ys.map (ev fr)).length=xs.length/\∀(i:Nat)(x:PV),(ys.map (ev fr))[i]? =some x->Qm C ρ hp w x ((xs.map a.eval).toArray.getD i undef):=by
 obtain⟨h1,h2⟩:=lM hm;refine⟨by simp[h1],fun i x hx=>?_⟩;simp only[Kas,Kaa]at hx;obtain⟨y,hy,rfl⟩:=hx;obtain⟨z,hz,ho⟩:=h2 i y hy;have e:((xs.map a.eval).toArray.getD i undef)=a.eval z:=by simp[KaL,Kas,hz]
 rw[e];exact ch h ho
theorem Qm.TP{p:PV}{v:Value}(h:Qm C ρ hp w p v)(hc:p.kN=true):cF C ρ hp w p v:=by cases p<;>first|exact h|simp[PV.kN]at hc
theorem aaB{o:Oper}{f:FuncId}{first cap:Array Operand}{pf pc:List aJ}{d:Nat}(ho:o.op= .makeFunc (.func f) first cap)(hd:o.dst=some d)(aq:d<C.N)(h:Qr C ρ fr hp a.tmps w)
  (h1:first.toList.mapM bJ=some pf) (h2:cap.toList.mapM bJ=some pc)
  (hv:(pf.map (ev fr)++pc.map (ev fr)).all PV.kN=true/\K (ab fr d (.fn f (pf.map (ev fr)) (pc.map (ev fr)))) hp):Qv C ρ o a w K:=by
 obtain⟨hc,hK⟩:=hv;rw[Kap]at hc;obtain⟨f1,f2⟩:=HF h h1;obtain⟨c1,c2⟩:=HF h h2;refine Qv.mk hd aq h (v:=.func (.func f) (first.map a.eval) (cap.map a.eval)) (fun w'=>?_) ?_ hK
 ·unfold execOp;simp only[ho,Kan,Instr.makeFunc,KaU,Kak]
 ·refine⟨_,_,rfl,by simpa using f1.symm,by simpa using c1.symm,fun i x hx=>?_,fun i x hx=>?_⟩
  ·have:=f2 i x hx;rw[show(first.toList.map a.eval).toArray=first.map a.eval from Array.ext' (by simp)]at this;exact this.TP (hc x (Kb3 _ (Kaj hx)))
  ·have:=c2 i x hx;rw[show(cap.toList.map a.eval).toArray=cap.map a.eval from Array.ext' (by simp)]at this;exact this.TP (hc x (Kbo _ (Kaj hx)))
theorem VG{o:Oper}{x:Operand}{px:PV}(ho:o.op= .nilCheck x)(aq:∀d,o.dst=some d->d<C.N)(h:Qr C ρ fr hp a.tmps w)
  (hx:Qm C ρ hp w px (a.eval x)) (hv:Am px o.dst fr hp K):Qv C ρ o a w K:=by
 have key:(∃b o',a.eval x= .pointer (some ⟨b,o',none⟩))∨(∃f fv cv,a.eval x= .func (.func f) fv cv)->(∀d,o.dst=some d->K (ab fr d px) hp)->(o.dst=none->K fr hp)->Qv C ρ o a w K:=by
  intro hsh k1 k2;have bS:∀w',(execOp a.eval o).run C.P w'= .ok (.value (a.eval x)) w':=by intro w';unfold execOp;rcases hsh with⟨b,o',e⟩|⟨f,fv,cv,e⟩<;>simp only[ho,e]<;>rfl
  cases hd:o.dst with
  |some d=>exact⟨_,bS,_,_,by rw[hd];exact h.ab hx (aq d hd),k1 d hd⟩
  |none=>exact⟨_,bS,fr,hp,by rw[hd];exact h,k2 hd⟩
 cases px with
 |mp β i o'=>obtain⟨b,hb,_,_,e⟩:=hx.yH;refine key (.inl ⟨_,_,e⟩) (fun d hd=>?_) (fun hd=>?_)<;>(rw[hd]at hv;exact hv)
 |pt cs=>obtain⟨b,off,e,_⟩:=hx.FI;refine key (.inl ⟨_,_,e⟩) (fun d hd=>?_) (fun hd=>?_)<;>(rw[hd]at hv;exact hv)
 |fn f first cap=>obtain⟨fv,cv,e,_⟩:=hx;refine key (.inr ⟨_,_,_,e⟩) (fun d hd=>?_) (fun hd=>?_)<;>(rw[hd]at hv;exact hv)
 |_=>exact hv.elim
end Go.FW
namespace Go.FW
open Go
variable {C : Ctx} {ρ : Nat -> Option Nat} {fr : Fr} {hp : HP} {w : World} {a : Act} {K : Qi}
def cw(C:Ctx)(two:Bool)(w:World)(K:Qi)(a':Act)(w':World):Prop:=
 a'.defers=[]/\(∃aA hp',dD C aA hp' a'.tmps w'/\K aA hp')/\(two=true->Ext ca w w')
theorem iI{P:Program}{o:Oper}{v:Value}{w w':World}{a:Act}{K':Act->World->Prop}{Q:Exit->Act->World->Prop}(hr:(execOp a.eval o).run P w= .ok (.value v) w')(hK:K' (a.put o.dst v) w'):o.wp P a w K' Q:=by unfold Oper.wp;rw[hr];exact hK
theorem u6{a:Act}{d:Option Nat}{v:Value}:(a.put d v).defers=a.defers:=by cases d<;>rfl
theorem CA(w:World)(o:Obj)(k:Nat)(h:k<w.heap.size):(w.alloc o).heap[k]? =w.heap[k]? :=by show(w.heap.push o)[k]? =_;rw[Array.getElem?_push,if_neg (by omega)]
theorem mK(w:World)(o:Obj):(w.alloc o).heap[w.heap.size]? =some o:=by show(w.heap.push o)[w.heap.size]? =_;simp
theorem CC(w:World)(o:Obj):(w.alloc o).heap.size=w.heap.size+1:=by show(w.heap.push o).size=_;simp
theorem Ext.alloc(w:World)(o:Obj)(Y:Nat->Prop):Ext Y w (w.alloc o):=⟨rfl,rfl,rfl,by rw[CC];omega,fun b hb _=>CA w o b hb⟩
theorem Ext.drew(w:World)(Y:Nat->Prop):Ext Y w w.drew:=⟨rfl,rfl,rfl,Kae _,fun _ _ _=>rfl⟩
theorem xN{d:Nat}(h:d<C.N):bC d=false:=by have:=C.hN;simp[bC];omega
theorem Qr.wJ{tmps:Array Value}{aA:Fr}(h:Qr C ρ fr hp tmps w)(d:Nat)(hB:aO d=false)(qm:xM C ρ hp w d fr aA)(au:HB)(cur:Array Value)(cap:Nat)(w':World)(hw:w'=w.alloc (.cells cur au.ty)∨w'=w.drew.alloc (.cells cur au.ty))
  (hs:cur.size=cap*au.e) (hle:au.xs.length<=cap) (hm:cap<=maxLen) (he:0<au.e) (hl:∀(i:Nat)(x:PV),au.xs[i]? =some x->x.cells.length=au.e/\x.aD=true)
  (hc:∀(i:Nat)(x:PV),au.xs[i]? =some x->∀(j:Nat)(y:PV),x.cells[j]? =some y->Qp w (aE C ρ hp) y (cur.getD (i*au.e+j) undef)):
  Qr C (rb ρ d (some w.heap.size)) aA (Qk hp d au) tmps w'/\Ext ca w w':=by
 have jz:∀Y,Ext Y w w':=fun Y=>by
  rcases hw with rfl|rfl
  ·exact Ext.alloc w _ Y
  ·exact(Ext.drew w Y).trans (Ext.alloc w.drew _ Y)
 have eH:w'.heap.size=w.heap.size+1:=by rcases hw with rfl|rfl<;>rw[CC]<;>rfl
 have aov:w'.heap[w.heap.size]? =some (.cells cur au.ty (0,0)):=by
  rcases hw with rfl|rfl
  ·exact mK w _
  ·exact mK w.drew _
 refine⟨h.yL d (some w.heap.size) au hB qm (jz _) (fun c iy=>?_) he hl (by simp) (fun c iy=>?_),jz _⟩
 ·cases iy;exact⟨.inl h.ext.size,by omega,.inl (Kae _)⟩
 ·cases iy;exact⟨cur,cap,aov,hs,hle,hm,hc⟩
theorem Qr.FE{tmps:Array Value}(h:Qr C ρ fr hp tmps w)(d:Nat)(hB:bC d=false)(au:HB)(cur:Array Value)(cap:Nat)(w':World)(hw:w'=w.alloc (.cells cur au.ty)∨w'=w.drew.alloc (.cells cur au.ty))
  (hs:cur.size=cap*au.e) (hle:au.xs.length<=cap) (hm:cap<=maxLen) (he:0<au.e) (hl:∀(i:Nat)(x:PV),au.xs[i]? =some x->x.cells.length=au.e/\x.aD=true)
  (hc:∀(i:Nat)(x:PV),au.xs[i]? =some x->∀(j:Nat)(y:PV),x.cells[j]? =some y->Qp w (aE C ρ hp) y (cur.getD (i*au.e+j) undef)):
  Qr C (rb ρ d (some w.heap.size)) (bE d fr) (Qk hp d au) tmps w'/\Ext ca w w':=
 h.wJ d (xv hB) (C7 hB) au cur cap w' hw hs hle hm he hl hc
theorem lN:maxLen=9223372036854775807:=rfl
theorem cw.kS{two:Bool}{o:Oper}{d:Nat}{v:Value}{p:PV}{w':World}{aA:Fr}{hp':HP}{ρ':Nat->Option Nat}(hd:o.dst=some d)(aq:d<C.N)(aU:a.defers=[])
  (h:Qr C ρ' aA hp' a.tmps w') (hx:two=true->Ext ca w w') (hv:Qm C ρ' hp' w' p v) (hK:K (ab aA d p) hp'):cw C two w K (a.put o.dst v) w':=by
 refine⟨by rw[u6];exact aU,⟨_,hp',⟨ρ',?_⟩,hK⟩,hx⟩;rw[hd];exact h.ab hv aq
theorem Q6.TK{X:Nat->Prop}{p:PV}{v:Value}{n:Nat}(h:Q6 w X p v)(hn:p.cells.length=n):v.cells.size=1*n/\∀(i:Nat)(x:PV),[p][i]? =some x->∀(j:Nat)(y:PV),x.cells[j]? =some y->Qp w X y (v.cells.getD (i*n+j) undef):=by
 obtain⟨h1,h2⟩:=h.cells;refine⟨by omega,fun i x hx j y hy=>?_⟩
 match i,hx with
 |0,hx=>simp at hx;subst hx;simpa using h2 j y hy
 |i+1,hx=>simp at hx
theorem Nc{d n ty:Nat}{x:PV}{w':World}:Qm C (rb ρ d (some w.heap.size)) (Qk hp d ⟨n,ty,[x],false⟩) w' (.mp d 0 0) (.pointer (some ⟨w.heap.size,0,none⟩)):=by refine⟨w.heap.size,⟨n,ty,[x],false⟩,gw _ _ _,by simp[Qk],by simp⟩
theorem Xh{o:Oper}{t:TypeId}{n:Nat}{x:Operand}{px:PV}{d:Nat}{Q:Exit->Act->World->Prop}(ho:o.op= .box t x)(hd:o.dst=some d)(aq:d<C.N)(aU:a.defers=[])(h:Qr C ρ fr hp a.tmps w)
  (hx:Qm C ρ hp w px (a.eval x)) (hN:∀cs,px= .aM cs->tV n t cs d fr hp K->o.wp C.P a w (cw C true w K) Q) (hv:eU n t px d fr hp K):o.wp C.P a w (cw C true w K) Q:=by
 unfold eU at hv;split at hv
 ·exact hN _ rfl hv
 split at hv
 ·rename_i β o' m hm;have wm:px= .aw β o' m:=by
   cases px with
   |aw β2 o2 m2=>
    simp only at hm;split at hm
    ·cases hm;rfl
    ·cases hm
   |_=>cases hm
  subst wm;have hs:=h.grow (w':=w.alloc (.cells (a.eval x).cells t)) (Ext.alloc w _ _);have aS:et ρ hp (w.alloc (.cells (a.eval x).cells t)) β o' m (a.eval x):=et.move hx ⟨rfl,fun hb aj=>⟨hb,aj,rfl,Kae _,fun b cap _ hc=>kV (CA w _ b (lf hc)) hc⟩⟩;have nn:(a.eval x).cells= #[a.eval x]:=by obtain⟨ad,cap,e⟩:=Qm.Kk hx;rw[e];rfl
  refine iI (v:=.pointer (some ⟨w.heap.size,0,none⟩)) (w':=w.alloc (.cells (a.eval x).cells t)) ?_ (cw.kS (p:=.rb β o' m) hd aq aU hs (fun _=>Ext.alloc w _ _) ⟨w.heap.size,a.eval x,rfl,by rw[CC];omega,?_,?_,aS⟩ hv)
  ·unfold execOp;simp only[ho,Instr.box,newVar,newRow];simp
  ·rintro(hq|⟨γ,hg,g1,_,g3⟩)
   ·have:=C.AL _ hq;have:=h.ext.size;omega
   ·have:=(h.own γ hg g1).cB;rw[g3]at this;have:=this.2.1;omega
  ·have:=mK w (.cells (a.eval x).cells t);rw[kU this (by rw[nn];simp),nn];rfl
 obtain⟨h1,h2,h3,hK⟩:=hv;have hr:=qL h hx (fun β aj=>aj) h1;obtain⟨r1,r2⟩:=hr.TK h2;obtain⟨hs,he⟩:=(h.freeze px.refs).FE d (xN aq) ⟨n,t,[Qt hp px],false⟩ (a.eval x).cells 1 _ (.inl rfl) r1 (by simp) (by rw[lN];omega) h3
  (fun i y hy=>by
   match i,hy with
   |0,hy=>simp at hy;subst hy;exact⟨h2,h1⟩
   |i+1,hy=>simp at hy) r2
 refine iI (v:=.pointer (some ⟨w.heap.size,0,none⟩)) (w':=w.alloc (.cells (a.eval x).cells t)) ?_ (cw.kS hd aq aU hs (fun _=>he) Nc hK);unfold execOp;simp only[ho,Instr.box,newVar,newRow];simp
theorem UN{o:Oper}{t:TypeId}{n:Nat}{ti:TypeInfo}{zv:Value}{z:PV}{d:Nat}{Q:Exit->Act->World->Prop}(ho:o.op= .alloc t)(hd:o.dst=some d)(aq:d<C.N)(aU:a.defers=[])(h:Qr C ρ fr hp a.tmps w)
  (i1:C.P.info? t=some ti) (i2:ti.zero=some zv) (hz:sj zv=some z) (hv:eU n t z d fr hp K):o.wp C.P a w (cw C true w K) Q:=by
 unfold eU at hv;split at hv
 ·exact absurd (Cw hz).1 (by simp[PV.aD])
 split at hv
 ·rename_i β o' m hm;have hd:=(Cw hz).1;cases z with
  |aw=>simp[PV.aD]at hd
  |_=>cases hm
 obtain⟨h1,h2,h3,hK⟩:=hv;have hr:=qL (C:=C) (ρ:=ρ) (hp:=hp) h (Qm.lJ (rX (w:=w) hz)) (fun β aj=>aj) h1;obtain⟨r1,r2⟩:=hr.TK h2;obtain⟨hs,he⟩:=(h.freeze z.refs).FE d (xN aq) ⟨n,t,[Qt hp z],false⟩ zv.cells 1 _ (.inl rfl) r1 (by simp) (by rw[lN];omega) h3
  (fun i y hy=>by
   match i,hy with
   |0,hy=>simp at hy;subst hy;exact⟨h2,h1⟩
   |i+1,hy=>simp at hy) r2
 refine iI (v:=.pointer (some ⟨w.heap.size,0,none⟩)) (w':=w.alloc (.cells zv.cells t)) ?_ (cw.kS hd aq aU hs (fun _=>he) Nc hK);unfold execOp;simp only[ho,Instr.alloc,Kan,uW i1 i2,Kak,newVar,newRow];simp
theorem KH{i e j:Nat}(hj:j<e):(i*e+j)%e=j:=by rw[KbR,Nat.add_mul_mod_self_right,KaI hj]
theorem aaC{i e j:Nat}(hj:j<e):(i*e+j)/e=i:=by rw[KbR,Nat.add_mul_div_right _ _ (by omega),Kcl hj,Ka5]
theorem Qw0{z:Array Value}{n k:Nat}(hk:k<n)(hz:0<z.size):(madeCells z n).getD k undef=z.getD (k%z.size) undef:=by have h1:k%z.size<z.size:=Kbs _ hz;simp[madeCells,Array.getD,hk,h1]
theorem Nd{d:Nat}{hb:HB}{n cap:Nat}{w':World}{cur:Array Value}(hle:n<=hb.xs.length)(anx:w'.heap[w.heap.size]? =some (.cells cur hb.ty (0,0)))(hs:cur.size=cap*hb.e)(hm:cap<=maxLen):
  Qm C (rb ρ d (some w.heap.size)) (Qk hp d hb) w' (.ms d n) (.slice (some ⟨w.heap.size,0,none⟩) n cap):=
 ⟨hb,by simp[Qk],by omega,.inr ⟨w.heap.size,cap,gw _ _ _,by simp,⟨cur,hb.ty,anx,by rw[Ka5];exact hs⟩,by omega⟩⟩
theorem aaD{o:Oper}{t e:TypeId}{n by_:Nat}{z:PV}{l c:Operand}{pl pc:PV}{d:Nat}{Q:Exit->Act->World->Prop}(ho:o.op= .makeSlice t l c)(hd:o.dst=some d)(aq:d<C.N)(aU:a.defers=[])(h:Qr C ρ fr hp a.tmps w)
  (hu:C.P.underlying t=some (.slice e)) (hz:jK C.P e=some (n,by_,z)) (hl:Qm C ρ hp w pl (a.eval l)) (hc:Qm C ρ hp w pc (a.eval c)) (hv:nD n by_ e z pl pc d fr hp K):o.wp C.P a w (cw C true w K) Q:=by
 unfold nD at hv;split at hv
 ·rename_i kl L kc Cc;obtain⟨h0,h1,h2,h3,h4,h5,hK⟩:=hv;obtain⟨ti,zv,i1,i2,i3,i4,i5⟩:=sm hz;have el:=hl.j1;have ec:=hc.j1;have rN:=(rX (w:=w) (X:=aE C ρ hp) i5).cells;have tl:zv.cells.size=n:=by rw[rN.1];exact h1
  have bS:=run_make (P:=C.P) w t e ti zv hu i1 i2 kl kc L Cc h2 h3 (by rw[i4];exact h4) h5;rw[i3]at bS;obtain⟨hs,he⟩:=h.FE d (xN aq) ⟨n,e,List.replicate L.toNat z,false⟩ (madeCells zv.cells (Cc.toNat*n)) Cc.toNat _ (.inl rfl) (size_madeCells _ _) (by simp;omega) (by rw[lN];omega) h0
   (fun i x hx=>by have aS:=Kaj hx;obtain rfl:=(List.mem_replicate.1 aS).2;exact⟨h1,(Cw i5).1⟩)
   (fun i x hx j y hy=>by
    have hi:i<L.toNat:=by have:=(Kaf.1 hx).1;simpa using this
    obtain rfl:=(List.mem_replicate.1 (Kaj hx)).2;have hj:j<n:=by have:=(Kaf.1 hy).1;omega
    have wb:i*n+0+j<Cc.toNat*n:=mR (by omega) (by omega:0+n<=n) hj;rw[Qw0 (by omega) (by omega),tl,KH hj];exact rN.2 j y hy)
  refine iI (v:=.slice (some ⟨w.heap.size,0,none⟩) L.toNat Cc.toNat) ?_ (cw.kS hd aq aU hs (fun _=>he) (Nd (by simp) (mK w _) (size_madeCells _ _) (by rw[lN];omega)) hK);unfold execOp;simp only[ho,el,ec,Kan,bS,Kak];rfl
 ·exact hv.elim
end Go.FW
namespace Go.FW
open Go
variable {C : Ctx} {ρ : Nat -> Option Nat} {fr : Fr} {hp : HP} {w : World} {a : Act} {K : Qi}
theorem OK(n:Nat):∀(xs:List (List PV))(s:Nat)(pre rest:List PV),(∀x∈xs,x.length=n)->pre.length=s*n->rest.length=xs.length*n->
  gL (pre++rest) ((xs.zipIdx s).map fun p=>(p.2*n,p.1))=pre++xs.flatten
 | [],s,pre,rest,_,_,hr=>by simp at hr;subst hr;simp[gL]
 | x::xs,s,pre,rest,hx,hp,hr=>by
  have Fu:=hx x (by simp);simp only[List.zipIdx_cons,Kbk,gL];have e1:(pre++rest).take (s*n)=pre:=by rw[<-hp];exact List.take_left
  have e2:(pre++rest).drop (s*n+x.length)=rest.drop n:=by rw[Fu,<-hp,<-List.drop_drop,List.drop_left]
  rw[e1,e2];have hlen:(pre++x).length=(s+1)*n:=by simp[hp,Fu,KaD]
  have wo:(rest.drop n).length=xs.length*n:=by simp[hr,KaD]
  rw[OK n xs (s+1) (pre++x) (rest.drop n) (fun y hy=>hx y (by simp[hy])) hlen wo];simp
theorem KJ{n:Nat}(hn:0<n):∀(xs:List (List PV))(i j:Nat)(x:List PV)(y:PV),(∀x∈xs,x.length=n)->xs[i]? =some x->x[j]? =some y->xs.flatten[i*n+j]? =some y
 | [],i,j,x,y,_,h,_=>by simp at h
 |z::xs,0,j,x,y,hl,h,hy=>by simp at h;subst h;have hj:j<z.length:=(Kaf.1 hy).1;simp only[List.flatten_cons,KbG,Ka5];rw[Kcc hj];exact hy
 |z::xs,i+1,j,x,y,hl,h,hy=>by simp at h;have hz:=hl z (by simp);simp only[List.flatten_cons];rw[KbT (by rw[hz,KaD];omega)];rw[show(i+1)*n+j-z.length=i*n+j by rw[hz,KaD];omega];exact KJ hn xs i j x y (fun q hq=>hl q (by simp[hq])) h hy
theorem Qzw{parts:List (Nat×Operand)}{len i:Nat}{p:Nat×Operand}(h:parts.map (·.1)=List.range len)(hp:parts[i]? =some p):p.1=i:=by
 have h1:(parts.map (·.1))[i]? =some p.1:=by simp[hp]
 rw[h]at h1;have hi:i<len:=by have:=(Kaf.1 h1).1;simpa using this
 rw[KcB hi]at h1;simp at h1;exact h1.symm
theorem Xi{X:Nat->Prop}{e:TypeId}{n N by_:Nat}{z:PV}{zv:Value}(i5:sj zv=some z)(hz:z.cells.length=n)(hn:0<n):
  Rows w X ((List.range N).map fun k=>z.cells.getD (k%n) .undef) ((Array.range N).map (zv.cells[· %zv.cells.size]!)):=by
 have rN:=(rX (w:=w) (X:=X) i5).cells;refine⟨by simp,fun i x hx=>?_⟩;have hi:i<N:=by have:=(Kaf.1 hx).1;simpa using this
 simp only[Kas,KcB hi,KbY,KaA]at hx;have hm:i%n<z.cells.length:=by rw[hz];exact Kbs _ hn
 have aS:z.cells[i%n]? =some x:=by rw[<-hx];simp[hm]
 have:=rN.2 _ x aS;have hs:zv.cells.size=n:=by rw[rN.1];exact hz
 have pk:i%n<zv.cells.size:=by omega
 have e2:((Array.range N).map (zv.cells[· %zv.cells.size]!)).getD i undef=zv.cells.getD (i%n) undef:=by have SE:i%n<n:=Kbs _ hn;simp[Array.getD,hi,hs,SE,getElem!_def,Kbq pk]
 rw[e2];exact this
theorem aaE{o:Oper}{t e:TypeId}{len n by_:Nat}{z:PV}{parts:Array (Nat×Operand)}{ps:List aJ}{d:Nat}{Q:Exit->Act->World->Prop}(ho:o.op= .buildSlice t len parts)(hd:o.dst=some d)(aq:d<C.N)(aU:a.defers=[])(h:Qr C ρ fr hp a.tmps w)
  (hu:C.P.underlying t=some (.slice e)) (hz:jK C.P e=some (n,by_,z)) (td:parts.toList.map (·.1)=List.range len) (Tc:len*n<=16777216) (j0:z.cells.length=n) (fD:(parts.toList.mapM fun p=>bJ p.2)=some ps)
  (hv:Ax n e (ps.map (ev fr)) d fr hp K):o.wp C.P a w (cw C true w K) Q:=by
 obtain⟨h0,aL,hK⟩:=hv;obtain⟨ti,zv,i1,i2,i3,i4,i5⟩:=sm hz;obtain⟨m1,m2⟩:=lM fD;have hlen:parts.toList.length=len:=by have:=congrArg List.length td;simpa using this
 have cQ:ps.length=len:=by omega
 let xs:List (List PV):=(ps.map (ev fr)).map fun p=>(Qt hp p).cells
 have eC:∀x∈xs,x.length=n:=by intro x hx;simp only[xs,KaE]at hx;obtain⟨p,⟨q,hq,rfl⟩,rfl⟩:=hx;exact(aL _ (KaE.2 ⟨q,hq,rfl⟩)).2
 have J4:xs.length=len:=by simp[xs,cQ]
 have lz:(parts.map fun(x:Nat×Operand)=>(x.1,a.eval x.2)).toList=parts.toList.map fun x=>(x.1,a.eval x.2):=by simp
 have R7:Rows w (aE C ρ (Qy hp ((ps.map (ev fr)).flatMap PV.refs))) ((List.range (len*n)).map fun k=>z.cells.getD (k%n) .undef) ((Array.range (len*n)).map ((if len*n=0 then(#[]:Array Value)else zv.cells)[· %(if len*n=0 then(#[]:Array Value)else zv.cells).size]!)):=by
  by_cases qp:len*n=0
  ·rw[if_pos qp,qp];exact⟨by simp,by simp⟩
  ·rw[if_neg qp];exact Xi (e:=e) (by_:=by_) i5 j0 h0
 obtain⟨dF,g1,g2⟩:=CL (fun i=>some (i*n,n)) (parts.toList.map fun x=>(x.1,a.eval x.2)) ((xs.zipIdx 0).map fun p=>(p.2*n,p.1)) _ _ R7 (by simp[J4,hlen]) (fun i p q yx uH=>by
  simp only[Kas,Kaa]at yx uH;obtain⟨x,hx,rfl⟩:=yx;obtain⟨q0,kJ,rfl⟩:=uH;rw[List.getElem?_zipIdx]at kJ;simp only[Kaa]at kJ;obtain⟨y,hy,rfl⟩:=kJ;simp only[Ka5];have Tp:=eC y (Kaj hy);simp only[xs,Kas,Kaa]at hy;obtain⟨pv,⟨u,mB,rfl⟩,rfl⟩:=hy;obtain⟨x',aS,JH⟩:=m2 i u mB;rw[hx]at aS;cases aS;have hi:i<len:=by have:=(Kaf.1 hx).1;omega
  obtain⟨o1,o2⟩:=aL (ev fr u) (KaE.2 ⟨u,Kaj mB,rfl⟩);refine⟨by rw[Qzw td hx,Tp],(qL h (ch h JH) (fun β aj=>Kaq.2 ⟨_,KaE.2 ⟨u,Kaj mB,rfl⟩,aj⟩) o1).rows,?_⟩;rw[Tp];simp;have:(i+1)*n<=len*n:=Kam n hi;rw[KaD]at this;omega)
 have Jo:=OK n xs 0 [] ((List.range (len*n)).map fun k=>z.cells.getD (k%n) .undef) eC (by simp) (by simp[J4]);simp only[KaH]at Jo;rw[Jo]at g2;have uy:xs.flatten.length=len*n:=by
  have:=g2.1;have hb:=R7.1;have h2:gL ((List.range (len*n)).map fun k=>z.cells.getD (k%n) .undef) ((xs.zipIdx 0).map fun p=>(p.2*n,p.1))=xs.flatten:=Jo;rw[List.length_flatten];have:xs.map List.length=List.replicate xs.length n:=by apply List.ext_getElem (by simp);intro i h1 h2;simp only[Kb1,List.getElem_replicate];exact eC _ (Kah _)
  rw[this,List.sum_replicate_nat,J4]
 have kL:dF.size=len*n:=by rw[g2.1,uy]
 obtain⟨hs,he⟩:=(h.freeze ((ps.map (ev fr)).flatMap PV.refs)).FE d (xN aq) ⟨n,e,(ps.map (ev fr)).map (Qt hp),false⟩ dF len _ (.inl rfl) kL (by simp[cQ]) (by rw[lN];have:len*1<=len*n:=Ka9 len h0;omega) h0
  (fun i x hx=>by simp only[Kas,Kaa]at hx;obtain⟨p,⟨u,mB,rfl⟩,rfl⟩:=hx;obtain⟨o1,o2⟩:=aL (ev fr u) (KaE.2 ⟨u,Kaj mB,rfl⟩);exact⟨o2,o1⟩)
  (fun i x hx j y hy=>by refine g2.2 _ y (KJ h0 xs i j x.cells y eC ?_ hy);simp only[Kas,Kaa,xs]at hx⊢;obtain⟨p,fy,rfl⟩:=hx;exact⟨p,fy,rfl⟩)
 refine iI (v:=.slice (some ⟨w.heap.size,0,none⟩) len len) ?_ (cw.kS hd aq aU hs (fun _=>he) ?_ hK)
 ·unfold execOp;have te:¬(len*n>2^24):=by omega
  have JM:(parts.map fun x=>match x with|(i,x)=>(i,a.eval x)).toList=parts.toList.map fun x=>(x.1,a.eval x.2):=lz;simp only[ho,Instr.buildSlice,Kan,Q9 hu,Kak,kW (show dR C.P e=some n by simp[dR,i1,i3]),if_neg te,JM];by_cases qp:len*n=0
  ·simp only[if_pos qp]at g1⊢;simp only[KaU,Kak,Kan,g1,newRow];simp
  ·simp only[if_neg qp]at g1⊢;simp only[KaU,Kak,Kan,uW i1 i2,g1,newRow];simp
 ·rw[show(ps.map (ev fr)).length=len by simp[cQ]];exact Nd (by simp[cQ]) (mK w _) kL (by rw[lN];have:len*1<=len*n:=Ka9 len h0;omega)
theorem y8(w:World)(b:Nat)(cur:Array Value):Ext (fun c=>c=b) w (w.setRow b cur):=
 ⟨rfl,rfl,rfl,by simp,fun k hk hn=>setRow_other w b k _ hn⟩
theorem y5{cur:Array Value}{p:Nat}{cs:List Value}{k:Nat}(hle:p+cs.length<=cur.size)(hk:k<cur.size):
  ((cur.toList.take p++cs++cur.toList.drop (p+cs.length)).toArray).getD k undef=if p<=k/\k<p+cs.length then cs.getD (k-p) undef else cur.getD k undef:=by
 have cI:k<cur.toList.length:=by simpa using hk
 have ht:(cur.toList.take p).length=p:=by simp;omega
 simp only[KaL,List.getElem?_toArray,Kbv,Kad];rw[Ka0,ht];by_cases c1:k<p
 ·rw[if_pos c1,if_neg (by omega),KaF c1];simp
 ·rw[if_neg c1,Ka0];by_cases c2:k-p<cs.length
  ·rw[if_pos c2,if_pos (by omega)]
  ·rw[if_neg c2,if_neg (by omega),Ka2];rw[show p+cs.length+(k-p-cs.length)=k by omega];simp
theorem y6{cur:Array Value}{p:Nat}{cs:List Value}(hle:p+cs.length<=cur.size):((cur.toList.take p++cs++cur.toList.drop (p+cs.length)).toArray).size=cur.size:=by simp;omega
theorem NI{P:Program}{t:TypeId}{n b off:Nat}{ty:TypeId}{v:Value}{cur:Array Value}(hn:dR P t=some n)(hs:v.cells.size=n)(hg:w.heap[b]? =some (.cells cur ty (0,0)))(hle:off+n<=cur.size)(h1:∀u∈v.cells.toList,u.oneCell'=true):
  (storeVar t ⟨b,off,none⟩ v).run P w= .ok () (w.setRow b (cur.toList.take off++v.cells.toList++cur.toList.drop (off+n)).toArray):=by
 unfold storeVar;have aH:=run_storeCells_at P b off ty v.cells.toList 0 cur w hg (by simp[hs];omega) h1;simp only[KaM,Kb8,hs]at aH;have aQ:¬(v.cells.size≠n):=by simp[hs]
 simp only[Kan,kW hn,Kak,if_neg aQ];exact aH
theorem aaF{x:PV}{o:Nat}{v:PV}{j:Nat}(hl:o+v.cells.length<=x.cells.length)(hj:j<x.cells.length):
  (rW x o v).cells[j]? =if o<=j/\j<o+v.cells.length then v.cells[j-o]? else x.cells[j]? :=by
 show(x.cells.take o++v.cells++x.cells.drop (o+v.cells.length))[j]? =_;rw[Kbv];have ht:(x.cells.take o).length=o:=by simp;omega
 rw[Ka0,ht];by_cases c1:j<o
 ·rw[if_pos c1,if_neg (by omega),KaF c1]
 ·rw[if_neg c1,Ka0];by_cases c2:j-o<v.cells.length
  ·rw[if_pos c2,if_pos (by omega)]
  ·rw[if_neg c2,if_neg (by omega),Ka2];rw[show o+v.cells.length+(j-o-v.cells.length)=j by omega]
theorem afB{x:PV}{o:Nat}{v:PV}(hl:o+v.cells.length<=x.cells.length):(rW x o v).cells.length=x.cells.length:=by show(List.take o x.cells++v.cells++List.drop (o+v.cells.length) x.cells).length=_;simp;omega
theorem KK{e i j m k n:Nat}(hj:j<e)(hk:k+n<=e)(aQ:i≠m):¬(m*e+k<=i*e+j/\i*e+j<m*e+k+n):=by
 intro⟨h1,h2⟩;rcases Nat.lt_or_gt_of_ne aQ with h|h
 ·have:(i+1)*e<=m*e:=Kam e h;rw[KaD]at this;omega
 ·have:(m+1)*e<=i*e:=Kam e h;rw[KaD]at this;omega
theorem zN{l:List PV}{i k:Nat}{nx x:PV}(h:(l.set i nx)[k]? =some x):(i=k/\x=nx)∨(i≠k/\l[k]? =some x):=by
 by_cases sY:i=k
 ·subst sY;have hi:i<l.length:=by have:=(Kaf.1 h).1;simpa using this
  rw[List.getElem?_set_self hi]at h;cases h;exact .inl ⟨rfl,rfl⟩
 ·rw[List.getElem?_set_ne sY]at h;exact .inr ⟨sY,h⟩
theorem cx.aW{p:PV}{v:Value}(h:cx C ρ hp w p v):p.aW=[p]:=by
 cases p with
 |agg=>cases h
 |aM=>cases h
 |_=>rfl
theorem OL{l:List PV}(h:∀c∈l,c.aW=[c]):(ft l).aW=l:=by
 unfold ft;split
 ·exact h _ (by simp)
 ·exact UJ _
theorem LS{py:PV}{v:Value}{cs:List PV}(h:Qm C ρ hp w py v)(hs:eT py=some cs):v.cells.size=cs.length/\(∀(j:Nat)(y:PV),cs[j]? =some y->cx C ρ hp w y (v.cells.getD j undef))/\∀u∈v.cells.toList,u.oneCell'=true:=by
 have one:∀ {p:PV},cx C ρ hp w p v->p≠ .undef->cs=[p]->v.cells.size=cs.length/\(∀(j:Nat)(y:PV),cs[j]? =some y->cx C ρ hp w y (v.cells.getD j undef))/\∀u∈v.cells.toList,u.oneCell'=true:=by
  rintro p hr hu rfl;obtain⟨h1,h2⟩:=hr.rT hu;rw[h2];refine⟨rfl,fun j y hy=>?_,fun u mB=>?_⟩
  ·match j,hy with
   |0,hy=>simp at hy;subst hy;exact hr
   |j+1,hy=>simp at hy
  ·simp at mB;subst mB;exact h1
 cases py with
 | aM cs'=>
  simp only[eT]at hs;split at hs
  ·rename_i aP;simp only[KaA]at hs;subst hs;obtain⟨vs,rfl,h1,h2⟩:=h;refine⟨h1,h2,fun u hu=>?_⟩;obtain⟨j,hj,rfl⟩:=Kaz hu;have cg:j<vs.size:=by simpa[Value.cells]using hj
   have hp:j<cs'.length:=by omega
   have h3:=h2 j cs'[j] (Kag hp);have h4:=Kap.1 aP cs'[j] (Kah hp);have:=(h3.rT (fun e=>by rw[e]at h4;cases h4)).1;simpa[Array.getD,cg,Value.cells]using this
  ·cases hs
 |aG γ o n=>simp only[eT,KaA]at hs;exact one (p:=.aG γ o n) h (by simp) hs.symm
 |aw β o n=>
  simp only[eT]at hs;split at hs
  ·rename_i hB;simp only[KaA]at hs;exact one (p:=.aw β o n) ⟨hB,h⟩ (by simp) hs.symm
  ·cases hs
 |int k n=>simp only[eT,KaA]at hs;exact one (p:=.int k n) h (by simp) hs.symm
 |bool b=>simp only[eT,KaA]at hs;exact one (p:=.bool b) h (by simp) hs.symm
 |aa=>simp only[eT,KaA]at hs;exact one (p:=.aa) h (by simp) hs.symm
 |sl e xs=>simp only[eT,KaA]at hs;exact one (p:=.sl e xs) h (by simp) hs.symm
 |pt cs'=>simp only[eT,KaA]at hs;exact one (p:=.pt cs') h (by simp) hs.symm
 |agg cs'=>simp only[eT,KaA]at hs;subst hs;have hr:Q6 w (aE C ρ hp) (.agg cs') v:=h;obtain⟨h1,h2⟩:=hr.cells;exact⟨h1,fun j y hy=>cx.TA (h2 j y hy),hr.TF⟩
 |_=>cases hs
theorem Qr.Kl{tmps:Array Value}{w':World}(h:Qr C ρ fr hp tmps w){γ b e ty:Nat}{hb:HB}{xs':List PV}{cur':Array Value}{cap:Nat}(hB:bC γ=true)(he:0<e)(ah:hp γ=some hb)(mj:hb.fz=false)(bX:hb.xs=[])(yn:hb.e=e)(ht:hb.ty=ty)(bl:ρ γ=some b)
  (hx:Ext (fun c=>c=b) w w') (dw:∀e cap,cV w b e cap->cV w' b e cap) (h1:w'.heap[b]? =some (.cells cur' ty (0,0))) (h2:cur'.size=cap*e) (h3:xs'.length<=cap) (h4:cap<=maxLen)
  (h5:∀(i:Nat)(x:PV),xs'[i]? =some x->x.aW.length=e) (h6:∀(i:Nat)(x:PV),xs'[i]? =some x->∀(j:Nat)(y:PV),x.aW[j]? =some y->cx C ρ hp w y (cur'.getD (i*e+j) undef)):
  Qr C ρ (FW.ab (iJ γ fr) γ (.aF γ e ty xs')) hp tmps w':=by
 have I9:aE C ρ hp b:=.inr ⟨γ,hb,ah,mj,bl⟩;have Fa:eI γ=false:=by
  cases hq:eI γ with
  |false=>rfl
  |true=>have:=(h.own γ hb ah).ro hq;rw[mj]at this;cases this
 have iy:lZ w w' (aE C ρ hp) (aE C ρ hp):=⟨fun c hc hn=>hx.block c hc (fun e=>hn (e▸I9)),fun _ _ hn=>hn,hx.size⟩
 have bj:=(h.own γ hb ah).cB;rw[bl]at bj;have jz:Ext C.Y0 C.w0 w':=by refine h.ext.trans' (Y':=fun c=>c=b) hx ?_;intro c hc he;subst he;exact(Ctx.El bj.1 Fa).resolve_left (by omega)
 have Ba:∀β c,C.fx β=some c->∀e cap,cV C.w0 c e cap->cV w' c e cap:=fun b0 c iy e cap iz=>by
  have iv:=h.eJ b0 c iy e cap iz;by_cases jk:c=b
  ·rw[jk]at iv ⊢;exact dw e cap iv
  ·exact kV (hx.block c (lf iv) jk) iv
 have oy:∀β hg c,β≠γ->hp β=some hg->ρ β=some c->¬c=b:=fun β hg c aQ gk hr e=>aQ (h.inj β γ b (by simp[gk]) (by simp[ah]) (e▸hr) bl);have c0:∀β,vB ρ ρ hp hp w w' β:=fun β=>⟨rfl,fun hg gk=>⟨hg,gk,rfl,Kae _,fun c cap hr iz=>by
  by_cases aQ:β=γ
  ·subst aQ;rw[bl]at hr;cases hr;exact dw _ _ iz
  ·exact kV (hx.block c (lf iz) (oy β hg c aQ gk hr)) iz⟩⟩
 refine⟨h.sz,jz,Ba,fun β hg aj=>?_,h.inj,fun i=>?_⟩
 ·obtain⟨p1,p2,p3,p4,p5⟩:=h.own β hg aj;refine⟨p1,p2,?_,p4,p5⟩;by_cases aQ:β=γ
  ·subst aQ;rw[ah]at aj;cases aj;rw[bl]at p3⊢;exact⟨p3.1,Kbh p3.2.1 hx.size,cur',cap,by rw[h1,ht],by rw[yn];exact h2,by rw[bX];simp,h4,by rw[bX];simp⟩
  ·cases hr:ρ β with
   |none=>rw[hr]at p3;exact p3
   |some c=>rw[hr]at p3;exact⟨p3.1,Kbh p3.2.1 hx.size,p3.2.2.move (hx.block c p3.2.1 (oy β hg c aQ aj hr)) rfl rfl rfl iy.rc⟩
 ·unfold FW.ab;split
  ·exact⟨hB,he,b,hb,cur',cap,bl,ah,bX,yn,ht,h1,h2,h3,h4,h5,fun i x hi j y hy=>(h6 i x hi j y hy).move iy (fun β _=>c0 β)⟩
  ·have ba:=h.cE i;unfold iJ;generalize fr i=p at ba;have mv:(∀aZ e ty xs,p= .aF aZ e ty xs->aZ≠γ)->Qm C ρ hp w' p (tmps.getD i undef):=fun hq=>
    ba.move iy (fun β _=>⟨(c0 β).r,(c0 β).h⟩) (fun β _=>c0 β) (fun aZ e ty xs e1=>⟨rfl,fun hg gk=>by have aQ:=hq aZ e ty xs e1;refine⟨hg,gk,rfl,Kae _,fun c cap hr iz=>kV (hx.block c (lf iz) (oy aZ hg c aQ gk hr)) iz,fun he=>⟨he,rfl,fun c hr=>hx.block c ?_ (oy aZ hg c aQ gk hr)⟩⟩;have:=(h.own aZ hg gk).cB;rw[hr]at this;exact this.2.1⟩)
   cases p with
   |aF aZ e' ty' xs=>
    simp only[iX];split
    ·trivial
    ·rename_i aQ;exact mv (fun _ _ _ _ e1=>by cases e1;exact aQ)
   |_=>exact mv (fun _ _ _ _ e1=>by cases e1)
theorem KL{l cs:List PV}{o j:Nat}(hl:o+cs.length<=l.length)(hj:j<l.length):(pT l o cs)[j]? =if o<=j/\j<o+cs.length then cs[j-o]? else l[j]? :=by
 unfold pT;rw[Kbv];have ht:(l.take o).length=o:=by simp;omega
 rw[Ka0,ht];by_cases c1:j<o
 ·rw[if_pos c1,if_neg (by omega),KaF c1]
 ·rw[if_neg c1,Ka0];by_cases c2:j-o<cs.length
  ·rw[if_pos c2,if_pos (by omega)]
  ·rw[if_neg c2,if_neg (by omega),Ka2];rw[show o+cs.length+(j-o-cs.length)=j by omega]
theorem HG{l cs:List PV}{o:Nat}(hl:o+cs.length<=l.length):(pT l o cs).length=l.length:=by unfold pT;simp;omega
theorem aaG {o:Oper} {t:TypeId} {n:Nat} {x y:Operand} {px py:PV} {Q:Exit->Act->World->Prop} (ho:o.op= .store t x y) (hd:o.dst=none) (aU:a.defers=[]) (h:Qr C ρ fr hp a.tmps w)
  (hn:dR C.P t=some n) (hx:Qm C ρ hp w px (a.eval x)) (hy:Qm C ρ hp w py (a.eval y)) (hv:nH n px py fr hp K):o.wp C.P a w (cw C false w K) Q:=by
 unfold nH at hv;split at hv
 ·rename_i β i o';split at hv
  ·rename_i hb aj;obtain⟨h1,h2,h3,h4,h5,hK⟩:=hv;obtain⟨b,jj,g1,g2,ex⟩:=hx.yH;obtain⟨aN,g3,e1,e2,e3,e4,_⟩:=Cy (l:=py.refs) g2;rw[aj]at g3;cases g3;have hbb:=e4 h1;subst hbb;have hf:=h.freeze py.refs;have hr:=qL h hy (fun β aj=>aj) h2;have wy:=hr.cells;have bj:=hf.own β hb aj;have aV:=bj.cB;rw[g1]at aV;obtain⟨b1,b2,cur,cap,c1,c2,c3,c4,c5⟩:=aV;have fj:=Kag h4;have di:=(bj.len i _ fj).1;have kL:(a.eval y).cells.size=n:=by rw[wy.1,h3]
   have pg:i*hb.e+o'+n<=cur.size:=by rw[c2];have:(i+1)*hb.e<=cap*hb.e:=Kam _ (by omega);rw[KaD]at this;omega
   have bS:=NI (P:=C.P) (w:=w) (off:=i*hb.e+o') hn kL c1 pg hr.TF;have jB:(a.eval y).cells.toList.length=n:=by simp[kL]
   have iC:∀k,k<cur.size->((cur.toList.take (i*hb.e+o')++(a.eval y).cells.toList++cur.toList.drop (i*hb.e+o'+n)).toArray).getD k undef=if i*hb.e+o'<=k/\k<i*hb.e+o'+n then(a.eval y).cells.getD (k-(i*hb.e+o')) undef else cur.getD k undef:=by intro k hk;have:=y5 (cur:=cur) (p:=i*hb.e+o') (cs:=(a.eval y).cells.toList) (k:=k) (by omega) hk;rw[jB]at this;rw[this];simp[KaL,Kad]
   have kK:((cur.toList.take (i*hb.e+o')++(a.eval y).cells.toList++cur.toList.drop (i*hb.e+o'+n)).toArray).size=cur.size:=by
    have:=y6 (cur:=cur) (p:=i*hb.e+o') (cs:=(a.eval y).cells.toList) (by omega)
    rwa[jB]at this
   have nt:(if n=hb.e then Qt hp py else rW (hb.xs[i]'h4) o' (Qt hp py)).cells.length=hb.e/\(if n=hb.e then Qt hp py else rW (hb.xs[i]'h4) o' (Qt hp py)).aD=true:=by
    by_cases hc:n=hb.e
    ·rw[if_pos hc];exact⟨by omega,h2⟩
    ·rw[if_neg hc];exact⟨by rw[afB (by omega)];exact di,rfl⟩
   obtain⟨nx,fP⟩:∃nx,nx=(if n=hb.e then Qt hp py else rW (hb.xs[i]'h4) o' (Qt hp py)):=⟨_,rfl⟩
   rw[<-fP]at hK nt;have aH:=hf.store β b hb { hb with xs:=hb.xs.set i nx } aj h1 (by intro e;rw[e]at h4;simp at h4) g1 (y8 w b _) rfl (by simp) h1
    (fun k x hk=>by
     rcases zN hk with⟨_,rfl⟩|⟨_,hk⟩
     ·exact nt
     ·exact bj.len k x hk)
    (fun e' ew dw=>by obtain⟨cur',ty',d1,d2⟩:=dw;rw[c1]at d1;cases d1;exact⟨_,_,setRow_heap w b cur _ hb.ty _ c1,by rw[kK];exact d2⟩)
    ⟨_, cap,setRow_heap w b cur _ hb.ty _ c1,by rw[kK];exact c2,by simpa using c3,c4,fun k x hk j z hz=>by
     have yr:k<hb.xs.length:=by have:=(Kaf.1 hk).1;simpa using this
     have eC:x.cells.length=hb.e:=by
      rcases zN hk with⟨_,rfl⟩|⟨_,hk⟩
      ·exact nt.1
      ·exact(bj.len k x hk).1
     have hj:j<hb.e:=by have:=(Kaf.1 hz).1;omega
     have aq:k*hb.e+0+j<cap*hb.e:=mR (by omega) (by omega:0+hb.e<=hb.e) hj;show Qp w _ z (Array.getD _ (k*hb.e+j) undef);rw[iC _ (by omega)];rcases zN hk with⟨v7,Fu⟩|⟨v7,hk⟩
     ·subst v7;subst Fu;by_cases hc:n=hb.e
      ·rw[fP,if_pos hc]at hz;have Fc:o'=0:=by omega
       subst Fc;rw[if_pos (by omega)];rw[show i*hb.e+j-(i*hb.e+0)=j by omega];exact wy.2 j z hz
      ·rw[fP,if_neg hc]at hz;rw[aaF (by omega) (by omega),h3]at hz;by_cases Sr:o'<=j/\j<o'+n
       ·rw[if_pos Sr]at hz;rw[if_pos (by omega)];rw[show i*hb.e+j-(i*hb.e+o')=j-o' by omega];exact wy.2 _ z hz
       ·rw[if_neg Sr]at hz;rw[if_neg (by omega)];exact c5 i _ fj j z hz
     ·rw[if_neg (KK hj (by omega) (fun e=>v7 e.symm))];exact c5 k x hk j z hz⟩
   unfold Oper.wp;have hex:(execOp a.eval o).run C.P w= .ok .skip (w.setRow b (cur.toList.take (i*hb.e+o')++(a.eval y).cells.toList++cur.toList.drop (i*hb.e+o'+n)).toArray):=by unfold execOp;simp only[ho,ex,Kan,Instr.storeAt,Instr.sureAddr,KaU,Kak,bS]
   rw[hex];refine⟨by rw[u6];exact aU,⟨fr,_,⟨ρ,?_⟩,hK⟩,by simp⟩;rw[hd];exact aH
  ·exact hv.elim
 ·rename_i γ i o';split at hv
  ·rename_i aZ e ty xs ah;obtain⟨rfl,⟨hb,k1,k2⟩,h1,h2,hv⟩:=hv;split at hv
   ·rename_i cs kH;obtain⟨h3,hK⟩:=hv;obtain⟨r1,r2,r3⟩:=LS hy kH;obtain⟨hB,b,au,g1,g2,ex⟩:=hx.FF;rw[k1]at g2;cases g2;have ba:=h.cE aZ;rw[ah]at ba;obtain⟨_,vX,b',au,cur,cap,q1,q2,q3,q4,q5,q6,q7,q8,q9,wL,tr⟩:=ba;rw[g1]at q1;cases q1;rw[k1]at q2;cases q2;rw[q4]at ex;have fj:=Kag h1;have di:=wL i _ fj;have kL:(a.eval y).cells.size=n:=by rw[r1,h3]
    have pg:i*e+o'+n<=cur.size:=by rw[q7];have:(i+1)*e<=cap*e:=Kam _ (by omega);rw[KaD]at this;omega
    have bS:=NI (P:=C.P) (w:=w) (off:=i*e+o') hn kL q6 pg r3;have jB:(a.eval y).cells.toList.length=n:=by simp[kL]
    have iC:∀k,k<cur.size->((cur.toList.take (i*e+o')++(a.eval y).cells.toList++cur.toList.drop (i*e+o'+n)).toArray).getD k undef=if i*e+o'<=k/\k<i*e+o'+n then(a.eval y).cells.getD (k-(i*e+o')) undef else cur.getD k undef:=by intro k hk;have:=y5 (cur:=cur) (p:=i*e+o') (cs:=(a.eval y).cells.toList) (k:=k) (by omega) hk;rw[jB]at this;rw[this];simp[KaL,Kad]
    have kK:((cur.toList.take (i*e+o')++(a.eval y).cells.toList++cur.toList.drop (i*e+o'+n)).toArray).size=cur.size:=by
     have:=y6 (cur:=cur) (p:=i*e+o') (cs:=(a.eval y).cells.toList) (by omega)
     rwa[jB]at this
    generalize(cur.toList.take (i*e+o')++(a.eval y).cells.toList++cur.toList.drop (i*e+o'+n)).toArray=W at bS iC kK;have Bp:o'+cs.length<=(xs[i]).aW.length:=by rw[di,h3];exact h2
    have qj:∀c∈pT (xs[i]).aW o' cs,c.aW=[c]:=by
     intro c hc;obtain⟨j,hj⟩:=KaB hc;have qo:j<(xs[i]).aW.length:=by have:=(Kaf.1 hj).1;rwa[HG Bp]at this
     rw[KL Bp qo]at hj;split at hj
     ·exact(r2 _ c hj).aW
     ·exact(tr i _ fj j c hj).aW
    have bN:=OL qj;have aH:=h.Kl (w':=w.setRow b W) (xs':=xs.set i (ft (pT (xs[i]).aW o' cs))) (cur':=W) (cap:=cap) hB vX k1 k2 q3 q4 q5 g1 (y8 w b W)
     (fun e2 AA hcp=>by obtain⟨apV,oE,d1,d2⟩:=hcp;rw[q6]at d1;cases d1;exact⟨_,_,setRow_heap w b cur _ ty _ q6,by rw[kK];exact d2⟩)
     (setRow_heap w b cur W ty _ q6) (by rw[kK];exact q7) (by simpa using q8) q9
     (fun k x hk=>by
      rcases zN hk with⟨_,rfl⟩|⟨_,hk⟩
      ·rw[bN,HG Bp];exact di
      ·exact wL k x hk)
     (fun k x hk j y' nw=>by
      rcases zN hk with⟨rfl,rfl⟩|⟨aQ,hk⟩
      ·rw[bN]at nw;have qo:j<(xs[i]).aW.length:=by have:=(Kaf.1 nw).1;rwa[HG Bp]at this
       have v5:j<e:=by omega
       have wb:i*e+0+j<cap*e:=mR (n:=e) (by omega) (by omega) v5;rw[KL Bp qo]at nw;rw[iC _ (by omega)];split at nw
       ·rename_i hr;rw[if_pos (by omega),show i*e+j-(i*e+o')=j-o' by omega];exact r2 _ y' nw
       ·rename_i hr;rw[if_neg (by omega)];exact tr i _ fj j y' nw
      ·have yr:k<xs.length:=(Kaf.1 hk).1;have v5:j<e:=by have:=(Kaf.1 nw).1;have:=wL k x hk;omega
       have wb:k*e+0+j<cap*e:=mR (n:=e) (by omega) (by omega) v5;rw[iC _ (by omega),if_neg (KK v5 h2 (fun e=>aQ e.symm))];exact tr k x hk j y' nw)
    unfold Oper.wp;have hex:(execOp a.eval o).run C.P w= .ok .skip (w.setRow b W):=by unfold execOp;simp only[ho,ex,Kan,Instr.storeAt,Instr.sureAddr,KaU,Kak,bS]
    rw[hex];refine⟨by rw[u6];exact aU,⟨_,hp,⟨ρ,?_⟩,hK⟩,by simp⟩;rw[hd];exact aH
   ·exact hv.elim
  ·exact hv.elim
 ·exact hv.elim
end Go.FW
namespace Go.FW
open Go
variable {C : Ctx} {ρ : Nat -> Option Nat} {fr : Fr} {hp : HP} {w : World} {a : Act} {K : Qi}
theorem Ul{X:Nat->Prop}{x:PV}{e:Nat}{f:Nat->Value}(he:x.cells.length=e)(h0:0<e)(hr:∀(j:Nat)(y:PV),x.cells[j]? =some y->Qp w X y (f j)):x.aD=true:=by
 by_cases ha:∃cs,x= .agg cs
 ·obtain⟨cs,rfl⟩:=ha;rfl
 ·have hc:x.cells=[x]:=by
   cases x with
   |agg cs=>exact absurd ⟨cs,rfl⟩ ha
   |_=>rfl
  have:=hr 0 x (by rw[hc];rfl);exact Q6.data (Q6.qD this)
theorem Hm{e:Nat}{px:PV}{v:Value}{ys:List PV}{e':Nat}(h:Qr C ρ fr hp a.tmps w)(hx:Qm C ρ hp w px v)(hs:ju hp px=some (e',ys))(h0:0<e)(nr:e'=e∨ys=[]):
  ∃ad cap,v= .slice ad ys.length cap/\(ys≠[]->∃(b off:Nat)(f:Nat->Value),ad=some ⟨b,off,none⟩/\(∀k,k<ys.length*e->w.cell? ⟨b,off+k,none⟩=some (f k))/\
   ∀(i:Nat)(y:PV),ys[i]? =some y->y.cells.length=e/\y.aD=true/\∀(j:Nat)(z:PV),y.cells[j]? =some z->Qp w (aE C ρ hp) z (f (i*e+j))):=by
 cases px with
 |aa=>simp[ju]at hs;obtain⟨rfl,rfl⟩:=hs;exact⟨none,0,hx.wK,fun hn=>absurd rfl hn⟩
 | sl e2 xs=>
  simp[ju]at hs;obtain⟨rfl,rfl⟩:=hs;have aS:Qp w (aE C ρ hp) (.sl e2 xs) v:=hx;cases aS with
  |mE _ ad cap hc=>exact⟨ad,cap,rfl,fun hn=>absurd rfl hn⟩
  | sl _ _ b off cap vs hX hb hl hc he hv hr=>
   refine⟨_,cap,rfl,fun hn=>?_⟩;obtain rfl:e2=e:=nr.resolve_right hn;refine⟨b,off,fun k=>vs (k/e2) (k%e2),rfl,fun k hk=>?_,fun i y hy=>?_⟩
   ·have h1:k/e2<xs.length:=(Kbd h0).2 hk;have h2:=Kbs k h0;have:=hv _ h1 _ h2;rw[KbX,KaX,Kbi]at this;exact this
   ·have di:=he i y hy;refine⟨di,Ul di h0 (hr i y hy),fun j z hz=>?_⟩;have hj:j<e2:=by have:=(Kaf.1 hz).1;omega
    show Qp w _ z (vs ((i*e2+j)/e2) ((i*e2+j)%e2));rw[aaC hj,KH hj];exact hr i y hy j z hz
 | aw β o n=>
  simp only[ju,Kaa,Prod.mk.injEq]at hs;obtain⟨hb,aj,yn,rfl⟩:=hs;obtain⟨dv,g1,g2,g3⟩:=hx;rw[aj]at g1;cases g1;have hlen:((hb.xs.drop o).take n).length=n:=by simp;omega
  rcases g3 with⟨g3,rfl,rfl,rfl⟩|⟨b,cap,g3,rfl,g5,g6⟩
  ·exact⟨none,0,by simp,fun hn=>absurd (by simp) hn⟩
  ·refine⟨_,cap,by rw[hlen],fun hn=>?_⟩;have bj:=h.own β hb aj;have aV:=bj.cB;rw[g3]at aV;obtain⟨_,aq,cur,ew,c1,c2,c3,c4,c5⟩:=aV;have Si:hb.e=e:=by
    rcases nr with nr|nr
    ·omega
    ·exact absurd nr hn
   refine⟨b,o*hb.e,fun k=>cur.getD (o*hb.e+k) undef,rfl,fun k hk=>?_,fun i y hy=>?_⟩
   ·rw[hlen]at hk;have:(o+n)*e<=ew*e:=Kam e (by omega);rw[KaD]at this;exact kU c1 (by rw[c2,Si];omega)
   ·have hi:i<n:=by have:=(Kaf.1 hy).1;omega
    rw[KaF hi,Ka2]at hy;obtain⟨l1,l2⟩:=bj.len _ y hy;refine⟨by omega,l2,fun j z hz=>?_⟩;have:=c5 _ y hy j z hz;rw[KaD,KbX]at this
    rwa[Si]at this⊢
 |_=>simp[ju]at hs
theorem Nx{P:Program}{t ty e:TypeId}{i:TypeInfo}(ht:P.underlying t=some (.slice e))(hi:P.info? e=some i){base ad:Option Addr}{n cap c:Nat}(hle:n<=cap)(w:World):
  (Builtin.append_ #[t,t] ty #[.slice base n cap,.slice ad 0 c]).run P w= .ok (.slice base n cap) w:=by
 cases ad<;>cases base<;>simp[Builtin.append_,run_underlying ht,sizeOf,typeInfo,hi,Builtin.lenOf,Builtin.firstCells,hle,storeCells,loadCells,loadCellsFrom]
theorem tv{P:Program}{o:Oper}{s x:Operand}{t:TypeId}(ho:o.op= .call { callee:=.builtin .append,args:= #[s,x],argTypes:= #[t,t] }){vs vx v:Value}{w w':World}(es:a.eval s=vs)(ex:a.eval x=vx)
  (hr:(Builtin.append_ #[t,t] o.type #[vs,vx]).run P w= .ok v w'):(execOp a.eval o).run P w= .ok (.value v) w':=by
 unfold execOp;simp only[ho,resolve,Kan,KaU,Kak,invoke,builtin];simp[es,ex,hr]
def fo(f:Nat->Value)(n:Nat):List Value:=(List.range n).map f
theorem wP(f:Nat->Value)(n:Nat):(fo f n).length=n:=by simp[fo]
theorem y9{f:Nat->Value}{n j:Nat}{u:Value}(h:(fo f n)[j]? =some u):j<n/\u=f j:=by
 have hj:j<n:=by have:=(Kaf.1 h).1;simpa[fo]using this
 simp only[fo,Kas,KcB hj,KbY,KaA]at h;exact⟨hj,h.symm⟩
theorem CD{f:Nat->Value}{n j:Nat}(h:j<n):(fo f n).getD j undef=f j:=by simp[fo,Kad,h]
theorem uZ(l:List Value)(k:Nat):l.toArray.getD k undef=l.getD k undef:=by simp[KaL,Kad]
theorem ko(xs ys:Array Value)(k:Nat):(xs++ys).getD k undef=if k<xs.size then xs.getD k undef else ys.getD (k-xs.size) undef:=by simp only[KaL,Array.getElem?_append];split<;>rfl
theorem u9{n m e i j:Nat}(h0:i<m)(hj:j<e):i*e+j<m*e/\(n+i)*e+j=n*e+(i*e+j):=by
 constructor
 ·have:(i+1)*e<=m*e:=Kam e h0;rw[KaD]at this;omega
 ·rw[KaD];omega
theorem sh{β:Nat}{p:PV}{v:Value}(h:cx C ρ hp w p v):cx C ρ hp w (ij β p) v/\∀γ∈(ij β p).dj,γ≠β:=by
 cases p with
 | aw bB o n=>
  simp only[ij];split
  ·exact⟨trivial,fun γ ah=>by cases ah⟩
  ·rename_i aQ;exact⟨h,fun γ ah=>by simp[PV.dj]at ah;subst ah;exact aQ⟩
 | aG aZ o n=>
  simp only[ij];split
  ·exact⟨trivial,fun γ ah=>by cases ah⟩
  ·rename_i aQ;exact⟨h,fun γ ah=>by simp[PV.dj]at ah;subst ah;exact aQ⟩
 |np=>cases h
 |_=>exact⟨h,fun γ ah=>by cases ah⟩
theorem pK{l:List PV}{f:PV->PV}{i:Nat}{y:PV}(h:(l.map f)[i]? =some y):∃x,l[i]? =some x/\y=f x:=by simp only[Kas,Kaa]at h;obtain⟨x,h1,h2⟩:=h;exact⟨x,h1,h2.symm⟩
theorem wZ{β:Nat}:xM C ρ hp w β fr (ff β fr):=by
 intro i v h;unfold ff;generalize fr i=p at h;have kill:cS β p=bx β p->(∀γ∈p.aR,γ≠β)->Qm C ρ hp w (cS β p) v/\(∀γ∈(cS β p).refs,γ≠β)/\∀γ∈(cS β p).aR,γ≠β:=fun e hs=>by
  rw[e];refine⟨Qm.kill h,fun γ ah=>(OI γ ah).1,fun γ ah=>?_⟩;unfold bx at ah;split at ah
  ·cases ah
  ·exact hs γ ah
 cases p with
 | aF γ e ty xs=>
  simp only[cS];split
  ·exact⟨trivial,fun γ ah=>(by cases ah),fun γ ah=>by cases ah⟩
  ·rename_i aQ;obtain⟨h0,he,b,hb,cur,cap,h1,h2,h3,h4,h5,h6,h7,h8,h9,bh,de⟩:=h;have qj:∀(i:Nat)(x:PV),xs[i]? =some x->(ft (x.aW.map (ij β))).aW=x.aW.map (ij β):=fun i x hi=>OL fun c hc=>by obtain⟨d,hd,rfl⟩:=KaE.1 hc;obtain⟨j,hj⟩:=KaB hd;exact(sh (de i x hi j d hj)).1.aW
   refine⟨⟨h0,he,b,hb,cur,cap,h1,h2,h3,h4,h5,h6,h7,by simpa using h8,h9,fun i x hi=>?_,fun i x hi j y hy=>?_⟩,fun γ ah=>(by cases ah),fun aZ ah=>?_⟩
   ·obtain⟨x0,bX,rfl⟩:=pK hi;rw[qj i x0 bX,KaV];exact bh i x0 bX
   ·obtain⟨x0,bX,rfl⟩:=pK hi;rw[qj i x0 bX]at hy;obtain⟨y0,cU,rfl⟩:=pK hy;exact(sh (de i x0 bX j y0 cU)).1
   ·rcases KaC.1 ah with rfl|ah
    ·exact aQ
    ·obtain⟨x,hx,ah⟩:=Kaq.1 ah;obtain⟨y,hy,ah⟩:=Kaq.1 ah;obtain⟨i,hi⟩:=KaB hx;obtain⟨x0,bX,rfl⟩:=pK hi;rw[qj i x0 bX]at hy;obtain⟨j,hj⟩:=KaB hy;obtain⟨y0,cU,rfl⟩:=pK hj;exact(sh (de i x0 bX j y0 cU)).2 aZ ah
 | aM cs=>
  obtain⟨vs,rfl,h1,h2⟩:=h;refine⟨⟨vs,rfl,by simpa using h1,fun i x hi=>?_⟩,fun γ ah=>(by cases ah),fun γ ah=>?_⟩
  ·obtain⟨x0,bX,rfl⟩:=pK hi;exact(sh (h2 i x0 bX)).1
  ·obtain⟨x,hx,ah⟩:=Kaq.1 ah;obtain⟨i,hi⟩:=KaB hx;obtain⟨x0,bX,rfl⟩:=pK hi;exact(sh (h2 i x0 bX)).2 γ ah
 | dZ cs=>
  obtain⟨vs,rfl,h1,h2⟩:=h;refine⟨⟨vs,rfl,by simpa using h1,fun i x hi=>?_⟩,fun γ ah=>(by cases ah),fun γ ah=>?_⟩
  ·obtain⟨x0,bX,rfl⟩:=pK hi;exact(sh (h2 i x0 bX)).1
  ·obtain⟨x,hx,ah⟩:=Kaq.1 ah;obtain⟨i,hi⟩:=KaB hx;obtain⟨x0,bX,rfl⟩:=pK hi;exact(sh (h2 i x0 bX)).2 γ ah
 | cP cs q=>
  obtain⟨vs,u,rfl,h1,h2,h3⟩:=h;refine⟨⟨vs,u,rfl,by simpa using h1,fun i x hi=>?_,h3⟩,fun γ ah=>(by cases ah),fun γ ah=>?_⟩
  ·obtain⟨x0,bX,rfl⟩:=pK hi;exact(sh (h2 i x0 bX)).1
  ·obtain⟨x,hx,ah⟩:=Kaq.1 ah;obtain⟨i,hi⟩:=KaB hx;obtain⟨x0,bX,rfl⟩:=pK hi;exact(sh (h2 i x0 bX)).2 γ ah
 |aG γ o n=>
  simp only[cS];split
  ·exact⟨trivial,fun γ ah=>(by cases ah),fun γ ah=>by cases ah⟩
  ·rename_i aQ;exact⟨h,fun γ ah=>(by cases ah),fun aZ ah=>by simp[PV.aR]at ah;subst ah;exact aQ⟩
 |np γ o n=>
  simp only[cS];split
  ·exact⟨trivial,fun γ ah=>(by cases ah),fun γ ah=>by cases ah⟩
  ·rename_i aQ;exact⟨h,fun γ ah=>(by cases ah),fun aZ ah=>by simp[PV.aR]at ah;subst ah;exact aQ⟩
 | fn f first cap=>
  by_cases hc:(first.flatMap PV.dY++cap.flatMap PV.dY).contains β=true
  ·simp only[cS,hc,if_true];exact⟨trivial,fun γ ah=>(by cases ah),fun γ ah=>by cases ah⟩
  ·exact kill (by simp only[cS,hc];rfl) (fun γ ah e=>hc (by subst e;exact List.contains_iff_mem.2 ah))
 |_=>exact kill rfl (fun γ ah=>by cases ah)
end Go.FW
namespace Go.FW
open Go
variable {C : Ctx} {ρ : Nat -> Option Nat} {fr : Fr} {hp : HP} {w : World} {a : Act} {K : Qi}
theorem LU{o:Oper}{s x:Operand}{t e:TypeId}{n by_:Nat}{z:PV}{px:PV}{ys:List PV}{e' d:Nat}{β:Nat}{aA:Fr}{Q:Exit->Act->World->Prop}
  (ho:o.op= .call { callee:=.builtin .append,args:= #[s,x],argTypes:= #[t,t] }) (hd:o.dst=some d) (aq:d<C.N) (aU:a.defers=[]) (h:Qr C ρ fr hp a.tmps w)
  (hu:C.P.underlying t=some (.slice e)) (hz:jK C.P e=some (n,by_,z)) (hx:Qm C ρ hp w px (a.eval x)) (pz:ju hp px=some (e',ys)) (h0:0<n) (j0:z.cells.length=n) (nr:e'=n∨ys=[])
  (es:a.eval s= .slice none 0 0) (hb:ys.length*by_<=140737488355328) (hm:ys.length<=9223372036854775807)
  (qm:xM C ρ hp w β fr aA) (hB:aO β=false)
  (hK:K (ab aA d (.ms β ys.length)) (Qk hp β ⟨n,e,ys,false⟩)):o.wp C.P a w (cw C false w K) Q:=by
 obtain⟨ti,zv,i1,i2,i3,i4,i5⟩:=sm hz;obtain⟨ad,cap,ex,AQ⟩:=Hm h hx pz h0 nr;by_cases qA:ys=[]
 ·subst qA;have bS:=Nx (P:=C.P) (ty:=o.type) (ad:=ad) (c:=cap) hu i1 (base:=none) (n:=0) (cap:=0) (Kae 0) w;have hs:=h.yL (w':=w) β none ⟨n,e,[],false⟩ hB qm (Ext.refl _ _) (by simp) h0 (by simp) (by simp) (by simp);refine iI (tv ho es ex bS) (cw.kS hd aq aU hs (by simp) ?_ hK);exact⟨⟨n,e,[],false⟩,by simp[Qk],by simp,.inl ⟨gw _ _ _,rfl,rfl,rfl⟩⟩
 ·obtain⟨b,off,f,rfl,hf,bN⟩:=AQ qA;have qp:0<ys.length:=KcC.2 qA;have bS:=run_append_nil (P:=C.P) w t o.type e ti zv hu i1 i2 ⟨b,off,none⟩ ys.length cap (fo f (ys.length*n)) (by rw[wP,i3])
   (fun j v hj=>by obtain⟨cg,rfl⟩:=y9 hj;rw[KbI];exact hf j cg) qp (by omega) (by rw[i4];omega)
  have jm:=grownCap_ge w ys.length 0 e;have mi:=grownCap_le_maxLen w ys.length 0 e (by rw[lN];exact hm);generalize grownCap w ys.length 0 e=G at bS jm mi;have tl:zv.cells.size=n:=by have:=(rX (w:=w) (X:=aE C ρ hp) i5).cells.1;omega
  obtain⟨hs,jz⟩:=h.wJ β hB qm ⟨n,e,ys,false⟩ ((fo f (ys.length*n)).toArray++Builtin.zeroCells zv.cells (G-ys.length)) G _ (.inr rfl)
   (by simp[wP,size_zeroCells,tl,<-Nat.add_mul];congr 1;omega) jm mi h0 (fun i y hy=>⟨(bN i y hy).1,(bN i y hy).2.1⟩)
   (fun i y hy j z hz=>by
    have hi:i<ys.length:=(Kaf.1 hy).1;have hj:j<n:=by have:=(Kaf.1 hz).1;have:=(bN i y hy).1;omega
    obtain⟨q1,_⟩:=u9 (n:=0) hi hj;show Qp w _ z (Array.getD _ (i*n+j) undef);rw[ko,if_pos (by simpa[wP]using q1)];have:=(bN i y hy).2.2 j z hz;rw[uZ,CD q1];exact this)
  refine iI (tv ho es ex bS) (cw.kS hd aq aU hs (by simp) ?_ hK);exact⟨⟨n,e,ys,false⟩,by simp[Qk],by simp,.inr ⟨w.heap.size,G,gw _ _ _,by simp,⟨_,e,mK w.drew _,by simp[wP,size_zeroCells,tl,<-Nat.add_mul];congr 1;omega⟩,by omega⟩⟩
theorem LV{o:Oper}{s x:Operand}{t e:TypeId}{n by_:Nat}{z:PV}{px:PV}{ys:List PV}{e' d:Nat}{β m:Nat}{hb:HB}{aA:Fr}{Q:Exit->Act->World->Prop}
  (ho:o.op= .call { callee:=.builtin .append,args:= #[s,x],argTypes:= #[t,t] }) (hd:o.dst=some d) (aq:d<C.N) (aU:a.defers=[]) (h:Qr C ρ fr hp a.tmps w)
  (hu:C.P.underlying t=some (.slice e)) (hz:jK C.P e=some (n,by_,z)) (hx:Qm C ρ hp w px (a.eval x)) (pz:ju hp px=some (e',ys)) (h0:0<n) (j0:z.cells.length=n) (nr:e'=n∨ys=[])
  (hs:Qm C ρ hp w (.ms β m) (a.eval s)) (qm:xM C ρ hp w β fr aA) (hB:aO β=false) (aj:hp β=some hb) (mj:hb.fz=false) (hbe:hb.e=n) (fN:hb.ty=e) (uE:m<=hb.xs.length)
  (Jd:(m+ys.length)*by_<=140737488355328) (Bd:m+ys.length<=9223372036854775807)
  (hK:K (ab aA d (.ms β (m+ys.length))) (Qk hp β ⟨n,e,hb.xs.take m++ys,false⟩)):o.wp C.P a w (cw C false w K) Q:=by
 obtain⟨dv,g1,g2,g3⟩:=hs;rw[aj]at g1;cases g1;have pA:(hb.xs.take m).length=m:=by simp;omega
 rw[Ka5]at g2;rcases g3 with⟨g3,es,rfl,_⟩|⟨b,cap,g3,es,g5,g6⟩
 ·simp only[Ka5,Kb5,KaH]at hK Jd Bd;exact LU ho hd aq aU h hu hz hx pz h0 j0 nr es Jd Bd qm hB hK
 rw[KbG]at es;rw[Ka5]at g5 g6;obtain⟨ti,zv,i1,i2,i3,i4,i5⟩:=sm hz;obtain⟨ad,BL,ex,AQ⟩:=Hm h hx pz h0 nr;have bj:=h.own β hb aj;have aV:=bj.cB;rw[g3]at aV;obtain⟨b1,b2,cur,ew,c1,c2,c3,c4,c5⟩:=aV;replace b1:=Ctx.uj b1 hB;obtain⟨cur',ty',d1,d2⟩:=g5;rw[c1]at d1;cases d1;obtain rfl:ew=cap:=KbA bj.jU (by omega);subst fN;subst hbe;have AV:aE C ρ hp b:=.inr ⟨β,hb,aj,mj,g3⟩;have yu:∀(i:Nat)(x:PV),(hb.xs.take m++ys)[i]? =some x->(i<m/\hb.xs[i]? =some x)∨(m<=i/\ys[i-m]? =some x):=by
  intro i x aS;rw[Ka0,pA]at aS;by_cases hi:i<m
  ·rw[if_pos hi,KaF hi]at aS;exact .inl ⟨hi,aS⟩
  ·rw[if_neg hi]at aS;exact .inr ⟨by omega,aS⟩
 by_cases qA:ys=[]
 ·subst qA;have bS:=Nx (P:=C.P) (ty:=o.type) (ad:=ad) (c:=BL) hu i1 (base:=some ⟨b,0,none⟩) (n:=m) (cap:=ew) (by omega) w;have hr:=h.yL (w':=w) β (some b) ⟨hb.e,hb.ty,hb.xs.take m++[],false⟩ hB qm (Ext.refl _ _) (fun c hc=>by cases hc;exact⟨b1,b2,.inr ⟨g3,hb,aj,mj⟩⟩) bj.jU
   (fun i x aS=>by
    rcases yu i x aS with⟨_,hq⟩|⟨_,hq⟩
    ·exact bj.len i x hq
    ·simp at hq) (by simp)
   (fun c hc=>by
    cases hc;refine⟨cur,ew,c1,c2,by simp;omega,c4,fun i x aS j y hy=>?_⟩;rcases yu i x aS with⟨_,hq⟩|⟨_,hq⟩
    ·exact c5 i x hq j y hy
    ·simp at hq)
  refine iI (tv ho es ex bS) (cw.kS hd aq aU hr (by simp) ?_ hK);exact⟨⟨hb.e,hb.ty,hb.xs.take m++[],false⟩,by simp[Qk],by simp;omega,.inr ⟨b,ew,gw _ _ _,by simp,⟨cur,hb.ty,c1,by rw[Ka5];exact c2⟩,by omega⟩⟩
 obtain⟨sb,off,f,rfl,hf,bN⟩:=AQ qA;have qp:0<ys.length:=KcC.2 qA;have yv:∀(j:Nat)(v:Value),(fo f (ys.length*hb.e))[j]? =some v->w.cell? ((⟨sb,off,none⟩:Addr).add j)=some v:=fun j v hj=>by obtain⟨cg,rfl⟩:=y9 hj;rw[KbI];exact hf j cg
 have s9:∀u∈fo f (ys.length*hb.e),u.oneCell'=true:=by
  intro u mB;obtain⟨k,hk⟩:=KaB mB;obtain⟨cI,rfl⟩:=y9 hk;have hi:k/hb.e<ys.length:=(Kbd h0).2 cI;have hj:=Kbs k h0;obtain⟨l1,l2,l3⟩:=bN _ _ (Kag hi);have qo:k%hb.e<(ys[k/hb.e]'hi).cells.length:=by omega
  have:=l3 _ _ (Kag qo);rw[KaX,Kbi]at this;exact this.rT.1
 have mu:=wP f (ys.length*hb.e);have EY:m*hb.e+(fo f (ys.length*hb.e)).length=(m+ys.length)*hb.e:=by rw[mu,KaD]
 by_cases yA:m+ys.length<=ew
 ·have o9:m*hb.e+(fo f (ys.length*hb.e)).length<=cur.size:=by rw[EY,c2];exact Kam _ yA
  have bS:=run_append_room (P:=C.P) w t o.type hb.ty ti hu i1 b m ew cur c1 ⟨sb,off,none⟩ ys.length BL (fo f (ys.length*hb.e)) (by rw[mu,i3]) yv s9 yA (by rw[i3];exact o9);rw[i3]at bS;have kK:=y6 (cur:=cur) (p:=m*hb.e) (cs:=fo f (ys.length*hb.e)) o9;have iC:=fun k hk=>y5 (cur:=cur) (p:=m*hb.e) (cs:=fo f (ys.length*hb.e)) (k:=k) o9 hk;generalize hW:(cur.toList.take (m*hb.e)++fo f (ys.length*hb.e)++cur.toList.drop (m*hb.e+(fo f (ys.length*hb.e)).length)).toArray=W at bS kK iC;have hr:=h.yL (w':=w.setRow b W) β (some b) ⟨hb.e,hb.ty,hb.xs.take m++ys,false⟩ hB qm ((y8 w b W).mono (fun i _ hi=>⟨hi▸g3,hb,aj,mj⟩))
   (fun c hc=>by cases hc;exact⟨b1,by simpa using b2,.inr ⟨g3,hb,aj,mj⟩⟩) bj.jU
   (fun i x aS=>by
    rcases yu i x aS with⟨_,hq⟩|⟨_,hq⟩
    ·exact bj.len i x hq
    ·exact⟨(bN _ x hq).1,(bN _ x hq).2.1⟩) (by simp)
   (fun c hc=>by
    cases hc;refine⟨W,ew,setRow_heap w b cur W hb.ty _ c1,by rw[kK];exact c2,by simp;omega,c4,fun i x aS j y hy=>?_⟩;show Qp w _ y (Array.getD W (i*hb.e+j) undef);rcases yu i x aS with⟨hi,hq⟩|⟨hi,hq⟩
    ·have hj:j<hb.e:=by have:=(Kaf.1 hy).1;have:=(bj.len i x hq).1;omega
     have q1:=(u9 (n:=0) hi hj).1;have q2:m*hb.e<=ew*hb.e:=Kam _ (by omega);rw[iC _ (by omega),if_neg (by omega)];exact c5 i x hq j y hy
    ·have lC:i-m<ys.length:=(Kaf.1 hq).1;have hj:j<hb.e:=by have:=(Kaf.1 hy).1;have:=(bN _ x hq).1;omega
     obtain⟨q1,q2⟩:=u9 (n:=m) lC hj;rw[show m+(i-m)=i by omega]at q2;rw[iC _ (by omega),if_pos (by omega),q2,show m*hb.e+((i-m)*hb.e+j)-m*hb.e=(i-m)*hb.e+j by omega,CD q1];exact(bN _ x hq).2.2 j y hy)
  refine iI (tv ho es ex bS) (cw.kS hd aq aU hr (by simp) ?_ hK);exact⟨⟨hb.e,hb.ty,hb.xs.take m++ys,false⟩,by simp[Qk],by simp;omega,.inr ⟨b,ew,gw _ _ _,by simp,⟨W,hb.ty,setRow_heap w b cur W hb.ty _ c1,by rw[kK,Ka5];exact c2⟩,by omega⟩⟩
 ·have aqu:m*hb.e<=cur.size:=by rw[c2];exact Kam _ (by omega)
  have fw:(cur.toList.take (m*hb.e)).length=m*hb.e:=by simp;omega
  have holds:∀(j:Nat)(v:Value),(cur.toList.take (m*hb.e))[j]? =some v->w.cell? ((⟨b,0,none⟩:Addr).add j)=some v:=fun j v hj=>by
   have cg:j<m*hb.e:=by have:=(Kaf.1 hj).1;omega
   rw[KaF cg]at hj;rw[KbI,Ka5,kU c1 (by omega),Cz cur j v hj]
  have bS:=run_append_grow (P:=C.P) w t o.type hb.ty ti zv hu i1 i2 ⟨b,0,none⟩ m ew (cur.toList.take (m*hb.e)) (by rw[fw,i3]) holds ⟨sb,off,none⟩ ys.length BL (fo f (ys.length*hb.e)) (by rw[mu,i3]) yv
   (by omega) (by omega) (growslice_fits (by omega) (by rw[i4];exact Jd))
  have jm:=grownCap_ge w (m+ys.length) ew hb.ty;have mi:=grownCap_le_maxLen w (m+ys.length) ew hb.ty (by rw[lN];exact Bd);generalize grownCap w (m+ys.length) ew hb.ty=G at bS jm mi;have tl:zv.cells.size=hb.e:=by have:=(rX (w:=w) (X:=aE C ρ hp) i5).cells.1;omega
  have kH:((cur.toList.take (m*hb.e)).toArray++(fo f (ys.length*hb.e)).toArray++Builtin.zeroCells zv.cells (G-(m+ys.length))).size=G*hb.e:=by simp only[Kb6,KbN,fw,mu,size_zeroCells,tl,<-Nat.add_mul];congr 1;omega
  obtain⟨hr,jz⟩:=h.wJ β hB qm ⟨hb.e,hb.ty,hb.xs.take m++ys,false⟩ _ G _ (.inr rfl) kH (by simp;omega) mi bj.jU
   (fun i x aS=>by
    rcases yu i x aS with⟨_,hq⟩|⟨_,hq⟩
    ·exact bj.len i x hq
    ·exact⟨(bN _ x hq).1,(bN _ x hq).2.1⟩)
   (fun i x aS j y hy=>by
    show Qp w _ y (Array.getD _ (i*hb.e+j) undef);rcases yu i x aS with⟨hi,hq⟩|⟨hi,hq⟩
    ·have hj:j<hb.e:=by have:=(Kaf.1 hy).1;have:=(bj.len i x hq).1;omega
     have q1:=(u9 (n:=0) hi hj).1;rw[ko,if_pos (by simp only[Kb6,KbN,fw];omega),ko,if_pos (by simp only[KbN,fw];omega),uZ,
      Kad,KaF q1]
     have:=c5 i x hq j y hy;simpa[KaL]using this
    ·have lC:i-m<ys.length:=(Kaf.1 hq).1;have hj:j<hb.e:=by have:=(Kaf.1 hy).1;have:=(bN _ x hq).1;omega
     obtain⟨q1,q2⟩:=u9 (n:=m) lC hj;rw[show m+(i-m)=i by omega]at q2;rw[q2,ko,if_pos (by simp only[Kb6,KbN,fw,mu];omega),ko,if_neg (by simp only[KbN,fw];omega),uZ];simp only[KbN,fw];rw[show m*hb.e+((i-m)*hb.e+j)-m*hb.e=(i-m)*hb.e+j by omega,CD q1];exact(bN _ x hq).2.2 j y hy)
  refine iI (tv ho es ex bS) (cw.kS hd aq aU hr (by simp) ?_ hK);exact⟨⟨hb.e,hb.ty,hb.xs.take m++ys,false⟩,by simp[Qk],by simp;omega,.inr ⟨w.heap.size,G,gw _ _ _,by simp,⟨_,hb.ty,mK w.drew _,by rw[Ka5];exact kH⟩,by omega⟩⟩
theorem Xj{o:Oper}{s x:Operand}{t e:TypeId}{n by_:Nat}{z:PV}{ps px:PV}{d:Nat}{Q:Exit->Act->World->Prop}
  (ho:o.op= .call { callee:=.builtin .append,args:= #[s,x],argTypes:= #[t,t] }) (hd:o.dst=some d) (aq:d<C.N) (aU:a.defers=[]) (h:Qr C ρ fr hp a.tmps w)
  (hu:C.P.underlying t=some (.slice e)) (hz:jK C.P e=some (n,by_,z)) (j0:z.cells.length=n) (hs:Qm C ρ hp w ps (a.eval s)) (hx:Qm C ρ hp w px (a.eval x))
  (aoi:ju hp px=none->xK n by_ e ps px d fr hp K->o.wp C.P a w (cw C false w K) Q) (hv:iL n by_ e ps px d fr hp K):o.wp C.P a w (cw C false w K) Q:=by
 unfold iL at hv;split at hv
 ·exact aoi (by assumption) hv
 ·rename_i e' ys pz;obtain⟨h0,nr,hv⟩:=hv;cases ps with
  |aa=>obtain⟨k1,k2,hK⟩:=hv;exact LU (β:=d) ho hd aq aU h hu hz hx pz h0 j0 nr hs.wK k1 k2 (C7 (xN aq)) (xv (xN aq)) hK
  | aw β o' m=>
   cases o' with
   |succ o'=>exact hv.elim
   |zero=>
   simp only at hv;split at hv
   ·rename_i hb aj;rcases hv with⟨k0,k1,k2,k3,k4,k5,k6,hK⟩|⟨k0,kY,⟨_,k1,k2,k3,k4,k5,k6⟩,hK⟩
    ·exact LV ho hd aq aU h hu hz hx pz h0 j0 nr hs (C7 k0) (xv k0) aj k1 k2 k3 k4 k5 k6 hK
    ·exact LV ho hd aq aU h hu hz hx pz h0 j0 nr hs wZ kY aj k1 k2 k3 k4 k5 k6 hK
   ·exact hv.elim
  |_=>exact hv.elim
theorem Qzx{P:Program}{t ty e:TypeId}{n:Nat}(ht:P.underlying t=some (.slice e))(hn:dR P e=some n){base ad:Option Addr}{dl dc sl sc:Nat}(hz:Nat.min sl dl=0)(w:World):
  (Builtin.copy_ #[t,t] ty #[.slice base dl dc,.slice ad sl sc]).run P w= .ok (goInt 0) w:=by
 have hs:=kW hn;cases ad<;>cases base<;>simp[Builtin.copy_,run_underlying ht,hs,Builtin.lenOf,Builtin.firstCells,hz,storeCells,loadCells,loadCellsFrom]
theorem Ob{P:Program}{o:Oper}{s x:Operand}{t:TypeId}(ho:o.op= .call { callee:=.builtin .copy,args:= #[s,x],argTypes:= #[t,t] }){vs vx v:Value}{w w':World}(es:a.eval s=vs)(ex:a.eval x=vx)
  (hr:(Builtin.copy_ #[t,t] o.type #[vs,vx]).run P w= .ok v w'):(execOp a.eval o).run P w= .ok (.value v) w':=by
 unfold execOp;simp only[ho,resolve,Kan,KaU,Kak,invoke,builtin];simp[es,ex,hr]
theorem Qzy{P:Program}(w:World)(t ty elem:TypeId)(g o IL amJ n:Nat)(a:Addr)(Kt apw:Nat)(cur:Array Value)(ty':TypeId)(cs:List Value)
  (hu:P.underlying t=some (.slice elem)) (hs:dR P elem=some n)
  (hg:w.heap[g]? =some (.cells cur ty' (0,0))) (hn:cs.length=Nat.min Kt IL*n)
  (pz:∀j v,cs[j]? =some v->w.cell? (a.add j)=some v) (o9:o+cs.length<=cur.size) (h1:∀v∈cs,v.oneCell'=true):
  (Builtin.copy_ #[t,t] ty #[.slice (some ⟨g,o,none⟩) IL amJ,.slice (some a) Kt apw]).run P w=
   .ok (goInt (Nat.min Kt IL)) (w.setRow g (cur.toList.take o++cs++cur.toList.drop (o+cs.length)).toArray):=by
 have hl:=run_loadCells_list (P:=P) w a cs pz;have aH:=run_storeCells_at P g o ty' cs 0 cur w hg (by simpa using o9) h1;have hz:=kW hs;simp[Builtin.copy_,run_underlying hu,hz,Builtin.lenOf,Builtin.firstCells,<-hn,hl,aH]
theorem Xk{o:Oper}{s x:Operand}{t e:TypeId}{n:Nat}{ps px:PV}{d:Nat}{Q:Exit->Act->World->Prop}
  (ho:o.op= .call { callee:=.builtin .copy,args:= #[s,x],argTypes:= #[t,t] }) (hd:o.dst=some d) (aq:d<C.N) (aU:a.defers=[]) (h:Qr C ρ fr hp a.tmps w)
  (hu:C.P.underlying t=some (.slice e)) (hn:dR C.P e=some n) (hs:Qm C ρ hp w ps (a.eval s)) (hx:Qm C ρ hp w px (a.eval x))
  (hv:tW n ps px d fr hp K):o.wp C.P a w (cw C false w K) Q:=by
 unfold tW at hv;split at hv
 ·rename_i e' ys β m pz;split at hv
  ·rename_i hb aj;obtain⟨k0,k1,k2,k3,k4,hK⟩:=hv;obtain⟨dv,g1,g2,g3⟩:=hs;rw[aj]at g1;cases g1;obtain⟨ad,BL,ex,AQ⟩:=Hm (e:=n) h hx pz k0 k3;have bj:=h.own β hb aj;have zero:Nat.min ys.length m=0->o.wp C.P a w (cw C false w K) Q:=by
    intro h0;have bS:∀base cap,a.eval s= .slice base m cap->(execOp a.eval o).run C.P w= .ok (.value (goInt 0)) w:=fun base cap es=>
     Ob ho es ex (Qzx (P:=C.P) (ty:=o.type) hu hn h0 w)
    have e2:({ hb with xs:=ys.take m++hb.xs.drop ys.length }:HB)=hb:=by
     have:ys.take m++hb.xs.drop ys.length=hb.xs:=by
      rcases Nat.min_eq_zero_iff.1 h0 with hq|hq
      ·have:ys=[]:=Kb2 hq;subst this;simp
      ·have:hb.xs=[]:=Kb2 (by omega);subst hq;simp[this]
     rw[this]
    have e3:Qk hp β hb=hp:=by
     funext γ;unfold Qk;split
     ·rename_i he;rw[he,aj]
     ·rfl
    rw[e2,e3,show(min (ys.length:Int) (m:Int))=0 by have:min ys.length m=0:=h0;omega]at hK;obtain⟨ad',ew,es⟩:=Qm.Kk (C:=C) (ρ:=ρ) (hp:=hp) (w:=w) ⟨hb,aj,g2,g3⟩;exact iI (bS _ _ es) (cw.kS hd aq aU h (by simp) (Qm.mkInt _ _) hK)
   by_cases Be:Nat.min ys.length m=0
   ·exact zero Be
   rcases g3 with⟨g3,es,wc,_⟩|⟨b,cap,g3,es,g5,g6⟩
   ·exact(Be (by rw[wc];simp)).elim
   rw[KbG]at es;have qA:ys≠[]:=by rintro rfl;exact Be (by simp)
   obtain⟨sb,off,f,rfl,hf,bN⟩:=AQ qA;have aV:=bj.cB;rw[g3]at aV;obtain⟨b1,b2,cur,ew,c1,c2,c3,c4,c5⟩:=aV;obtain⟨k,hk⟩:∃k,k=min ys.length m:=⟨_,rfl⟩
   have mu:=wP f (k*n);have v9:k*n<=ys.length*n:=Kam _ (by omega);have s9:∀u∈fo f (k*n),u.oneCell'=true:=by
    intro u mB;obtain⟨q,hq⟩:=KaB mB;obtain⟨jA,rfl⟩:=y9 hq;have hi:q/n<ys.length:=(Kbd k0).2 (by omega);have hj:=Kbs q k0;obtain⟨l1,l2,l3⟩:=bN _ _ (Kag hi);have qo:q%n<(ys[q/n]'hi).cells.length:=by omega
    have:=l3 _ _ (Kag qo);rw[KaX,Kbi]at this;exact this.rT.1
   have hkc:k*n<=ew*n:=Kam _ (by omega);have o9:0+(fo f (k*n)).length<=cur.size:=by rw[mu,c2,k2];omega
   have bS:=Qzy (P:=C.P) w t o.type e b 0 m cap n ⟨sb,off,none⟩ ys.length BL cur hb.ty (fo f (k*n)) hu hn c1 (by rw[mu,hk])
    (fun j v hj=>by obtain⟨cg,rfl⟩:=y9 hj;rw[KbI];exact hf j (by omega)) o9 s9
   have kK:=y6 (cur:=cur) (p:=0) (cs:=fo f (k*n)) o9;have iC:=fun q hq=>y5 (cur:=cur) (p:=0) (cs:=fo f (k*n)) (k:=q) o9 hq;generalize hW:(cur.toList.take 0++fo f (k*n)++cur.toList.drop (0+(fo f (k*n)).length)).toArray=W at bS kK iC;have eC:(ys.take m++hb.xs.drop ys.length).length=hb.xs.length:=by simp;omega
   have ez:∀(i:Nat)(x:PV),(ys.take m++hb.xs.drop ys.length)[i]? =some x->(i<k/\ys[i]? =some x)∨(k<=i/\hb.xs[i]? =some x):=by
    intro i x aS;rw[Ka0]at aS;have ht:(ys.take m).length=k:=by simp;omega
    rw[ht]at aS;by_cases hi:i<k
    ·rw[if_pos hi,KaF (by omega)]at aS;exact .inl ⟨hi,aS⟩
    ·rw[if_neg hi,Ka2]at aS;refine .inr ⟨by omega,?_⟩;have fO:ys.length+(i-k)<hb.xs.length:=(Kaf.1 aS).1
     rwa[show ys.length+(i-k)=i by omega]at aS
   have aH:=h.store β b hb { hb with xs:=ys.take m++hb.xs.drop ys.length } aj k1 (by intro e;rw[e]at k4;simp at k4;exact Be (by simp[k4])) g3 (y8 w b W) rfl eC k1
    (fun i x aS=>by
     rcases ez i x aS with⟨_,hq⟩|⟨_,hq⟩
     ·exact⟨by rw[(bN _ x hq).1];exact k2.symm,(bN _ x hq).2.1⟩
     ·exact bj.len i x hq)
    (fun e' AA dw=>by obtain⟨cur',ty',d1,d2⟩:=dw;rw[c1]at d1;cases d1;exact⟨_,_,setRow_heap w b cur _ hb.ty _ c1,by rw[kK];exact d2⟩)
    ⟨W,ew,setRow_heap w b cur W hb.ty _ c1,by rw[kK];exact c2,by rw[eC];exact c3,c4,fun i x aS j y hy=>by
     show Qp w _ y (Array.getD W (i*hb.e+j) undef);rcases ez i x aS with⟨hi,hq⟩|⟨hi,hq⟩
     ·have hj:j<n:=by have:=(Kaf.1 hy).1;have:=(bN _ x hq).1;omega
      have q1:=(u9 (n:=0) hi hj).1;rw[k2,iC _ (by rw[c2,k2];omega),if_pos (by omega),Kca,CD q1];exact(bN _ x hq).2.2 j y hy
     ·have fO:i<hb.xs.length:=(Kaf.1 hq).1;have hj:j<hb.e:=by have:=(Kaf.1 hy).1;have:=(bj.len i x hq).1;omega
      have:=c5 i x hq j y hy;have q2:k*n<=i*n:=Kam _ hi;have q3:=(u9 (n:=0) (show i<ew by omega) (show j<n by omega)).1;rw[iC _ (by rw[c2,k2];omega),if_neg (by rw[k2];omega)];exact this⟩
   rw[show(min (ys.length:Int) (m:Int))=((Nat.min ys.length m:Nat):Int)by have:Nat.min ys.length m=min ys.length m:=rfl;omega]at hK;exact iI (Ob ho es ex bS) (cw.kS hd aq aU aH (by simp) (Qm.mkInt _ _) hK)
  ·exact hv.elim
 ·exact hv.elim
theorem VH{o:Oper}{t:TypeId}{parts:Array (Nat×Operand)}{z:PV}{n by_:Nat}{ps:List (Nat×Nat×aJ)}{d:Nat}(ho:o.op= .build t parts)(hd:o.dst=some d)(aq:d<C.N)(h:Qr C ρ fr hp a.tmps w)
  (hz:jK C.P t=some (n,by_,z)) (fD:z6 C.P t parts.toList=some ps)
  (hv:tI z.cells.length (ps.map fun p=>(p.1,p.2.1,ev fr p.2.2))/\K (ab fr d (.aM (gL z.cells ((ps.map fun p=>(p.1,p.2.1,ev fr p.2.2)).map fun p=>(p.1,(eT p.2.2).getD []))))) hp):Qv C ρ o a w K:=by
 obtain⟨aL,hK⟩:=hv;obtain⟨ti,zv,i1,i2,i3,i4,i5⟩:=sm hz;have J8:pR (cx C ρ hp w) z.cells zv.cells:=by have h0:Rows w (aE C ρ hp) z.cells zv.cells:=(rX i5).rows;exact⟨h0.1,fun i x hx=>cx.TA (h0.2 i x hx)⟩
 have lz:(parts.map fun(x:Nat×Operand)=>(x.1,a.eval x.2)).toList=parts.toList.map fun x=>(x.1,a.eval x.2):=by simp
 have key:∀(f:Nat×Operand->Option (Nat×Nat×aJ))(place:Nat->Option (Nat×Nat)),parts.toList.mapM f=some ps->(∀x q,f x=some q->place x.1=some (q.1,q.2.1)/\bJ x.2=some q.2.2)->
   ∃dF,Instr.fill place zv.cells (parts.map fun(x:Nat×Operand)=>(x.1,a.eval x.2)).toList=some dF/\
    pR (cx C ρ hp w) (gL z.cells ((ps.map fun p=>(p.1,p.2.1,ev fr p.2.2)).map fun p=>(p.1,(eT p.2.2).getD []))) dF:=by
  intro f place hm hf;rw[lz];refine CL place _ _ _ _ J8 (by simp[(lM hm).1]) (fun i p q yx uH=>?_);simp only[List.map_map,Kas,Kaa]at uH;obtain⟨q0,kJ,rfl⟩:=uH;obtain⟨x,hx,oh,rfl⟩:=Pw hm yx kJ;obtain⟨f1,f2⟩:=hf x q0 oh;obtain⟨cs,o1,o2,o3⟩:=aL (q0.1,q0.2.1,ev fr q0.2.2) (KaE.2 ⟨q0,Kaj kJ,rfl⟩);simp only[Function.comp]at o1 o2 o3⊢;simp only[o1,Kba];obtain⟨r1,r2,_⟩:=LS (ch h f2) o1;exact⟨by rw[o2];exact f1,⟨r1,r2⟩,by rw[o2];exact o3⟩
 have fin:∀dF,(∀w',(Instr.build t (parts.map fun(x:Nat×Operand)=>(x.1,a.eval x.2))).run C.P w'= .ok (.agg dF) w')->
   pR (cx C ρ hp w) (gL z.cells ((ps.map fun p=>(p.1,p.2.1,ev fr p.2.2)).map fun p=>(p.1,(eT p.2.2).getD []))) dF->Qv C ρ o a w K:=by
  intro dF bS hr;refine⟨.agg dF,fun w'=>?_,_,_,by rw[hd];exact h.ab (p:=.aM _) ⟨dF,rfl,hr.1,hr.2⟩ aq,hK⟩;unfold execOp;simp only[ho,Kan];have:=bS w';rw[show(parts.map fun(x:Nat×Operand)=>(x.1,a.eval x.2))=(parts.map fun x=>match x with|(i,x)=>(i,a.eval x))from rfl]at this;rw[this];rfl
 unfold z6 at fD;split at fD
 ·rename_i fs hu;simp only[Kab]at fD;obtain⟨pl,cQ,hm⟩:=fD;obtain⟨dF,g1,g2⟩:=key _ (fun i=>pl[i]?) hm (fun x q hq=>by simp only[Kab,Kaa]at hq;obtain⟨r,hr,y,hy,rfl⟩:=hq;exact⟨by simpa using hr,hy⟩);refine fin dF (fun w'=>?_) g2;unfold Instr.build;have fy:=run_places (P:=C.P) w' fs.toList pl cQ;simp[Kan,uW i1 i2,Q9 hu,Kbr,fy]at g1⊢;simp[g1]
 ·rename_i len e hu;simp only[Kab]at fD;obtain⟨m,wc,hm⟩:=fD;obtain⟨dF,g1,g2⟩:=key _ (fun i=>some (i*m,m)) hm (fun x q hq=>by simp only[Kaa]at hq;obtain⟨y,hy,rfl⟩:=hq;exact⟨rfl,hy⟩);refine fin dF (fun w'=>?_) g2;unfold Instr.build;simp only[Kan,uW i1 i2,Q9 hu,kW wc,Kak,g1,KaU]
 ·simp at fD
end Go.FW
namespace Go.FW
open Go
variable {C : Ctx} {ρ : Nat -> Option Nat} {fr : Fr} {hp : HP} {tmps : Array Value} {w : World} {a : Act} {K : Qi}
theorem G4{x:PV}(h:lR x=true):∃β n,x= .aw β 0 n/\5000000<=β:=by
 unfold lR at h;split at h
 ·exact⟨_,_,rfl,by simpa using h⟩
 ·cases h
theorem Px{γ:Nat}:iJ γ (ff γ fr)=ff γ fr:=by
 funext i;unfold iJ ff;generalize fr i=p;cases p with
 |aF aZ e ty xs=>
  simp only[cS];split
  ·rfl
  ·rename_i aQ;simp[iX,aQ]
 |aG aZ o n=>simp only[cS];split<;>rfl
 |np aZ o n=>simp only[cS];split<;>rfl
 |fn f first cap=>
  simp only[cS];split
  ·rfl
  ·unfold bx;split<;>rfl
 |aM cs=>rfl
 |dZ cs=>rfl
 |cP cs q=>rfl
 |_=>simp only[cS,bx];split<;>rfl
theorem xe{γ β o n:Nat}{b':Option Nat}{au:HB}{w':World}{v:Value}(h:Qr C ρ fr hp tmps w)(hx:Ext (fun b=>ρ γ=some b/\∃hb,hp γ=some hb/\hb.fz=false) w w')(aQ:β≠γ)
  (hr:et ρ hp w β o n v):et (rb ρ γ b') (Qk hp γ au) w' β o n v:=
 et.move hr ⟨oT aQ,fun hb aj=>⟨hb,by simp[Qk,aQ,aj],rfl,Kae _,fun b cap h1 h2=>
  kV (hx.block b (lf h2) (fun⟨e1,jj,e2,_⟩=>aQ (h.inj β γ b (by simp[aj]) (by simp[e2]) h1 e1))) h2⟩⟩
theorem et.slice{β o n:Nat}{v:Value}(h:et ρ hp w β o n v):∃ad m c,v= .slice ad m c:=by
 obtain⟨_,_,_,⟨_,e,_⟩|⟨_,_,_,e,_⟩⟩:=h
 ·exact⟨_,_,_,e⟩
 ·exact⟨_,_,_,e⟩
theorem DS{β:Nat}(h:1000000<=β):bC β=true:=by simp[bC];omega
theorem HY{β:Nat}(h:2000000<=β):aO β=false:=by simp[aO];omega
theorem Qr.FD{γ b ty cap:Nat}{cur:Array Value}{xs:List PV}(h:Qr C ρ (ff γ fr) hp tmps w)(hB:bC γ=true)(ah:hp γ=some ⟨1,ty,[],false⟩)(bl:ρ γ=some b)
  (h1:w.heap[b]? =some (.cells cur ty (0,0))) (h2:cur.size=cap) (h3:xs.length<=cap) (h4:cap<=maxLen) (hr:xs.all lR=true)
  (h6:∀(i β n:Nat),xs[i]? =some (.aw β 0 n)->et ρ hp w β 0 n (cur.getD i undef)):Qr C ρ (FW.ab (ff γ fr) γ (.aF γ 1 ty xs)) hp tmps w:=by
 have rN:∀(i:Nat)(x:PV),xs[i]? =some x->∃β n,x= .aw β 0 n/\5000000<=β:=fun i x hx=>G4 (Kap.1 hr _ (Kaj hx));have:=h.Kl (w':=w) (γ:=γ) (b:=b) (e:=1) (ty:=ty) (xs':=xs) (cur':=cur) (cap:=cap) hB (by omega) ah rfl rfl rfl rfl bl (Ext.refl _ _) (fun _ _ h=>h) h1 (by omega) h3 h4
  (fun i x hx=>by obtain⟨β,n,rfl,_⟩:=rN i x hx;rfl)
  (fun i x hx j y hy=>by
   obtain⟨β,n,rfl,aj⟩:=rN i x hx;rw[show(PV.aw β 0 n).aW=[.aw β 0 n]from rfl]at hy;have hj:j<1:=by have:=(Kaf.1 hy).1;simpa using this
   obtain rfl:j=0:=by omega
   simp at hy;subst hy;rw[KbV,KaM];exact⟨DS (by omega),h6 i β n hx⟩)
 rwa[Px]at this
theorem DT{γ k cap:Nat}{ρ':Nat->Option Nat}{hp':HP}{b ty:Nat}{cur:Array Value}(hB:bC γ=true)(h1:hp' γ=some ⟨1,ty,[],false⟩)(h2:ρ' γ=some b)(h3:w.heap[b]? =some (.cells cur ty (0,0)))(h4:cur.size=cap)(h5:cap<=maxLen)(h6:k<=cap):
  Qm C ρ' hp' w (.aG γ 0 k) (.slice (some ⟨b,0,none⟩) k cap):=
 ⟨hB,⟨1,ty,[],false⟩,b,cap,h1,h2,by simp,⟨cur,ty,h3,by simp[h4]⟩,by omega,h6⟩
theorem Xl{o:Oper}{t e:TypeId}{len n by_:Nat}{z:PV}{parts:Array (Nat×Operand)}{ps:List aJ}{d:Nat}{Q:Exit->Act->World->Prop}(ho:o.op= .buildSlice t len parts)(hd:o.dst=some d)(aq:d<C.N)(aU:a.defers=[])(h:Qr C ρ fr hp a.tmps w)
  (hu:C.P.underlying t=some (.slice e)) (hz:jK C.P e=some (n,by_,z)) (td:parts.toList.map (·.1)=List.range len) (j0:z.cells.length=n) (fD:(parts.toList.mapM fun p=>bJ p.2)=some ps)
  (mh:mY (ps.map (ev fr))=true) (hv:Rg n e (ps.map (ev fr)) d fr hp K):o.wp C.P a w (cw C true w K) Q:=by
 obtain⟨rfl,hK⟩:=hv;obtain⟨ti,zv,i1,i2,i3,i4,i5⟩:=sm hz;obtain⟨m1,m2⟩:=lM fD;obtain⟨u,rfl⟩:∃u,ps=[u]:=by
  match ps,mh with
  | [],hb=>simp[mY]at hb
  | [u],_=>exact⟨u,rfl⟩
  |u::v::ps,hb=>simp[mY]at hb
 have rN:lR (ev fr u)=true:=by simpa[mY]using mh
 obtain⟨β,m,lz,aj⟩:=G4 rN;obtain⟨⟨i,x⟩,wm⟩:∃p,parts.toList=[p]:=by
  match hq:parts.toList with
  | []=>rw[hq]at m1;simp at m1
  | [p]=>exact⟨p,rfl⟩
  |p::q::r=>rw[hq]at m1;simp at m1
 rw[wm]at td m2;obtain rfl:len=1:=by have:=congrArg List.length td;simpa using this.symm
 obtain rfl:i=0:=by simpa using td
 have hxu:bJ x=some u:=by obtain⟨x',aS,JH⟩:=m2 0 u rfl;simp at aS;subst aS;exact JH
 have hx:=ch h hxu;rw[lz]at hx;have uI:et ρ hp w β 0 m (a.eval x):=hx;obtain⟨ad,m',c',hvx⟩:=uI.slice;have hN:=C.hN;have qk:cR d<5000000:=by unfold cR;omega
 have hB:bC (cR d)=true:=DS (by unfold cR;omega);have hY:aO (cR d)=false:=HY (by unfold cR;omega);obtain⟨hs,he⟩:=h.wJ (cR d) hY wZ ⟨1,e,[],false⟩ #[a.eval x] 1 _ (.inl rfl) (by simp) (by simp) (by rw[lN];omega) (by simp) (by simp) (by simp);have dA:=hs.FD (cur:= #[a.eval x]) (cap:=1) (xs:=[.aw β 0 m]) hB (by simp[Qk]) (gw _ _ _) (mK w _) (by simp) (by simp) (by rw[lN];omega) (by simp[lR,aj]) (fun i bB n' hi=>by
  match i,hi with
  |0,hi=>simp at hi;obtain⟨rfl,rfl⟩:=hi;exact xe h (Ext.alloc w _ _) (by omega) uI
  |i+1,hi=>simp at hi)
 rw[Kbk,Kby,lz]at hK;refine iI (v:=.slice (some ⟨w.heap.size,0,none⟩) 1 1) ?_ (cw.kS hd aq aU dA (fun _=>he) (DT hB (by simp[Qk]) (gw _ _ _) (mK w _) (by simp) (by rw[lN];omega) (by omega)) hK);unfold execOp;have JM:(parts.map fun x=>match x with|(i,x)=>(i,a.eval x)).toList=[(0,a.eval x)]:=by simp[wm]
 simp only[ho,Instr.buildSlice,Kan,Q9 hu,Kak,kW (show dR C.P e=some 1 by simp[dR,i1,i3]),JM];simp[KaU,Kan,uW i1 i2,Instr.fill,hvx,Value.cells,newRow,show Array.range 1= #[0]from rfl]
theorem VI{o:Oper}{t:TypeId}{n:Nat}{x:Operand}{cs:List PV}{d:Nat}{Q:Exit->Act->World->Prop}(ho:o.op= .box t x)(hd:o.dst=some d)(aq:d<C.N)(aU:a.defers=[])(h:Qr C ρ fr hp a.tmps w)
  (hx:Qm C ρ hp w (.aM cs) (a.eval x)) (hv:tV n t cs d fr hp K):o.wp C.P a w (cw C true w K) Q:=by
 obtain⟨⟨hlen,hn,hU,oq⟩,hK⟩:=hv;obtain⟨vs,ex,eH,kH⟩:=hx;have hN:=C.hN;have hB:bC (cR d)=true:=DS (by unfold cR;omega);have hY:aO (cR d)=false:=HY (by unfold cR;omega);obtain⟨hs,he⟩:=h.wJ (cR d) hY wZ ⟨n,t,[],false⟩ vs 1 _ (.inl rfl) (by simp;omega) (by simp) (by rw[lN];omega) hn (by simp) (by simp);have ba:∀(i:Nat)(y:PV),cs[i]? =some y->cx C (rb ρ (cR d) (some w.heap.size)) (Qk hp (cR d) ⟨n,t,[],false⟩) (w.alloc (.cells vs t)) y (vs.getD i undef):=fun i y hi=>by
  have hm:=Kaj hi;have SK:∀β∈y.dj,β≠cR d:=fun β aj e=>by have:=Kap.1 oq y hm;subst e;simp[aj]at this
  refine(kH i y hi).move ⟨fun b hb _=>CA w _ b hb,fun b hb hX=>?_,by rw[CC];omega⟩ (fun β aj=>⟨oT (SK β aj),fun hb hh=>⟨hb,by simp[Qk,SK β aj,hh],rfl,Kae _,fun b cap _ hc=>kV (CA w _ b (lf hc)) hc⟩⟩);rintro(bX|⟨γ,hg,h1,h2,h3⟩)
  ·exact hX (.inl bX)
  ·by_cases ah:γ=cR d
   ·subst ah;rw[gw]at h3;cases h3;omega
   ·refine hX (.inr ⟨γ,hg,?_,h2,by rwa[oT ah]at h3⟩);simpa[Qk,ah]using h1
 have:=hs.Kl (w':=w.alloc (.cells vs t)) (γ:=cR d) (b:=w.heap.size) (e:=n) (ty:=t) (xs':=[.aM cs]) (cur':=vs) (cap:=1) hB hn (show Qk hp (cR d) ⟨n,t,[],false⟩ (cR d)=some ⟨n,t,[],false⟩by simp[Qk]) rfl rfl rfl rfl (gw _ _ _) (Ext.refl _ _) (fun _ _ h=>h) (mK w _) (by omega) (by simp) (by rw[lN];omega)
  (fun i x hx=>by
   match i,hx with
   |0,hx=>simp at hx;subst hx;exact hlen
   |i+1,hx=>simp at hx)
  (fun i x hx j y hy=>by
   match i,hx with
   |0,hx=>simp at hx;subst hx;rw[KbG,Ka5];exact ba j y hy
   |i+1,hx=>simp at hx)
 rw[Px]at this;refine iI (v:=.pointer (some ⟨w.heap.size,0,none⟩)) (w':=w.alloc (.cells vs t)) ?_ (cw.kS (p:=.np (cR d) 0 0) hd aq aU this (fun _=>he) ⟨hB,w.heap.size,⟨n,t,[],false⟩,gw _ _ _,by simp[Qk],by simp⟩ hK);unfold execOp;simp only[ho,Instr.box,newVar,newRow,ex,Value.cells];simp
theorem VJ{o:Oper}{t:TypeId}{n:Nat}{x:Operand}{px:PV}{d:Nat}{Q:Exit->Act->World->Prop}(ho:o.op= .box t x)(hd:o.dst=some d)(aq:d<C.N)(aU:a.defers=[])(h:Qr C ρ fr hp a.tmps w)
  (hx:Qm C ρ hp w px (a.eval x)) (hv:eU n t px d fr hp K):o.wp C.P a w (cw C true w K) Q:=
 Xh ho hd aq aU h hx (fun _ e hb=>VI ho hd aq aU h (e▸hx) hb) hv
theorem VK {o:Oper} {s x:Operand} {t e:TypeId} {n by_:Nat} {z:PV} {ps px:PV} {d:Nat} {Q:Exit->Act->World->Prop}
  (ho:o.op= .call { callee:=.builtin .append,args:= #[s,x],argTypes:= #[t,t] }) (hd:o.dst=some d) (aq:d<C.N) (aU:a.defers=[]) (h:Qr C ρ fr hp a.tmps w)
  (hu:C.P.underlying t=some (.slice e)) (hz:jK C.P e=some (n,by_,z)) (j0:z.cells.length=n) (hs:Qm C ρ hp w ps (a.eval s)) (hx:Qm C ρ hp w px (a.eval x))
  (hv:xK n by_ e ps px d fr hp K):o.wp C.P a w (cw C false w K) Q:=by
 obtain⟨ti,zv,i1,i2,i3,i4,i5⟩:=sm hz;have hN:=C.hN;have qk:cR d<5000000:=by unfold cR;omega
 have RK:bC (cR d)=true:=DS (by unfold cR;omega);have hYd:aO (cR d)=false:=HY (by unfold cR;omega);unfold xK at hv;split at hv
 ·rename_i δ;split at hv
  ·rename_i KA ty' y anS;obtain⟨rfl,hyr,rfl,hv⟩:=hv;obtain⟨β,m,rfl,aj⟩:=G4 hyr;obtain⟨_,aqc,b,cap,gδ,rδ,ex,_,_,_⟩:=hx;have AT:=h.cE KA;rw[anS]at AT;obtain⟨_,_,b2,dv,cur,AA,q1,q2,q3,q4,q5,q6,q7,q8,q9,_,tr⟩:=AT;rw[gδ]at q2;cases q2;rw[rδ]at q1;cases q1;rw[KbG]at ex;have cN:=tr 0 _ rfl 0 (.aw β 0 m) rfl;simp only[KbG,Ka5]at cN;have uI:et ρ hp w β 0 m (cur.getD 0 undef):=cN.2;obtain⟨ad,m',c',EM⟩:=uI.slice;have h0s:0<cur.size:=by simp at q8;omega
   have qj:w.cell? ⟨b,0,none⟩=some (cur.getD 0 undef):=kU q6 h0s;obtain⟨u,hu0⟩:∃u,cur.getD 0 undef=u:=⟨_,rfl⟩
   rw[hu0]at uI EM qj;have yv:∀(j:Nat)(v:Value),[u][j]? =some v->w.cell? ((⟨b,0,none⟩:Addr).add j)=some v:=fun j v hj=>by
    have hj0:j<1:=by have:=(Kaf.1 hj).1;simpa using this
    obtain rfl:j=0:=by omega
    simp at hj;subst hj;rw[KbI,KaM];exact qj
   have tl:zv.cells.size=1:=by have:=(rX (w:=w) (X:=aE C ρ hp) i5).cells.1;omega
   split at hv
   ·obtain⟨hb,hK⟩:=hv;have es:=hs.wK;have bS:=run_append_nil (P:=C.P) w t o.type e ti zv hu i1 i2 ⟨b,0,none⟩ 1 cap [u] (by simp[i3]) yv (by omega) (by omega) (by rw[i4];omega);have jm:=grownCap_ge w 1 0 e;have mi:=grownCap_le_maxLen w 1 0 e (by rw[lN];omega);generalize grownCap w 1 0 e=G at bS jm mi;have kH:([u].toArray++Builtin.zeroCells zv.cells (G-1)).size=G:=by simp[size_zeroCells,tl];omega
    have anw:([u].toArray++Builtin.zeroCells zv.cells (G-1)).size=G*1:=by omega
    have lA:([u].toArray++Builtin.zeroCells zv.cells (G-1)).getD 0 undef=u:=by rw[ko,if_pos (by simp),uZ];rfl
    obtain⟨fi,_⟩:=h.wJ (cR d) hYd wZ ⟨1,e,[],false⟩ ([u].toArray++Builtin.zeroCells zv.cells (G-1)) G _ (.inr rfl) anw (by simp) mi (by simp) (by simp) (by simp);have dA:=fi.FD (cap:=G) (xs:=[.aw β 0 m]) RK (by simp[Qk]) (gw _ _ _) (mK w.drew _) kH (by simpa using jm) mi (by simp[lR,aj]) (fun i bB n' hi=>by
     match i,hi with
     |0,hi=>simp at hi;obtain⟨rfl,rfl⟩:=hi;rw[lA];exact xe h ((Ext.drew w _).trans (Ext.alloc w.drew _ _)) (by omega) uI
     |i+1,hi=>simp at hi)
    exact iI (tv ho es ex bS) (cw.kS hd aq aU dA (by simp) (DT RK (by simp[Qk]) (gw _ _ _) (mK w.drew _) kH mi jm) hK)
   ·rename_i γ k;split at hv
    ·rename_i aZ oE xs anR;obtain⟨⟨rfl,aqR,hY,rfl,rfl,yC,hby,Bd⟩,⟨hb,ah,mj⟩,hK⟩:=hv;obtain⟨hB,sU,b1,Ej,g1,g2,es,g4,g5,g6⟩:=hs;rw[ah]at g1;cases g1;have AT:=h.cE aZ;rw[anR]at AT;obtain⟨_,_,b1',au,lk,sR,p1,p2,p3,p4,p5,p6,p7,p8,p9,_,p11⟩:=AT;rw[ah]at p2;cases p2;rw[g2]at p1;cases p1;rw[KbG]at es;obtain⟨apU,aqS,d1,d2⟩:=g4;rw[p6]at d1;cases d1;rw[p4,KbV,Ka5]at d2;rw[KbV]at p7;obtain rfl:sR=Ej:=by omega
     have SS:∀(i bB n':Nat),xs[i]? =some (.aw bB 0 n')->et ρ hp w bB 0 n' (lk.getD i undef):=fun i bB n' hi=>by have:=p11 i _ hi 0 (.aw bB 0 n') rfl;simp only[KbV,KaM]at this;exact this.2
     have SU:∀(i bB n':Nat),xs[i]? =some (.aw bB 0 n')->bB≠aZ:=fun i bB n' hi=>by have:=Kap.1 yC _ (Kaj hi);simp[lR]at this;omega
     have aP:(xs++[PV.aw β 0 m]).all lR=true:=by rw[List.all_append,yC];simp[lR,aj]
     have bj:=(h.own aZ hb ah).cB;rw[g2]at bj;obtain⟨o1,o2,_⟩:=bj;replace o1:=Ctx.uj o1 hY;have s9:∀u'∈[u],u'.oneCell'=true:=by intro u' mB;simp at mB;subst mB;rw[EM];rfl
     by_cases yA:xs.length+1<=sR
     ·have bS:=run_append_room (P:=C.P) w t o.type oE ti hu i1 b1 xs.length sR lk p6 ⟨b,0,none⟩ 1 cap [u] (by simp[i3]) yv s9 yA (by simp[i3];omega);rw[i3,KbV]at bS;have o9:xs.length+[u].length<=lk.size:=by simp;omega
      have kK:=y6 (cur:=lk) (p:=xs.length) (cs:=[u]) o9;have iC:=fun k hk=>y5 (cur:=lk) (p:=xs.length) (cs:=[u]) (k:=k) o9 hk;generalize hW:(lk.toList.take xs.length++[u]++lk.toList.drop (xs.length+[u].length)).toArray=W at bS kK iC;have hE:Ext (fun c=>ρ aZ=some c/\∃hb,hp aZ=some hb/\hb.fz=false) w (w.setRow b1 W):=(y8 w b1 W).mono (fun i _ hi=>⟨hi▸g2,hb,ah,mj⟩);have Jr:(w.setRow b1 W).heap[b1]? =some (.cells W oE (0,0)):=setRow_heap w b1 lk W oE _ p6;have fi:=h.yL (w':=w.setRow b1 W) aZ (some b1) ⟨1,oE,[],false⟩ hY wZ hE
       (fun c hc=>by cases hc;exact⟨o1,by simpa using o2,.inr ⟨g2,hb,ah,mj⟩⟩) (by simp) (by simp) (by simp)
       (fun c hc=>by cases hc;exact⟨W,sR,Jr,by simp[kK];omega,by simp,p9,by simp⟩)
      have dA:=fi.FD (cap:=sR) (xs:=xs++[.aw β 0 m]) hB (by simp[Qk]) (gw _ _ _) Jr (by omega) (by simpa using yA) p9 aP (fun i bB n' hi=>by
       rw[Ka0]at hi;by_cases fO:i<xs.length
       ·rw[if_pos fO]at hi;rw[iC i (by omega),if_neg (by omega)];exact xe h hE (SU i bB n' hi) (SS i bB n' hi)
       ·rw[if_neg fO]at hi;have vY:i-xs.length<1:=by have:=(Kaf.1 hi).1;simpa using this
        obtain rfl:i=xs.length:=by omega
        rw[Kbx]at hi;simp at hi;obtain⟨rfl,rfl⟩:=hi;rw[iC _ (by omega),if_pos (by simp),Kbx];exact xe h hE (by omega) uI)
      exact iI (tv ho es ex bS) (cw.kS hd aq aU dA (by simp) (DT hB (by simp[Qk]) (gw _ _ _) Jr (by omega) p9 yA) hK)
     ·have fw:(lk.toList.take xs.length).length=xs.length:=by simp;omega
      have holds:∀(j:Nat)(v:Value),(lk.toList.take xs.length)[j]? =some v->w.cell? ((⟨b1,0,none⟩:Addr).add j)=some v:=fun j v hj=>by
       have cg:j<xs.length:=by have:=(Kaf.1 hj).1;omega
       rw[KaF cg]at hj;rw[KbI,Ka5,kU p6 (by omega),Cz lk j v hj]
      have bS:=run_append_grow (P:=C.P) w t o.type oE ti zv hu i1 i2 ⟨b1,0,none⟩ xs.length sR (lk.toList.take xs.length) (by rw[fw,i3,KbV]) holds ⟨b,0,none⟩ 1 cap [u] (by simp[i3]) yv
       (by omega) (by omega) (growslice_fits (by omega) (by rw[i4];exact hby))
      have jm:=grownCap_ge w (xs.length+1) sR oE;have mi:=grownCap_le_maxLen w (xs.length+1) sR oE (by rw[lN];exact Bd);generalize grownCap w (xs.length+1) sR oE=G at bS jm mi;have kH:((lk.toList.take xs.length).toArray++[u].toArray++Builtin.zeroCells zv.cells (G-(xs.length+1))).size=G:=by simp only[Kb6,KbN,fw,size_zeroCells,tl,KaQ,Kbn];omega
      have jl:∀i,i<xs.length+1->((lk.toList.take xs.length).toArray++[u].toArray++Builtin.zeroCells zv.cells (G-(xs.length+1))).getD i undef=if i<xs.length then lk.getD i undef else u:=fun i hi=>by
       rw[ko,if_pos (by simp only[Kb6,KbN,fw,KaQ,Kbn];omega),ko,KbN,fw];by_cases fO:i<xs.length
       ·rw[if_pos fO,if_pos fO,uZ,Kad,KaF fO];simp[KaL]
       ·rw[if_neg fO,if_neg fO,uZ,show i-xs.length=0 by omega];rfl
      generalize hW:(lk.toList.take xs.length).toArray++[u].toArray++Builtin.zeroCells zv.cells (G-(xs.length+1))=W at bS kH jl;obtain⟨fi,_⟩:=h.wJ aZ hY wZ ⟨1,oE,[],false⟩ W G _ (.inr rfl) (by simp[kH]) (by simp) mi (by simp) (by simp) (by simp);have hE:Ext (fun c=>ρ aZ=some c/\∃hb,hp aZ=some hb/\hb.fz=false) w (w.drew.alloc (.cells W oE)):=(Ext.drew w _).trans (Ext.alloc w.drew _ _);have dA:=fi.FD (cap:=G) (xs:=xs++[.aw β 0 m]) hB (by simp[Qk]) (gw _ _ _) (mK w.drew _) kH (by simpa using jm) mi aP (fun i bB n' hi=>by
       rw[Ka0]at hi;by_cases fO:i<xs.length
       ·rw[if_pos fO]at hi;rw[jl i (by omega),if_pos fO];exact xe h hE (SU i bB n' hi) (SS i bB n' hi)
       ·rw[if_neg fO]at hi;have vY:i-xs.length<1:=by have:=(Kaf.1 hi).1;simpa using this
        obtain rfl:i=xs.length:=by omega
        rw[Kbx]at hi;simp at hi;obtain⟨rfl,rfl⟩:=hi;rw[jl _ (by omega),if_neg (by omega)];exact xe h hE (by omega) uI)
      exact iI (tv ho es ex bS) (cw.kS hd aq aU dA (by simp) (DT hB (by simp[Qk]) (gw _ _ _) (mK w.drew _) kH mi jm) hK)
    ·exact hv.elim
   ·exact hv.elim
  ·exact hv.elim
 ·exact hv.elim
theorem Xm{o:Oper}{t e:TypeId}{len n by_:Nat}{z:PV}{parts:Array (Nat×Operand)}{ps:List aJ}{d:Nat}{Q:Exit->Act->World->Prop}(ho:o.op= .buildSlice t len parts)(hd:o.dst=some d)(aq:d<C.N)(aU:a.defers=[])(h:Qr C ρ fr hp a.tmps w)
  (hu:C.P.underlying t=some (.slice e)) (hz:jK C.P e=some (n,by_,z)) (td:parts.toList.map (·.1)=List.range len) (Tc:len*n<=16777216) (j0:z.cells.length=n) (fD:(parts.toList.mapM fun p=>bJ p.2)=some ps)
  (hv:kF n e (ps.map (ev fr)) d fr hp K):o.wp C.P a w (cw C true w K) Q:=by
 unfold kF at hv;split at hv
 ·rename_i hb;exact Xl ho hd aq aU h hu hz td j0 fD hb hv
 ·exact aaE ho hd aq aU h hu hz td Tc j0 fD hv
theorem VL{o:Oper}{s x:Operand}{t e:TypeId}{n by_:Nat}{z:PV}{ps px:PV}{d:Nat}{Q:Exit->Act->World->Prop}
  (ho:o.op= .call { callee:=.builtin .append,args:= #[s,x],argTypes:= #[t,t] }) (hd:o.dst=some d) (aq:d<C.N) (aU:a.defers=[]) (h:Qr C ρ fr hp a.tmps w)
  (hu:C.P.underlying t=some (.slice e)) (hz:jK C.P e=some (n,by_,z)) (j0:z.cells.length=n) (hs:Qm C ρ hp w ps (a.eval s)) (hx:Qm C ρ hp w px (a.eval x))
  (hv:iL n by_ e ps px d fr hp K):o.wp C.P a w (cw C false w K) Q:=
 Xj ho hd aq aU h hu hz j0 hs hx (fun _ hn=>VK ho hd aq aU h hu hz j0 hs hx hn) hv
end Go.FW
namespace Go.FW
open Go
variable {C : Ctx} {ρ : Nat -> Option Nat} {fr : Fr} {hp : HP} {w : World} {a : Act} {K : Qi}
theorem Um {P : Program} {g : FuncId} (hg : (P.funcs[g]?).any (fun fn => fn.body.isSome && fn.name != "runtime.NumGoroutine") = true) (args : Array Value) (w : World) :
  (callFunc g args).run P w= .ok (.enter g args) w:=by
 cases hf:P.funcs[g]? with
 |none=>simp[hf]at hg
 |some fn=>
  simp only[hf,Option.any_some,Kav,bne_iff_ne,ne_eq]at hg;obtain⟨h1,h2⟩:=hg;have h3:fn.body.isNone=false:=by cases hb:fn.body<;>simp[hb]at h1⊢
  have h4 : (fn.name == "runtime.NumGoroutine") = false := by simpa using h2
  have hn:¬(fn.body=none):=fun he=>by simp[he]at h1
  unfold callFunc;simp[hf,h2,hn]
theorem VM{o:Oper}{f:Operand}{args:Array Operand}{ts:Array TypeId}{pf:aJ}{aT:List aJ}{pr:Bool}{Q:Exit->Act->World->Prop}
  (ho:o.op= .call { callee:=.value f,args:=args,argTypes:=ts }) (aq:∀d,o.dst=some d->d<C.N) (aU:a.defers=[]) (h:Qr C ρ fr hp a.tmps w)
  (hf:bJ f=some pf) (cL:args.toList.mapM bJ=some aT) (hv:fH C pr (ev fr pf) (aT.map (ev fr)) o.dst fr hp K):o.wp C.P a w (cw C pr w K) Q:=by
 have uz:=ch h hf;unfold fH at hv;split at hv
 ·rename_i g first cap lz
  rw[lz]at uz;obtain⟨hg,Je⟩:=hv;obtain⟨fv,cv,ef,h1,h2,h3,h4⟩:=uz;obtain⟨m1,m2⟩:=HF h cL;have aof:(args.toList.map a.eval).toArray=args.map a.eval:=Array.ext' (by simp);rw[aof]at m2;have hc:=Je ρ a.tmps w fv cv (args.map a.eval) aq h h1 h2 (by simpa using m1.symm) h3 h4 m2;have hex:(execOp a.eval o).run C.P w= .ok (.enter g (fv++args.map a.eval++cv)) w:=by unfold execOp;simp only[ho,resolve,Kan,KaU,Kak,ef,Deferred.ofValue,invoke];rw[Um hg]
  unfold Oper.wp;rw[hex];refine hc.mono fun e w' hp'=>?_;obtain⟨v,aA,hp',rfl,hs,hx,hK⟩:=hp';refine⟨by rw[u6];exact aU,⟨aA,hp',?_,hK⟩,hx⟩;cases hd:o.dst with
  |some d=>rw[hd]at hs;exact hs
  |none=>rw[hd]at hs;exact hs
 ·exact hv.elim
theorem tA{α:Type}{xs:Array α}{l:List α}(h:xs.toList=l):xs=l.toArray:=by subst h;simp
theorem zB{P:Program}{t e:TypeId}(h:sB P t=some e):P.underlying t=some (.slice e):=by
 unfold sB at h;split at h
 ·rename_i hq;cases h;exact hq
 ·cases h
theorem OM{dr:Bool}{o:Oper}(cf:(fm C.P dr o).cls=0)(aq:∀d,o.dst=some d->d<C.N)(h:Qr C ρ fr hp a.tmps w)(hv:bg C (fm C.P dr o) fr hp K):Qv C ρ o a w K:=by
 unfold fm at cf hv;cases ae:mO C.P dr o with
 |none=>rw[ae]at hv;exact hv.elim
 | some so=>
  rw[ae]at cf hv;simp only[Kba]at cf hv;unfold mO at ae;split at ae
  case h_1 x d hop hd=>simp only[Kaa]at ae;obtain⟨y,hy,rfl⟩:=ae;exact KE (.inl hop) hd (aq d hd) h (ch h hy) hv
  case h_2 x d hop hd=>simp only[Kaa]at ae;obtain⟨y,hy,rfl⟩:=ae;exact KE (.inr hop) hd (aq d hd) h (ch h hy) hv
  case h_3 c x y d hop hd=>
   simp only[Kab,Kaa]at ae;obtain⟨pc,hc,px,hx,py,hy,rfl⟩:=ae;exact VQ hop hd (aq d hd) h (ch h hc) (ch h hx) (ch h hy) hv
  case h_4 op t x y t2 d hop hd=>
   simp only[Kab,Kaa]at ae;obtain⟨px,hx,py,hy,rfl⟩:=ae;unfold yR at hv;split at hv
   ·rename_i ng s7;split at s7
    ·rename_i dA;exact Xb hop s7 dA hd (aq d hd) h (ch h hx) (ch h hy) hv
    ·cases s7
   split at hv
   ·rename_i ng s7;split at s7
    ·rename_i dA;exact W9 hop s7 dA hd (aq d hd) h (ch h hx) (ch h hy) hv
    ·cases s7
   refine Wz hop hd (aq d hd) h (ch h hx) (ch h hy) (fun hb=>?_) hv;split at hb
   ·assumption
   ·cases hb
  case h_5 op t x d hop hd=>simp only[Kaa]at ae;obtain⟨y,hy,rfl⟩:=ae;exact aaw hop hd (aq d hd) h (ch h hy) hv
  case h_6 s t x d hop hd=>
   split at ae
   ·rename_i ds k hS hT;simp only[Kaa]at ae;obtain⟨y,hy,rfl⟩:=ae;exact VP hop hd (aq d hd) h hS hT (ch h hy) hv
   ·cases ae
  case h_7 t x i d hop hd=>
   simp only[Kab]at ae;obtain⟨px,hx,pi,hi,ae⟩:=ae;split at ae
   ·rename_i e hu;simp only[Kaa]at ae;obtain⟨n,hn,rfl⟩:=ae;exact Xc hop hd (aq d hd) h hu hn (ch h hx) (ch h hi) hv
   ·rename_i len e hu;simp only[Kaa]at ae;obtain⟨n,hn,rfl⟩:=ae;exact VR hop hd (aq d hd) h hu hn (ch h hx) (ch h hi) hv
   ·cases ae
  case h_8 t x i d hop hd=>
   simp only[Kab]at ae;obtain⟨px,hx,pi,hi,ae⟩:=ae;split at ae
   ·rename_i len e hu;simp only[Kab,Kaa]at ae;obtain⟨n,hn,ag,ji,rfl⟩:=ae;exact Xf hop hd (aq d hd) h hu hn ji (ch h hx) (ch h hi) hv
   ·rename_i hu;cases ae;exact Xe hop hd (aq d hd) h hu (ch h hx) (ch h hi) hv
   ·cases ae
  case h_9 t x j d hop hd=>
   simp only[Kab]at ae;obtain⟨px,hx,ae⟩:=ae;split at ae
   ·rename_i fs hu;simp only[Kab]at ae;obtain⟨f,hf,n,hn,ae⟩:=ae;split at ae
    ·cases ae
    ·rename_i iB;simp only[KaA]at ae;subst ae;exact Xd hop hd (aq d hd) h hu hf hn iB (ch h hx) hv
   ·cases ae
  case h_10 t x j d hop hd=>
   simp only[Kab]at ae;obtain⟨px,hx,ae⟩:=ae;split at ae
   ·rename_i fs hu;simp only[Kab,Kaa]at ae;obtain⟨f,hf,n,hn,ag,ji,rfl⟩:=ae;exact VS hop hd (aq d hd) h hu hf hn ji (ch h hx) hv
   ·cases ae
  case h_17 t parts d hop hd=>
   simp only[Kab,Kaa]at ae;obtain⟨⟨n,by_,z⟩,hz,ps,fD,rfl⟩:=ae;simp only[bg,ky]at hv;split at hv
   ·exact VH hop hd (aq d hd) h hz fD hv
   ·exact Xg hop hd (aq d hd) h hz fD hv
  case h_18 t x lo hi m d hop hd=>
   simp only[Kab,Kaa]at ae;obtain⟨px,hx,FH,rF,BJ,uB,pm,hm,e,he,n,hn,rfl⟩:=ae;have hu:C.P.underlying t=some (.slice e):=by
    unfold sB at he;split at he
    ·rename_i hq;cases he;exact hq
    ·cases he
   exact aaA hop hd (aq d hd) h hu hn (ch h hx) rF uB hm hv
  case h_19 x i d hop hd=>simp only[Kaa]at ae;obtain⟨y,hy,rfl⟩:=ae;exact Xa hop hd (aq d hd) h (ch h hy) hv
  case h_20 f first cap d hop hd=>
   simp only[Kab,Kaa]at ae;obtain⟨pf,h1,pc,h2,rfl⟩:=ae;exact aaB hop hd (aq d hd) h h1 h2 hv
  case h_11=>simp only[Kab,Kaa]at ae;obtain⟨_,_,_,_,_,_,rfl⟩:=ae;cases cf
  case h_12=>simp only[Kab,Kaa]at ae;obtain⟨_,_,_,_,_,_,rfl⟩:=ae;cases cf
  case h_13=>simp only[Kab,Kaa]at ae;obtain⟨_,_,_,_,rfl⟩:=ae;cases cf
  case h_14=>simp only[Kaa]at ae;obtain⟨_,_,rfl⟩:=ae;cases cf
  case h_15=>simp only[Kab,Kaa]at ae;obtain⟨_,_,_,_,_,_,_,_,rfl⟩:=ae;cases cf
  case h_16=>
   simp only[Kab]at ae;obtain⟨_,_,_,_,ae⟩:=ae;split at ae
   ·simp only[Kaa]at ae;obtain⟨_,_,rfl⟩:=ae;cases cf
   ·cases ae
  case h_21 hop=>simp only[Kaa]at ae;obtain⟨y,hy,rfl⟩:=ae;exact VG hop aq h (ch h hy) hv
  case h_22 c hop=>
   obtain⟨callee,args,ts⟩:=c;split at ae
   ·simp only[Kab,Kaa]at ae;obtain⟨_,_,_,_,rfl⟩:=ae;cases cf
   ·rename_i x t d qi cL lF hd;obtain rfl:args= #[x]:=tA cL;obtain rfl:ts= #[t]:=tA lF;cases qi;split at ae
    ·rename_i hs;simp only[Kaa]at ae;obtain⟨y,hy,rfl⟩:=ae;exact W8 hop hd (aq d hd) h (ch h hy) hs hv
    simp only[Kab,Kaa]at ae;obtain⟨e,he,y,hy,rfl⟩:=ae;exact WC hop hd (aq d hd) h (ch h hy) (zB he) hv
   ·rename_i x y d qi cL hd;simp only[Kab,Kaa]at ae;obtain⟨px,hx,py,hy,rfl⟩:=ae;obtain rfl:args= #[x,y]:=tA cL;cases qi;exact aau hop hd (aq d hd) h (ch h hx) (ch h hy) hv
   ·rename_i x y d qi cL hd;simp only[Kab,Kaa]at ae;obtain⟨px,hx,py,hy,rfl⟩:=ae;obtain rfl:args= #[x,y]:=tA cL;cases qi;exact aav hop hd (aq d hd) h (ch h hx) (ch h hy) hv
   ·simp only[Kab]at ae;obtain⟨_,_,_,_,_,_,ae⟩:=ae;split at ae
    ·simp only[Kab]at ae;obtain⟨_,_,ae⟩:=ae;split at ae
     ·cases ae;cases cf
     ·cases ae
    ·cases ae
   ·simp only[Kab]at ae;obtain⟨_,_,_,_,_,_,ae⟩:=ae;split at ae
    ·simp only[Kaa]at ae;obtain⟨_,_,rfl⟩:=ae;cases cf
    ·cases ae
   ·cases ae
  case h_23=>cases ae
theorem ON{dr:Bool}{o:Oper}(cf:(fm C.P dr o).cls=1)(aq:∀d,o.dst=some d->d<C.N)(h:Qr C ρ fr hp a.tmps w)(hv:bg C (fm C.P dr o) fr hp K):z7 C ρ o a w K:=by
 unfold fm at cf hv;cases ae:mO C.P dr o with
 |none=>rw[ae]at hv;exact hv.elim
 | some so=>
  rw[ae]at cf hv;simp only[Kba]at cf hv;unfold mO at ae;split at ae
  case h_11 t x d hop hd=>
   simp only[Kab,Kaa]at ae;obtain⟨px,hx,n,hn,ag,ji,rfl⟩:=ae;exact aaz hop hd (aq d hd) h hn ji (ch h hx) hv
  case h_1=>simp only[Kaa]at ae;obtain⟨_,_,rfl⟩:=ae;cases cf
  case h_2=>simp only[Kaa]at ae;obtain⟨_,_,rfl⟩:=ae;cases cf
  case h_3=>simp only[Kab,Kaa]at ae;obtain⟨_,_,_,_,_,_,rfl⟩:=ae;cases cf
  case h_4=>simp only[Kab,Kaa]at ae;obtain⟨_,_,_,_,rfl⟩:=ae;unfold yR at cf;split at cf<;>first|(cases cf;done)|(split at cf<;>cases cf)
  case h_5=>simp only[Kaa]at ae;obtain⟨_,_,rfl⟩:=ae;cases cf
  case h_6=>split at ae<;>first|cases ae|(simp only[Kaa]at ae;obtain⟨_,_,rfl⟩:=ae;cases cf)
  case h_7=>
   simp only[Kab]at ae;obtain⟨_,_,_,_,ae⟩:=ae;split at ae<;>first|cases ae|(simp only[Kaa]at ae;obtain⟨_,_,rfl⟩:=ae;cases cf)
  case h_8=>
   simp only[Kab]at ae;obtain⟨_,_,_,_,ae⟩:=ae;split at ae<;>first|(simp only[Kab,Kaa]at ae;obtain⟨_,_,_,_,rfl⟩:=ae;cases cf)|(cases ae;done)|(cases ae;cases cf)
  case h_9=>
   simp only[Kab]at ae;obtain⟨_,_,ae⟩:=ae;split at ae
   ·simp only[Kab]at ae;obtain⟨_,_,_,_,ae⟩:=ae;split at ae<;>first|(cases ae;done)|(simp only[KaA]at ae;subst ae;cases cf)
   ·cases ae
  case h_10=>
   simp only[Kab]at ae;obtain⟨_,_,ae⟩:=ae;split at ae<;>first|(cases ae;done)|(simp only[Kab,Kaa]at ae;obtain⟨_,_,_,_,_,_,rfl⟩:=ae;cases cf)
  case h_12=>simp only[Kab,Kaa]at ae;obtain⟨_,_,_,_,_,_,rfl⟩:=ae;cases cf
  case h_13=>simp only[Kab,Kaa]at ae;obtain⟨_,_,_,_,rfl⟩:=ae;cases cf
  case h_14=>simp only[Kaa]at ae;obtain⟨_,_,rfl⟩:=ae;cases cf
  case h_15=>simp only[Kab,Kaa]at ae;obtain⟨_,_,_,_,_,_,_,_,rfl⟩:=ae;cases cf
  case h_16=>
   simp only[Kab]at ae;obtain⟨_,_,_,_,ae⟩:=ae;split at ae
   ·simp only[Kaa]at ae;obtain⟨_,_,rfl⟩:=ae;cases cf
   ·cases ae
  case h_17=>simp only[Kab,Kaa]at ae;obtain⟨_,_,_,_,rfl⟩:=ae;cases cf
  case h_18=>simp only[Kab,Kaa]at ae;obtain⟨_,_,_,_,_,_,_,_,_,_,_,_,rfl⟩:=ae;cases cf
  case h_19=>simp only[Kaa]at ae;obtain⟨_,_,rfl⟩:=ae;cases cf
  case h_20=>simp only[Kab,Kaa]at ae;obtain⟨_,_,_,_,rfl⟩:=ae;cases cf
  case h_21=>simp only[Kaa]at ae;obtain⟨_,_,rfl⟩:=ae;cases cf
  case h_22=>
   split at ae
   ·simp only[Kab,Kaa]at ae;obtain⟨_,_,_,_,rfl⟩:=ae;cases cf
   ·split at ae
    ·simp only[Kaa]at ae;obtain⟨_,_,rfl⟩:=ae;cases cf
    ·simp only[Kab,Kaa]at ae;obtain⟨_,_,_,_,rfl⟩:=ae;cases cf
   ·simp only[Kab,Kaa]at ae;obtain⟨_,_,_,_,rfl⟩:=ae;cases cf
   ·simp only[Kab,Kaa]at ae;obtain⟨_,_,_,_,rfl⟩:=ae;cases cf
   ·simp only[Kab]at ae;obtain⟨_,_,_,_,_,_,ae⟩:=ae;split at ae
    ·simp only[Kab]at ae;obtain⟨_,_,ae⟩:=ae;split at ae
     ·cases ae;cases cf
     ·cases ae
    ·cases ae
   ·simp only[Kab]at ae;obtain⟨_,_,_,_,_,_,ae⟩:=ae;split at ae
    ·simp only[Kaa]at ae;obtain⟨_,_,rfl⟩:=ae;cases cf
    ·cases ae
   ·cases ae
  case h_23=>cases ae
theorem Qv.wp{o:Oper}{two:Bool}{Q:Exit->Act->World->Prop}(aU:a.defers=[])(h:Qv C ρ o a w K):o.wp C.P a w (cw C two w K) Q:=by obtain⟨v,hr,aA,hp',hs,hK⟩:=h;exact iI (hr w) ⟨by rw[u6];exact aU,⟨aA,hp',⟨ρ,hs⟩,hK⟩,fun _=>Ext.refl _ _⟩
theorem z7.wp{o:Oper}{two:Bool}{Q:Exit->Act->World->Prop}(aU:a.defers=[])(h:z7 C ρ o a w K):o.wp C.P a w (cw C two w K) Q:=by obtain⟨v,b,_,hr,aA,hp',hs,hK⟩:=h;exact iI (hr w rfl) ⟨by rw[u6];exact aU,⟨aA,hp',⟨ρ,hs⟩,hK⟩,fun _=>Ext.refl _ _⟩
theorem cw.mono{two TT:Bool}{a':Act}{w':World}(h2:TT=true->two=true)(h:cw C two w K a' w'):cw C TT w K a' w':=⟨h.1,h.2.1,fun hh=>h.2.2 (h2 hh)⟩
theorem aaH{dr:Bool}{o:Oper}{Q:Exit->Act->World->Prop}(aq:∀d,o.dst=some d->d<C.N)(aU:a.defers=[])(h:Qr C ρ fr hp a.tmps w)(hv:bg C (fm C.P dr o) fr hp K):
  o.wp C.P a w (cw C (!(fm C.P dr o).iQ) w K) Q:=by
 by_cases h0:(fm C.P dr o).cls=0
 ·exact(OM h0 aq h hv).wp aU
 by_cases h1:(fm C.P dr o).cls=1
 ·exact(ON h1 aq h hv).wp aU
 unfold fm at h0 h1 hv⊢;cases ae:mO C.P dr o with
 |none=>rw[ae]at hv;exact hv.elim
 | some so=>
  rw[ae]at h0 h1 hv;simp only[Kba]at h0 h1 hv⊢;have fin:∀ {two:Bool},(so.iQ=false->two=true)->o.wp C.P a w (cw C two w K) Q->o.wp C.P a w (cw C (!so.iQ) w K) Q:=fun h2 hw=>
   Oper.wp_mono (fun a' w' hA=>hA.mono (fun hh=>h2 (by simpa using hh))) hw
  unfold mO at ae;split at ae
  case h_12 t x y hop hd=>
   simp only[Kab,Kaa]at ae;obtain⟨px,hx,py,hy,n,hn,rfl⟩:=ae;exact fin (by simp[cc.iQ]) (aaG hop hd aU h hn (ch h hx) (ch h hy) hv)
  case h_13 t x d hop hd=>
   simp only[Kab,Kaa]at ae;obtain⟨px,hx,n,hn,rfl⟩:=ae;exact fin (fun _=>rfl) (VJ hop hd (aq d hd) aU h (ch h hx) hv)
  case h_14 t d hop hd=>
   simp only[Kaa]at ae;obtain⟨⟨n,by_,z⟩,hz,rfl⟩:=ae;obtain⟨ti,zv,i1,i2,_,_,i5⟩:=sm hz;exact fin (fun _=>rfl) (UN hop hd (aq d hd) aU h i1 i2 i5 hv)
  case h_15 t l c d hop hd=>
   simp only[Kab,Kaa]at ae;obtain⟨pl,hl,pc,hc,e,he,⟨n,by_,z⟩,hz,rfl⟩:=ae;exact fin (fun _=>rfl) (aaD hop hd (aq d hd) aU h (zB he) hz (ch h hl) (ch h hc) hv)
  case h_16 t len parts d hop hd=>
   simp only[Kab]at ae;obtain⟨e,he,⟨n,by_,z⟩,hz,ae⟩:=ae;split at ae
   ·rename_i AR;simp only[Kaa]at ae;obtain⟨ps,fD,rfl⟩:=ae;exact fin (fun _=>rfl) (Xm hop hd (aq d hd) aU h (zB he) hz AR.1 AR.2.1 AR.2.2 fD hv)
   ·cases ae
  case h_22 c hop=>
   obtain⟨callee,args,ts⟩:=c;split at ae
   ·rename_i f qi;simp only[Kab,Kaa]at ae;obtain⟨pf,hf,aT,cL,rfl⟩:=ae;cases qi;exact fin (two:=dr&& !My C.P pf) (fun hh=>by simpa[cc.iQ]using hh) (VM hop aq aU h hf cL hv)
   ·split at ae
    ·simp only[Kaa]at ae;obtain⟨_,_,rfl⟩:=ae;exact absurd rfl h0
    ·simp only[Kab,Kaa]at ae;obtain⟨_,_,_,_,rfl⟩:=ae;exact absurd rfl h0
   ·simp only[Kab,Kaa]at ae;obtain⟨_,_,_,_,rfl⟩:=ae;exact absurd rfl h0
   ·simp only[Kab,Kaa]at ae;obtain⟨_,_,_,_,rfl⟩:=ae;exact absurd rfl h0
   ·rename_i s x t u d qi cL lF hd;simp only[Kab]at ae;obtain⟨ps,hs,px,hx,e,he,ae⟩:=ae;split at ae
    ·rename_i JU;subst JU;simp only[Kab]at ae;obtain⟨⟨n,by_,z⟩,hz,ae⟩:=ae;split at ae
     ·rename_i j0;simp only[KaA]at ae;subst ae;obtain rfl:args= #[s,x]:=tA cL;obtain rfl:ts= #[t,t]:=tA lF;cases qi;exact fin (by simp[cc.iQ]) (VL hop hd (aq d hd) aU h (zB he) hz j0 (ch h hs) (ch h hx) hv)
     ·cases ae
    ·cases ae
   ·rename_i s x t u d qi cL lF hd;simp only[Kab]at ae;obtain⟨ps,hs,px,hx,e,he,ae⟩:=ae;split at ae
    ·rename_i JU;subst JU;simp only[Kaa]at ae;obtain⟨n,hn,rfl⟩:=ae;obtain rfl:args= #[s,x]:=tA cL;obtain rfl:ts= #[t,t]:=tA lF;cases qi;exact fin (by simp[cc.iQ]) (Xk hop hd (aq d hd) aU h (zB he) hn (ch h hs) (ch h hx) hv)
    ·cases ae
   ·cases ae
  all_goals exfalso
  case h_1=>simp only[Kaa]at ae;obtain⟨_,_,rfl⟩:=ae;exact h0 rfl
  case h_2=>simp only[Kaa]at ae;obtain⟨_,_,rfl⟩:=ae;exact h0 rfl
  case h_3=>simp only[Kab,Kaa]at ae;obtain⟨_,_,_,_,_,_,rfl⟩:=ae;exact h0 rfl
  case h_4=>simp only[Kab,Kaa]at ae;obtain⟨_,_,_,_,rfl⟩:=ae;exact h0 (by unfold yR;split<;>first|rfl|(split<;>rfl))
  case h_5=>simp only[Kaa]at ae;obtain⟨_,_,rfl⟩:=ae;exact h0 rfl
  case h_6=>split at ae<;>first|(cases ae;done)|(simp only[Kaa]at ae;obtain⟨_,_,rfl⟩:=ae;exact h0 rfl)
  case h_7=>
   simp only[Kab]at ae;obtain⟨_,_,_,_,ae⟩:=ae;split at ae<;>first|(cases ae;done)|(simp only[Kaa]at ae;obtain⟨_,_,rfl⟩:=ae;exact h0 rfl)
  case h_8=>
   simp only[Kab]at ae;obtain⟨_,_,_,_,ae⟩:=ae;split at ae<;>first|(cases ae;done)|(simp only[Kab,Kaa]at ae;obtain⟨_,_,_,_,rfl⟩:=ae;exact h0 rfl)|(cases ae;exact h0 rfl)
  case h_9=>
   simp only[Kab]at ae;obtain⟨_,_,ae⟩:=ae;split at ae
   ·simp only[Kab]at ae;obtain⟨_,_,_,_,ae⟩:=ae;split at ae<;>first|(cases ae;done)|(simp only[KaA]at ae;subst ae;exact h0 rfl)
   ·cases ae
  case h_10=>
   simp only[Kab]at ae;obtain⟨_,_,ae⟩:=ae;split at ae<;>first|(cases ae;done)|(simp only[Kab,Kaa]at ae;obtain⟨_,_,_,_,_,_,rfl⟩:=ae;exact h0 rfl)
  case h_11=>simp only[Kab,Kaa]at ae;obtain⟨_,_,_,_,_,_,rfl⟩:=ae;exact h1 rfl
  case h_17=>simp only[Kab,Kaa]at ae;obtain⟨_,_,_,_,rfl⟩:=ae;exact h0 rfl
  case h_18=>simp only[Kab,Kaa]at ae;obtain⟨_,_,_,_,_,_,_,_,_,_,_,_,rfl⟩:=ae;exact h0 rfl
  case h_19=>simp only[Kaa]at ae;obtain⟨_,_,rfl⟩:=ae;exact h0 rfl
  case h_20=>simp only[Kab,Kaa]at ae;obtain⟨_,_,_,_,rfl⟩:=ae;exact h0 rfl
  case h_21=>simp only[Kaa]at ae;obtain⟨_,_,rfl⟩:=ae;exact h0 rfl
  case h_23=>cases ae
end Go.FW
namespace Go.FW
open Go
variable {C : Ctx} {ρ : Nat -> Option Nat} {fr : Fr} {hp : HP} {w : World} {a : Act} {K : Qi}
theorem aaI(h:Qr C ρ fr hp a.tmps w){s:Nat}(hs:s<C.N):a.tmps[s]? =some (a.tmps.getD s undef):=by
 have:s<a.tmps.size:=by rw[h.sz];exact hs
 simp[Array.getD,this]
theorem Oc{dr:Bool}{ops:Array Oper}{o:Oper}{g:mJ}(h:Qr C ρ fr hp a.tmps w)(hc:kp C.P C.N dr ops o=some g)(hv:im C g.g g.o fr hp K):
  (∀d,o.dst=some d->d<C.N)/\g.o=fm C.P dr o/\
  ((Region.wanted o (yielded ops a.tmps)=true/\bg C g.o fr hp K)∨(Region.wanted o (yielded ops a.tmps)=false/\jv g.o fr hp K)):=by
 unfold kp at hc;split at hc
 ·rename_i aP;have aq:∀d,o.dst=some d->d<C.N:=fun d hd=>by rw[hd]at aP;simpa using aP
  cases hg:o.guard with
  |none=>rw[hg]at hc;cases hc;exact⟨aq,rfl,.inl ⟨by simp[Region.wanted,hg],hv⟩⟩
  | some jw=>
   obtain⟨j,want⟩:=jw;rw[hg]at hc;simp only at hc;split at hc
   ·rename_i s hs;split at hc
    ·rename_i hsN;cases hc;refine⟨aq,rfl,?_⟩;have ht:=aaI h hsN;have hr:=h.cE s;simp only[im]at hv;split at hv
     ·rename_i t og;rw[og]at hr;have hb:=hr.yb;have hy:yielded ops a.tmps j=some t:=by simp only[yielded,hs,Kb9,ht,hb]
      have wv:∀b,t=b->ab fr s (.bool b)=fr:=fun b au=>by
       funext i;unfold ab;split
       ·rename_i hi;subst hi;subst au;exact og.symm
       ·rfl
      by_cases hw:t=want
      ·refine .inl ⟨by simp[Region.wanted,hg,hy,hw],?_⟩;have:=hv.1 hw
       rwa[wv want hw]at this
      ·have rP:t= !want:=by cases t<;>cases want<;>simp_all
       refine .inr ⟨by simp[Region.wanted,hg,hy,hw],?_⟩;have:=hv.2 rP
       rwa[wv _ rP]at this
     ·rename_i og;rw[og]at hr;obtain⟨vs,ev,eH,_⟩:=hr;have wx:vs= #[]:=KbJ (by simpa using eH);have hy:yielded ops a.tmps j=none:=by simp only[yielded,hs,Kb9,ht,ev]
      exact .inr ⟨by simp[Region.wanted,hg,hy],hv⟩
     ·exact hv.elim
    ·cases hc
   ·cases hc
 ·cases hc
theorem ME{dr:Bool}{o:Oper}:(fm C.P dr o).dst=o.dst:=by
 unfold fm;cases ae:mO C.P dr o with
 |none=>rfl
 | some so=>
  simp only[Kba];unfold mO at ae;split at ae
  case h_1 hd=>simp only[Kaa]at ae;obtain⟨_,_,rfl⟩:=ae;exact hd.symm
  case h_2 hd=>simp only[Kaa]at ae;obtain⟨_,_,rfl⟩:=ae;exact hd.symm
  case h_3 hd=>simp only[Kab,Kaa]at ae;obtain⟨_,_,_,_,_,_,rfl⟩:=ae;exact hd.symm
  case h_4 hd=>simp only[Kab,Kaa]at ae;obtain⟨_,_,_,_,rfl⟩:=ae;unfold yR;split<;>first|exact hd.symm|(split<;>exact hd.symm)
  case h_5 hd=>simp only[Kaa]at ae;obtain⟨_,_,rfl⟩:=ae;exact hd.symm
  case h_6 hd=>split at ae<;>first|(cases ae;done)|(simp only[Kaa]at ae;obtain⟨_,_,rfl⟩:=ae;exact hd.symm)
  case h_7 hd=>
   simp only[Kab]at ae;obtain⟨_,_,_,_,ae⟩:=ae;split at ae<;>first|(cases ae;done)|(simp only[Kaa]at ae;obtain⟨_,_,rfl⟩:=ae;exact hd.symm)
  case h_8 hd=>
   simp only[Kab]at ae;obtain⟨_,_,_,_,ae⟩:=ae;split at ae<;>first|(cases ae;done)|(simp only[Kab,Kaa]at ae;obtain⟨_,_,_,_,rfl⟩:=ae;exact hd.symm)|(cases ae;exact hd.symm)
  case h_9 hd=>
   simp only[Kab]at ae;obtain⟨_,_,ae⟩:=ae;split at ae
   ·simp only[Kab]at ae;obtain⟨_,_,_,_,ae⟩:=ae;split at ae<;>first|(cases ae;done)|(simp only[KaA]at ae;subst ae;exact hd.symm)
   ·cases ae
  case h_10 hd=>
   simp only[Kab]at ae;obtain⟨_,_,ae⟩:=ae;split at ae<;>first|(cases ae;done)|(simp only[Kab,Kaa]at ae;obtain⟨_,_,_,_,_,_,rfl⟩:=ae;exact hd.symm)
  case h_11 hd=>simp only[Kab,Kaa]at ae;obtain⟨_,_,_,_,_,_,rfl⟩:=ae;exact hd.symm
  case h_12 hd=>simp only[Kab,Kaa]at ae;obtain⟨_,_,_,_,_,_,rfl⟩:=ae;exact hd.symm
  case h_13 hd=>simp only[Kab,Kaa]at ae;obtain⟨_,_,_,_,rfl⟩:=ae;exact hd.symm
  case h_14 hd=>simp only[Kaa]at ae;obtain⟨_,_,rfl⟩:=ae;exact hd.symm
  case h_15 hd=>simp only[Kab,Kaa]at ae;obtain⟨_,_,_,_,_,_,_,_,rfl⟩:=ae;exact hd.symm
  case h_16 hd=>
   simp only[Kab]at ae;obtain⟨_,_,_,_,ae⟩:=ae;split at ae
   ·simp only[Kaa]at ae;obtain⟨_,_,rfl⟩:=ae;exact hd.symm
   ·cases ae
  case h_17 hd=>simp only[Kab,Kaa]at ae;obtain⟨_,_,_,_,rfl⟩:=ae;exact hd.symm
  case h_18 hd=>simp only[Kab,Kaa]at ae;obtain⟨_,_,_,_,_,_,_,_,_,_,_,_,rfl⟩:=ae;exact hd.symm
  case h_19 hd=>simp only[Kaa]at ae;obtain⟨_,_,rfl⟩:=ae;exact hd.symm
  case h_20 hd=>simp only[Kab,Kaa]at ae;obtain⟨_,_,_,_,rfl⟩:=ae;exact hd.symm
  case h_21=>simp only[Kaa]at ae;obtain⟨_,_,rfl⟩:=ae;rfl
  case h_22=>
   split at ae
   ·simp only[Kab,Kaa]at ae;obtain⟨_,_,_,_,rfl⟩:=ae;rfl
   ·rename_i hd;split at ae
    ·simp only[Kaa]at ae;obtain⟨_,_,rfl⟩:=ae;exact hd.symm
    ·simp only[Kab,Kaa]at ae;obtain⟨_,_,_,_,rfl⟩:=ae;exact hd.symm
   ·rename_i hd;simp only[Kab,Kaa]at ae;obtain⟨_,_,_,_,rfl⟩:=ae;exact hd.symm
   ·rename_i hd;simp only[Kab,Kaa]at ae;obtain⟨_,_,_,_,rfl⟩:=ae;exact hd.symm
   ·rename_i hd;simp only[Kab]at ae;obtain⟨_,_,_,_,_,_,ae⟩:=ae;split at ae
    ·simp only[Kab]at ae;obtain⟨_,_,ae⟩:=ae;split at ae
     ·cases ae;exact hd.symm
     ·cases ae
    ·cases ae
   ·rename_i hd;simp only[Kab]at ae;obtain⟨_,_,_,_,_,_,ae⟩:=ae;split at ae
    ·simp only[Kaa]at ae;obtain⟨_,_,rfl⟩:=ae;exact hd.symm
    ·cases ae
   ·cases ae
  case h_23=>cases ae
theorem VN{dr two:Bool}{o:Oper}(aq:∀d,o.dst=some d->d<C.N)(aU:a.defers=[])(h:Qr C ρ fr hp a.tmps w)(hv:jv (fm C.P dr o) fr hp K):cw C two w K (a.put o.dst undef) w:=by
 unfold jv at hv;rw[ME]at hv;cases hd:o.dst with
 |some d=>rw[hd]at hv;exact⟨aU,⟨_,hp,⟨ρ,h.ab Qm.TS (aq d hd)⟩,hv⟩,fun _=>Ext.refl _ _⟩
 |none=>rw[hd]at hv;exact⟨aU,⟨fr,hp,⟨ρ,h⟩,hv⟩,fun _=>Ext.refl _ _⟩
theorem G5{dr:Bool}{ops:Array Oper}{i:Nat}{o:Oper}{g:mJ}{Q:Exit->Act->World->Prop}(hi:ops[i]? =some o)(aU:a.defers=[])(h:Qr C ρ fr hp a.tmps w)(hc:kp C.P C.N dr ops o=some g)(hv:im C g.g g.o fr hp K):
  wpOp C.P ops Q i (cw C (!(fm C.P dr o).iQ) w K) a w:=by
 obtain⟨aq,eA,AP⟩:=Oc h hc hv;rw[eA]at AP;unfold wpOp;simp only[hi];rcases AP with⟨hw,hv⟩|⟨hw,hv⟩
 ·rw[if_pos hw];exact .inl (aaH aq aU h hv)
 ·rw[hw];simp only[Ka8,if_false];exact VN aq aU h hv
def B7(C:Ctx)(K:Qi)(Q:Exit->Act->World->Prop):Prop:=∀fr hp (a:Act) w,a.defers=[]->dD C fr hp a.tmps w->K fr hp->Q .normal a w
theorem z8{C:Ctx}{R:Qi}{sk:List It}{fr:Fr}{hp:HP}:vc C R (.o .nil::sk) fr hp=vc C R sk fr hp:=by rw[vc]
theorem An{C:Ctx}{R:Qi}{sk:List It}{g:Option (Nat×Bool)}{o:cc}{r:RT}{fr:Fr}{hp:HP}:vc C R (.o (.o g o r)::sk) fr hp=im C g o fr hp (vc C R (.o r::sk)):=by rw[vc]
theorem Nf{C:Ctx}{R:Qi}{sk:List It}{x y:RT}{fr:Fr}{hp:HP}:vc C R (.o (.br x y)::sk) fr hp=(vc C R (.o x::sk) fr hp/\vc C R (.o y::sk) fr hp):=by rw[vc]
theorem DU{C:Ctx}{R:Qi}{sk:List It}{r:RT}{fr:Fr}{hp:HP}:vc C R (.o (.wk r)::sk) fr hp=∃aK ax,Wk fr hp aK ax/\vc C R (.o r::sk) aK ax:=by rw[vc]
theorem xk{C:Ctx}{R:Qi}{sk:List It}{tmps:Array Value}{w:World}:∀(r:RT)(fr:Fr)(hp:HP),dD C fr hp tmps w->vc C R (.o r::sk) fr hp->
  ∃r' aA hp',r'.strip=r.strip/\(∀x,r'≠ .wk x)/\dD C aA hp' tmps w/\vc C R (.o r'::sk) aA hp':=by
 intro r;induction r with
 |wk r ih=>intro fr hp hs hv;rw[DU]at hv;obtain⟨aK,ax,hw,hv⟩:=hv;exact ih aK ax (hw _ _ _ hs) hv
 |nil=>exact fun fr hp hs hv=>⟨_,fr,hp,rfl,(fun x h=>by cases h),hs,hv⟩
 |o=>exact fun fr hp hs hv=>⟨_,fr,hp,rfl,(fun x h=>by cases h),hs,hv⟩
 |br=>exact fun fr hp hs hv=>⟨_,fr,hp,rfl,(fun x h=>by cases h),hs,hv⟩
theorem PJ{r:RT}(h:r.strip= .nil)(hn:∀x,r≠ .wk x):r= .nil:=by
 cases r with
 |nil=>rfl
 |wk x=>exact absurd rfl (hn x)
 |_=>simp[RT.strip]at h
theorem HZ{r s:RT}{g:Option (Nat×Bool)}{o:cc}(h:r.strip= .o g o s)(hn:∀x,r≠ .wk x):∃r',r= .o g o r'/\r'.strip=s:=by
 cases r with
 |o g' o' r'=>simp only[RT.strip,RT.o.injEq]at h;obtain⟨rfl,rfl,h⟩:=h;exact⟨r',rfl,h⟩
 |wk x=>exact absurd rfl (hn x)
 |_=>simp[RT.strip]at h
theorem aaJ{r a b:RT}(h:r.strip= .br a b)(hn:∀x,r≠ .wk x):∃a' b',r= .br a' b'/\a'.strip=a/\b'.strip=b:=by
 cases r with
 |br a' b'=>simp only[RT.strip,RT.br.injEq]at h;exact⟨a',b',rfl,h.1,h.2⟩
 |wk x=>exact absurd rfl (hn x)
 |_=>simp[RT.strip]at h
theorem OO{R:Qi}{sk:List It}{ops:Array Oper}{Q:Exit->Act->World->Prop}(hQ:B7 C (vc C R sk) Q):∀(gs:List mJ)(is:List Nat)(r:RT)(fr:Fr)(hp:HP)(a:Act)(w:World),
  is.length=gs.length->(∀(k i:Nat)(g:mJ),is[k]? =some i->gs[k]? =some g->∃o,ops[i]? =some o/\kp C.P C.N false ops o=some g)->
  a.defers=[]->dD C fr hp a.tmps w->r.strip=xI gs->vc C R (.o r::sk) fr hp->wpOps C.P ops Q is a w
 | [],[],r,fr,hp,a,w,_,_,aU,hs,hr,hv=>by obtain⟨r',aA,hp',h1,h2,hs,hv⟩:=xk r fr hp hs hv;obtain rfl:=PJ (h1.trans hr) h2;rw[z8]at hv;exact hQ aA hp' a w aU hs hv
 | [],i::is,_,_,_,_,_,hl,_,_,_,_,_=>by simp at hl
 |g::gs,[],_,_,_,_,_,hl,_,_,_,_,_=>by simp at hl
 |g::gs,i::is,r,fr,hp,a,w,hl,hc,aU,hs,hr,hv=>by obtain⟨o,ho,ae⟩:=hc 0 i g rfl rfl;obtain⟨r',aA,hp',h1,h2,⟨ρ,hs⟩,hv⟩:=xk r fr hp hs hv;obtain⟨r2,rfl,mz⟩:=HZ (h1.trans hr) h2;rw[An]at hv;rw[wpOps_cons];refine wpOp_mono (fun a' w' hA=>?_) (G5 ho aU hs ae hv);obtain⟨sW,⟨aA,hp',ek,oz⟩,_⟩:=hA;exact OO hQ gs is r2 aA hp' a' w' (by simpa using hl) (fun k j g' h1 h2=>hc (k+1) j g' (by simpa using h1) (by simpa using h2)) sW ek mz oz
end Go.FW
namespace Go.FW
open Go
section
variable {P : Program} {ops : Array Oper} {Q : Exit -> Act -> World -> Prop}
def vg(P:Program)(ops:Array Oper)(Q:Exit->Act->World->Prop)(iQ:Nat->Bool):Nat->Array Bool->Act->World->Prop
 |0,aY,a,w=>Region.ready .any ops aY=[]/\Q .normal a w
 |fuel+1,aY,a,w=>
  (Region.ready .any ops aY=[]->Q .normal a w)/\
  ∀i∈Region.ready .any ops aY,wpOp P ops Q i (fun a' w'=>(iQ i=false->Ext ca w w')/\vg P ops Q iQ fuel (aY.setIfInBounds i true) a' w') a w
theorem G6(iQ:Nat->Bool):∀(fuel:Nat)(aY:Array Bool)(a:Act)(w:World),vg P ops Q iQ fuel aY a w->wpAny P .any ops Q fuel aY a w
 |0,_,_,_,h=>h
 |fuel+1,_,_,_,h=>⟨h.1,fun i hi=>wpOp_mono (fun a' w' h'=>G6 iQ fuel _ a' w' h'.2) (h.2 i hi)⟩
def YF(P:Program)(ops:Array Oper)(all:Bool)(o:Oper)(v:Value)(a:Act)(w:World):Prop:=
 (Region.wanted o (yielded ops a.tmps)=true/\∀w',(all=true∨Ext ca w w')->(execOp a.eval o).run P w'= .ok (.value v) w')∨
 (Region.wanted o (yielded ops a.tmps)=false/\v=undef)
theorem YF.step{all:Bool}{o:Oper}{v:Value}{a a':Act}{w w':World}(hy:YF P ops all o v a w)(he:execOp a'.eval o=execOp a.eval o)
  (hw:Region.wanted o (yielded ops a'.tmps)=Region.wanted o (yielded ops a.tmps)) (hx:all=true∨Ext ca w w'):YF P ops all o v a' w':=by
 unfold YF at *
 rw[he,hw];rcases hy with⟨h1,h2⟩|h
 ·refine .inl ⟨h1,fun w2 h3=>h2 w2 ?_⟩;rcases hx with hx|hx
  ·exact .inl hx
  ·rcases h3 with h3|h3
   ·exact .inl h3
   ·exact .inr (hx.trans h3)
 ·exact .inr h
theorem YF.wpOp{all:Bool}{i:Nat}{o:Oper}{v:Value}{a:Act}{w:World}(hi:ops[i]? =some o)(hy:YF P ops all o v a w)
  {K:Act->World->Prop} (h:K (a.put o.dst v) w):Go.wpOp P ops Q i K a w:=by
 unfold Go.wpOp;simp only[hi];rcases hy with⟨hw,hv⟩|⟨hw,rfl⟩
 ·simp only[hw,if_true,Oper.wp,hv w (.inr (Ext.refl _ _)),Oper.upon];exact .inl h
 ·simp only[hw,Ka8,if_false];exact h
theorem Xn{j:Nat}{oi oj:Oper}{v:Value}(hj:ops[j]? =some oj)(hap:oi.apart ops oj=true)
  (S':∀cs b,oi.op≠ .select cs b) (Ta:∀cs b,oj.op≠ .select cs b)
  (hQ:∀c a w,Q (.panic c) (a.put oi.dst v) w->Q (.panic c) a w) {K:Act->World->Prop} {a:Act} {w:World}
  (h:Go.wpOp P ops Q j K (a.put oi.dst v) w):
  Go.wpOp P ops Q j (fun a' w'=>(execOp a'.eval oi=execOp a.eval oi/\Region.wanted oi (yielded ops a'.tmps)=Region.wanted oi (yielded ops a.tmps))/\K (a'.put oi.dst v) w') a w:=by
 obtain⟨h1,h2,h3⟩:=Oper.apart_spec hap;have eJ:∀u,execOp (a.put oj.dst u).eval oi=execOp a.eval oi/\Region.wanted oi (yielded ops (a.put oj.dst u).tmps)=Region.wanted oi (yielded ops a.tmps):=fun u=>
  ⟨execOp_put oi S' a oj.dst u h3,wanted_put oi a oj.dst u h3⟩
 have apd:∀d u,execOp (({ a with defers:=d::a.defers }:Act).put oj.dst u).eval oi=execOp a.eval oi/\Region.wanted oi (yielded ops (({ a with defers:=d::a.defers }:Act).put oj.dst u).tmps)=Region.wanted oi (yielded ops a.tmps):=fun d u=>
  ⟨(execOp_put oi S' ({ a with defers:=d::a.defers }:Act) oj.dst u h3).trans rfl,(wanted_put oi ({ a with defers:=d::a.defers }:Act) oj.dst u h3).trans rfl⟩
 unfold Go.wpOp at *
 simp only[hj]at *
 rw[wanted_put oj a oi.dst v h1]at h;split
 ·rename_i hw;simp only[hw,if_true]at h;rcases h with h|⟨R5,aod⟩
  case inr=>exact .inr ⟨by unfold Oper.asks at *;rw[execOp_put oj Ta a oi.dst v h1]at R5;exact R5,aod⟩
  refine .inl ?_;unfold Oper.wp at *
  rw[execOp_put oj Ta a oi.dst v h1]at h;generalize(execOp a.eval oj).run P w=r at *
  cases r with
  | ok n w'=>
   cases n<;>simp only[Oper.upon]at h⊢
   case value u=>exact⟨eJ u,by rw[<-Act.put_comm a v u h2];exact h⟩
   case skip=>exact⟨eJ _,by rw[<-Act.put_comm a v undef h2];exact h⟩
   case defer d=>
    refine⟨apd d _,?_⟩;rw[<-Act.put_comm _ v undef h2,<-Act.put_defers];exact h
   case enter f args=>
    refine Calls.mono h fun e w'' he=>?_;cases e with
    |returned u=>exact⟨eJ u,by rw[<-Act.put_comm a v u h2];exact he⟩
    |panicked c=>exact hQ _ _ _ he
    |outgrown=>exact he
   case row row args=>exact Rows.mono h fun u w'' he=>⟨eJ u,by rw[<-Act.put_comm a v u h2];exact he⟩
  |halt x w'=>
   cases x<;>simp only[Oper.upon]at h⊢
   case panic u=>exact hQ _ _ _ h
 ·rename_i hw;simp only[hw]at h;exact⟨eJ _,by rw[<-Act.put_comm a v undef h2];exact h⟩
def l0(ops:Array Oper)(aY:Array Bool):Prop:=∀(j:Nat)(o:Oper),ops[j]? =some o->aY.getD j false=true->∀e∈o.after,Region.binds .any e=true->aY.getD e.on false=true
theorem l0.step{aY:Array Bool}{i:Nat}(h:l0 ops aY)(hi:i∈Region.ready .any ops aY):l0 ops (aY.setIfInBounds i true):=by
 intro j o hj hl e he hb;obtain⟨h0,oi,s8,aP⟩:=mem_ready.1 hi;by_cases ES:i=j
 ·subst ES;rw[hj]at s8;cases s8;exact getD_set_true (aP e he hb)
 ·rw[getD_set_ne false ES]at hl;exact getD_set_true (h j o hj hl e he hb)
theorem Nv{aY:Array Bool}{i:Nat}(hd:l0 ops aY):∀(n k:Nat),aY.getD k false=true->qK ops n i k=true->aY.getD i false=true
 |0,_,_,h=>by simp[qK]at h
 | n+1,k,hk,h=>by
  unfold qK at h;cases ho:ops[k]? with
  |none=>simp[ho]at h
  |some o=>
   simp only[ho,KaS,Kav,KbC,beq_iff_eq]at h;obtain⟨e,he,hb,h⟩:=h;have hl:=hd k o ho hk e (by simpa using he) hb;rcases h with h|h
   ·rw[<-h];exact hl
   ·exact Nv hd n e.on hl h
theorem Qw3{aY:Array Bool}{i j n:Nat}(hd:l0 ops aY)(hj:j∈Region.ready .any ops aY)(h:qK ops n i j=true):aY.getD i false=true:=by
 obtain⟨_,o,ho,aP⟩:=mem_ready.1 hj;cases n with
 |zero=>simp[qK]at h
 |succ n=>
  unfold qK at h;simp only[ho,KaS,Kav,KbC,beq_iff_eq]at h;obtain⟨e,he,hb,h⟩:=h;have hl:=aP e (by simpa using he) hb;rcases h with h|h
  ·rw[<-h];exact hl
  ·exact Nv hd n e.on hl h
theorem PK{aY:Array Bool}{i:Nat}(h0:aY.getD i true=false):¬aY.getD i false=true:=by
 intro h1;rcases KcF i aY.size with h'|h'
 ·simp[h']at h0 h1;rw[h0]at h1;cases h1
 ·simp[Kcq h']at h1
theorem Un{iQ:Nat->Bool}{all:Bool}{i:Nat}{oi:Oper}{v:Value}(hi:ops[i]? =some oi)(SY:∀(j:Nat)(o:Oper) cs b,ops[j]? =some o->o.op≠ .select cs b)
  (hQ:∀c a w,Q (.panic c) (a.put oi.dst v) w->Q (.panic c) a w)
  (yy:all=true∨∀j,iQ j=true->j<ops.size->qK ops ops.size i j=true∨j=i):
  ∀(fuel:Nat)(aY:Array Bool)(a:Act)(w:World),l0 ops aY->
   (∀j oj,ops[j]? =some oj->j≠i->aY.getD j true=false->(∀e∈oj.after,Region.binds .any e=true->e.on≠i)->oi.apart ops oj=true)->
   i∈Region.ready .any ops aY->YF P ops all oi v a w->
   vg P ops Q iQ fuel (aY.setIfInBounds i true) (a.put oi.dst v) w->vg P ops Q iQ (fuel+1) aY a w:=by
 intro fuel;induction fuel with
 | zero=>
  intro aY a w _ _ hr hy H;refine⟨fun h=>(by rw[h]at hr;cases hr),fun j hj=>?_⟩;by_cases fa:j=i
  ·subst fa;exact hy.wpOp hi ⟨fun _=>Ext.refl _ _,H⟩
  ·have:=ready_mono hj fa;rw[H.1]at this;cases this
 | succ fuel ih=>
  intro aY a w Sg AV hr hy H;refine⟨fun h=>(by rw[h]at hr;cases hr),fun j hj=>?_⟩;by_cases fa:j=i
  ·subst fa;exact hy.wpOp hi ⟨fun _=>Ext.refl _ _,H⟩
  ·have h1:=H.2 j (ready_mono hj fa);obtain⟨St,oj,Fe,aP⟩:=mem_ready.1 hj;have So:¬aY.getD i false=true:=PK (mem_ready.1 hr).1;have aoj:∀e∈oj.after,Region.binds .any e=true->e.on≠i:=fun e he hb heq=>So (heq▸aP e he hb);have h2:=Xn Fe (AV j oj Fe fa St aoj) (fun cs b=>SY i oi cs b hi) (fun cs b=>SY j oj cs b Fe) hQ h1;have anq:all=true∨iQ j=false:=by
    rcases yy with h|h
    ·exact .inl h
    ·cases hb:iQ j with
     |false=>exact .inr rfl
     |true=>
      have an3:j<ops.size:=(Kbl.1 Fe).1;rcases h j hb an3 with h|h
      ·exact absurd (Qw3 Sg hj h) So
      ·exact absurd h fa
   have anQ:∀k ok,ops[k]? =some ok->k≠i->(aY.setIfInBounds j true).getD k true=false->
     (∀e∈ok.after,Region.binds .any e=true->e.on≠i)->oi.apart ops ok=true:=fun k ok hk v7 oy oq=>by
    refine AV k ok hk v7 ?_ oq;by_cases Sp:j=k
    ·subst Sp;exact St
    ·rw[getD_set_ne true Sp]at oy;exact oy
   refine wpOp_mono (fun a' w' h3=>?_) h2;obtain⟨⟨he,hw⟩,hx,wo⟩:=h3;refine⟨hx,ih (aY.setIfInBounds j true) a' w' (Sg.step hj) anQ (ready_mono hr (Ne.symm fa)) (hy.step he hw ?_) ?_⟩
   ·rcases anq with h|h
    ·exact .inl h
    ·exact .inr (hx h)
   ·rw[Array.setIfInBounds_comm _ _ fa];exact wo
end
section
variable {C : Ctx} {ρ : Nat -> Option Nat} {fr : Fr} {hp : HP} {w : World} {a : Act} {K : Qi}
theorem NP{dr:Bool}{o:Oper}(aq:∀d,o.dst=some d->d<C.N)(h:Qr C ρ fr hp a.tmps w)(hv:jv (fm C.P dr o) fr hp K):∃aA hp',Qr C ρ aA hp' (a.put o.dst undef).tmps w/\K aA hp':=by
 unfold jv at hv;rw[ME]at hv;cases hd:o.dst with
 |some d=>rw[hd]at hv;exact⟨_,hp,h.ab Qm.TS (aq d hd),hv⟩
 |none=>rw[hd]at hv;exact⟨fr,hp,h,hv⟩
theorem afC{P:Program}{dr:Bool}{o:Oper}:(fm P dr o).cls=(fm P true o).cls:=by
 cases dr with
 |true=>rfl
 | false=>
  have h0:(mO P false o).map cc.cls=(mO P true o).map cc.cls:=by
   unfold mO;split<;>first|rfl|skip
   split<;>first|rfl|skip
   rename_i f _;cases h1:bJ f with
   |none=>simp
   |some pf=>simp only[Kb9,Option.map_map];congr 1
  unfold fm;cases h1:mO P false o<;>cases h2:mO P true o<;>simp_all[cc.cls]
theorem NQ {dr:Bool} {R:Qi} {sk:List It} {ops:Array Oper} {Q:Exit->Act->World->Prop} (Fb:Region.noSelect ops=true) (hQ:B7 C (vc C R sk) Q):∀(n:Nat) (aY:Array Bool) (r:RT) (fr:Fr) (hp:HP) (a:Act) (w:World),
  pO C.P C.N dr ops n aY=some r.strip->l0 ops aY->a.defers=[]->dD C fr hp a.tmps w->vc C R (.o r::sk) fr hp->
  vg C.P ops (NoPanic Q) (xB C.P dr ops) n aY a w:=by
 intro n;have done:∀(n:Nat)(aY:Array Bool)(r:RT)(fr:Fr)(hp:HP)(a:Act)(w:World),Region.ready .any ops aY=[]->a.defers=[]->dD C fr hp a.tmps w->r.strip= .nil->vc C R (.o r::sk) fr hp->vg C.P ops (NoPanic Q) (xB C.P dr ops) n aY a w:=by
  intro n aY r fr hp a w hr aU hs Bj hv;obtain⟨r',fr,hp,h1,h2,hs,hv⟩:=xk r fr hp hs hv;obtain rfl:=PJ (h1.trans Bj) h2;rw[z8]at hv;have hq:NoPanic Q .normal a w:=hQ fr hp a w aU hs hv;cases n with
  |zero=>exact⟨hr,hq⟩
  |succ n=>exact⟨fun _=>hq,by rw[hr];simp⟩
 induction n with
 | zero=>
  intro aY r fr hp a w ho hd aU hs hv;unfold pO at ho;split at ho
  ·rename_i hr;exact done 0 aY r fr hp a w (by simpa using hr) aU hs (Kac ho).symm hv
  ·cases ho
 | succ n ih=>
  intro aY r fr hp a w ho hd aU hs hv;unfold pO at ho;split at ho
  ·rename_i hr;exact done (n+1) aY r fr hp a w (by simpa using hr) aU hs (Kac ho).symm hv
  ·rename_i hr;obtain⟨r',fr,hp,e1,e2,hs,hv⟩:=xk r fr hp hs hv;rw[<-e1]at ho;split at ho
   ·rename_i i anP;have mA:=List.find?_some anP;simp only[Kab,Kaa]at ho;obtain⟨g,⟨o,s8,Jg⟩,r0,du,vX⟩:=ho;obtain⟨r',rfl,rfl⟩:=HZ vX.symm e2;unfold FT at mA;simp only[Kav,List.contains_iff_mem]at mA;obtain⟨⟨Fj,AV⟩,cf⟩:=mA;have Sc:tP C.P ops i=(fm C.P dr o).cls:=by rw[afC];simp[tP,s8]
    rw[An]at hv;obtain⟨ρ,ow⟩:=hs;obtain⟨aq,eA,AP⟩:=Oc ow Jg hv;rw[eA]at AP;have yy:∀all:Bool,(all=false->tP C.P ops i=1)->all=true∨∀j,xB C.P dr ops j=true->j<ops.size->qK ops ops.size i j=true∨j=i:=by
     intro all aP;cases all with
     |true=>exact .inl rfl
     |false=>
      refine .inr fun j hj qo=>?_;rw[aP rfl]at cf;have:=Kap.1 cf j (by simpa using qo);simp only[KbC,Bool.not_eq_true']at this;rcases this with h|h
      ·rw[hj]at h;cases h
      ·exact .inl h
    have fin:∀(all:Bool)(v:Value),(all=false->tP C.P ops i=1)->YF C.P ops all o v a w->(∃aA hp',Qr C ρ aA hp' (a.put o.dst v).tmps w/\vc C R (.o r'::sk) aA hp')->vg C.P ops (NoPanic Q) (xB C.P dr ops) (n+1) aY a w:=by
     intro all v aP hy ⟨aA,hp',ek,oz⟩;exact Un s8 (Region.noSelect_spec Fb) (fun _ _ _ h=>h) (yy all aP) n aY a w hd (Region.free_spec s8 AV) Fj hy
      (ih _ r' aA hp' _ w du (hd.step Fj) (by rw[u6];exact aU) ⟨ρ,ek⟩ oz)
    rcases AP with⟨hw,hv⟩|⟨hw,hv⟩
    ·by_cases h0:tP C.P ops i=0
     ·obtain⟨v,bS,wo⟩:=OM (by rw[<-Sc];exact h0) aq ow hv;exact fin true v (by simp) (.inl ⟨hw,fun w' _=>bS w'⟩) wo
     ·by_cases h1:tP C.P ops i=1
      ·obtain⟨v,b,hb,bS,wo⟩:=ON (by rw[<-Sc];exact h1) aq ow hv;exact fin false v (fun _=>h1) (.inl ⟨hw,fun w' rP=>bS w' (rP.elim (fun h=>by cases h) (fun h=>h.block b hb (fun h=>h)))⟩) wo
      ·split at cf
       ·rename_i h;exact absurd h h0
       ·rename_i h;exact absurd h h1
       ·cases cf
    ·by_cases h1:tP C.P ops i=1
     ·exact fin false undef (fun _=>h1) (.inr ⟨hw,rfl⟩) (NP aq ow hv)
     ·exact fin true undef (by simp) (.inr ⟨hw,rfl⟩) (NP aq ow hv)
   ·
    simp only[Kaa]at ho;obtain⟨rs,cN,vX⟩:=ho;obtain⟨m1,m2⟩:=lM cN;have hbr:∀(rs:List RT) (r':RT) (fr:Fr) (hp:HP),r'.strip=uh rs->dD C fr hp a.tmps w->vc C R (.o r'::sk) fr hp->∀r∈rs,∃r2 fh bI,r2.strip=r/\(∀x,r2≠ .wk x)/\dD C fh bI a.tmps w/\vc C R (.o r2::sk) fh bI:=by
     intro rs;induction rs with
     |nil=>intro _ _ _ _ _ _ r hr;cases hr
     | cons x xs kM=>
      intro r' fr hp du hs hv r hr;obtain⟨r2,fh,bI,f1,f2,hs,hv⟩:=xk r' fr hp hs hv;cases xs with
      |nil=>simp at hr;subst hr;exact⟨r2,fh,bI,f1.trans du,f2,hs,hv⟩
      | cons y ys=>
       rw[uh]at du
       ·obtain⟨a',b',rfl,g1,g2⟩:=aaJ (f1.trans du) f2;rw[Nf]at hv;rcases KaC.1 hr with rfl|hr
        ·obtain⟨r3,Eo,ou,k1,k2,k3,k4⟩:=xk a' fh bI hs hv.1;exact⟨r3,Eo,ou,k1.trans g1,k2,k3,k4⟩
        ·exact kM b' fh bI g2 hs hv.2 r hr
       ·simp
    refine⟨fun h0=>absurd (by rw[h0];rfl) hr,fun i hi=>?_⟩;obtain⟨k,hk⟩:=KaB hi;have yr:k<rs.length:=by rw[m1];exact(Kaf.1 hk).1
    obtain⟨i',az,hf⟩:=m2 k _ (Kag yr);rw[hk]at az;cases az;simp only[Kab,Kaa]at hf;obtain⟨g,⟨o,s8,Jg⟩,r0,du,he⟩:=hf;obtain⟨r2,fh,bI,f1,f2,hs,oz⟩:=hbr rs r' fr hp vX.symm hs hv _ (Kah yr);obtain⟨r',rfl,rfl⟩:=HZ (f1.trans he.symm) f2;rw[An]at oz;obtain⟨ρ,ow⟩:=hs;refine wpOp_mono (fun a' w' hA=>?_) (G5 s8 aU ow Jg oz);obtain⟨sW,⟨aA,hp',ek,th⟩,hx⟩:=hA;refine⟨fun hb=>hx ?_,ih _ r' aA hp' a' w' du (hd.step hi) sW ek th⟩;simpa[xB,s8]using hb
theorem dD.drew{tmps:Array Value}(h:dD C fr hp tmps w):dD C fr hp tmps { w with drawn:=w.drawn+1 }:=by obtain⟨ρ,hs⟩:=h;exact⟨ρ,hs.grow (Ext.drew w _)⟩
theorem l0.start(ops:Array Oper):l0 ops (Array.replicate ops.size false):=by intro j o _ hl;exfalso;simp[Array.getD]at hl
theorem HH{s:SC}{r:RT}(h:s.strip= .rg r):∃r',s= .rg r'/\r'.strip=r:=by
 cases s with
 |rg r'=>simp only[SC.strip,SC.rg.injEq]at h;exact⟨r',rfl,h⟩
 |_=>simp[SC.strip]at h
theorem Uo{R:Qi}{sk:List It}{ops:Array Oper}{draw:Bool}{id:Nat}{s:SC}{Q:Exit->Act->World->Prop}(hm:C.P.follows .mixedOrders=true)(hQ:B7 C (vc C R sk) Q)
  (hc:zA C.P C.N ops draw=some s.strip) (aU:a.defers=[]) (hs:dD C fr hp a.tmps w) (hv:vc C R (.c s::sk) fr hp):(Code.region id ops draw).wp C.P Q a w:=by
 unfold zA at hc;split at hc
 ·rename_i hd;subst hd;split at hc
  ·rename_i Fb;have key:∀(dr:Bool)(wH:Nat)(s:SC),zG C.P C.N ops dr wH=some s.strip->vc C R (.c s::sk) fr hp->(Code.region id ops true).wp C.P Q a w:=by
    intro dr wH s hc hv;unfold zG at hc;split at hc
    ·cases hc
    split at hc
    ·rename_i r0 hr;split at hc
     ·obtain⟨r,rfl,rfl⟩:=HH (Kac hc).symm;rw[vc]at hv;exact wp_region_noPanic (wp_region_any hm (G6 _ _ _ _ _ (NQ Fb hQ _ _ r fr hp a _ hr (l0.start ops) aU hs.drew hv)))
     ·cases hc
    ·cases hc
   split at hc
   ·rename_i s' ek;cases hc;split at ek
    ·simp only[Kaa]at ek;obtain⟨r0,hr,he⟩:=ek;obtain⟨r,rfl,rfl⟩:=HH he.symm;rw[vc]at hv;exact wp_region_noPanic (wp_region_any hm (G6 _ _ _ _ _ (NQ Fb hQ _ _ r fr hp a _ (Cn _ _ _ hr) (l0.start ops) aU hs.drew hv)))
    ·cases ek
   ·exact key _ _ _ hc hv
  ·cases hc
 ·rename_i hd;have hdf:draw=false:=by simpa using hd
  subst hdf;simp only[Kaa]at hc;obtain⟨gs,hgs,he⟩:=hc;obtain⟨r,rfl,hr⟩:=HH he.symm;rw[vc]at hv;obtain⟨m1,m2⟩:=lM hgs;refine wp_region (OO hQ gs (List.range ops.size) r fr hp a w (by simp[m1]) (fun k i g hk hg=>?_) aU hs hr hv);obtain⟨o,ho,ae⟩:=m2 k g hg;have yr:k<ops.size:=by have:=(Kaf.1 hk).1;simpa using this
  rw[KcB yr]at hk;cases hk;exact⟨o,by simpa using ho,ae⟩
end
end Go.FW
